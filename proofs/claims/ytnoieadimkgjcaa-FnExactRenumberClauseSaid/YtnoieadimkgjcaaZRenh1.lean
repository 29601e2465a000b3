/- Made by program: the functions in a shallow form; each form gives Calls. -/
import Derived.Test.YtnoieadimkgjcaaVcCalls
import Derived.Test.YtnoieadimkgjcaaProg
import Derived.Test.YtnoieadimkgjcaaZRenh0
import Derived.KernelRfl
set_option maxRecDepth 100000
namespace Go.Proofs.Ytnoieadimkgjcaa
open Go
/- loop.example/prologserver/spec.l4Plain : function 117 -/
def sh_s_l4Plain (p0 : Value) (w : World) (R : Ending → World → Prop) : Prop :=
  Run Try.prog (sOp (.box 31 (.const p0)) 0) w fun t1 w1 =>
  Run Try.prog (sOp (.fieldAddr 31 (.const t1) 0) 0) w1 fun t3 w2 =>
  Run Try.prog (sOp (.load 3 (.const t3)) 3) w2 fun t4 w3 =>
  Run Try.prog (sBin .eql 3 false true t4 (Value.int .i64 3)) w3 fun t5 w4 =>
  GuardV t5 true (
    Run Try.prog (sOp (.fieldAddr 31 (.const t1) 2) 0) w4 fun t7 w5 =>
    Run Try.prog (sOp (.load 9 (.const t7)) 9) w5 fun t8 w6 =>
    Run Try.prog (sCall (Value.func (.func 147) #[] #[]) [t8]) w6 fun t9 w7 =>
    Run Try.prog (sOp (.pick (.const t5) (.const t9) (.const (Value.bool false))) 4) w7 fun t10 w8 =>
    GuardV t10 true (
      Run Try.prog (sOp (.fieldAddr 31 (.const t1) 2) 0) w8 fun t12 w9 =>
      Run Try.prog (sOp (.load 9 (.const t12)) 9) w9 fun t13 w10 =>
      Run Try.prog (sOp (.fieldAddr 31 (.const t1) 3) 0) w10 fun t14 w11 =>
      Run Try.prog (sOp (.load 27 (.const t14)) 27) w11 fun t15 w12 =>
      Run Try.prog (sBuiltin .len #[27] 3 [false] [t15]) w12 fun t16 w13 =>
      Run Try.prog (sCall (Value.func (.func 148) #[] #[]) [t13, t16]) w13 fun t17 w14 =>
      Run Try.prog (sOp (.unOp .not 4 (.const t17)) 4) w14 fun t18 w15 =>
      Run Try.prog (sOp (.pick (.const t10) (.const t18) (.const (Value.bool false))) 4) w15 fun t19 w16 =>
      GuardV t19 true (
        Run Try.prog (sOp (.fieldAddr 31 (.const t1) 2) 0) w16 fun t21 w17 =>
        Run Try.prog (sOp (.load 9 (.const t21)) 9) w17 fun t22 w18 =>
        Run Try.prog (sCall (Value.func (.func 149) #[] #[]) [t22]) w18 fun t23 w19 =>
        Run Try.prog (sBin .eql 3 false true t23 (Value.int .i64 0)) w19 fun t24 w20 =>
        Run Try.prog (sOp (.pick (.const t19) (.const t24) (.const (Value.bool false))) 4) w20 fun t25 w21 =>
        R (.returned t25) w21) (
        Run Try.prog (sOp (.pick (.const t19) (.const undef) (.const (Value.bool false))) 4) w16 fun t25_2 w22 =>
        R (.returned t25_2) w22)) (
      Run Try.prog (sOp (.pick (.const t10) (.const undef) (.const (Value.bool false))) 4) w8 fun t19_2 w23 =>
      GuardV t19_2 true (
        Run Try.prog (sOp (.fieldAddr 31 (.const t1) 2) 0) w23 fun t21_2 w24 =>
        Run Try.prog (sOp (.load 9 (.const t21_2)) 9) w24 fun t22_2 w25 =>
        Run Try.prog (sCall (Value.func (.func 149) #[] #[]) [t22_2]) w25 fun t23_2 w26 =>
        Run Try.prog (sBin .eql 3 false true t23_2 (Value.int .i64 0)) w26 fun t24_2 w27 =>
        Run Try.prog (sOp (.pick (.const t19_2) (.const t24_2) (.const (Value.bool false))) 4) w27 fun t25_3 w28 =>
        R (.returned t25_3) w28) (
        Run Try.prog (sOp (.pick (.const t19_2) (.const undef) (.const (Value.bool false))) 4) w23 fun t25_4 w29 =>
        R (.returned t25_4) w29))) (
    Run Try.prog (sOp (.pick (.const t5) (.const undef) (.const (Value.bool false))) 4) w4 fun t10_2 w30 =>
    GuardV t10_2 true (
      Run Try.prog (sOp (.fieldAddr 31 (.const t1) 2) 0) w30 fun t12_2 w31 =>
      Run Try.prog (sOp (.load 9 (.const t12_2)) 9) w31 fun t13_2 w32 =>
      Run Try.prog (sOp (.fieldAddr 31 (.const t1) 3) 0) w32 fun t14_2 w33 =>
      Run Try.prog (sOp (.load 27 (.const t14_2)) 27) w33 fun t15_2 w34 =>
      Run Try.prog (sBuiltin .len #[27] 3 [false] [t15_2]) w34 fun t16_2 w35 =>
      Run Try.prog (sCall (Value.func (.func 148) #[] #[]) [t13_2, t16_2]) w35 fun t17_2 w36 =>
      Run Try.prog (sOp (.unOp .not 4 (.const t17_2)) 4) w36 fun t18_2 w37 =>
      Run Try.prog (sOp (.pick (.const t10_2) (.const t18_2) (.const (Value.bool false))) 4) w37 fun t19_3 w38 =>
      GuardV t19_3 true (
        Run Try.prog (sOp (.fieldAddr 31 (.const t1) 2) 0) w38 fun t21_3 w39 =>
        Run Try.prog (sOp (.load 9 (.const t21_3)) 9) w39 fun t22_3 w40 =>
        Run Try.prog (sCall (Value.func (.func 149) #[] #[]) [t22_3]) w40 fun t23_3 w41 =>
        Run Try.prog (sBin .eql 3 false true t23_3 (Value.int .i64 0)) w41 fun t24_3 w42 =>
        Run Try.prog (sOp (.pick (.const t19_3) (.const t24_3) (.const (Value.bool false))) 4) w42 fun t25_5 w43 =>
        R (.returned t25_5) w43) (
        Run Try.prog (sOp (.pick (.const t19_3) (.const undef) (.const (Value.bool false))) 4) w38 fun t25_6 w44 =>
        R (.returned t25_6) w44)) (
      Run Try.prog (sOp (.pick (.const t10_2) (.const undef) (.const (Value.bool false))) 4) w30 fun t19_4 w45 =>
      GuardV t19_4 true (
        Run Try.prog (sOp (.fieldAddr 31 (.const t1) 2) 0) w45 fun t21_4 w46 =>
        Run Try.prog (sOp (.load 9 (.const t21_4)) 9) w46 fun t22_4 w47 =>
        Run Try.prog (sCall (Value.func (.func 149) #[] #[]) [t22_4]) w47 fun t23_4 w48 =>
        Run Try.prog (sBin .eql 3 false true t23_4 (Value.int .i64 0)) w48 fun t24_4 w49 =>
        Run Try.prog (sOp (.pick (.const t19_4) (.const t24_4) (.const (Value.bool false))) 4) w49 fun t25_7 w50 =>
        R (.returned t25_7) w50) (
        Run Try.prog (sOp (.pick (.const t19_4) (.const undef) (.const (Value.bool false))) 4) w45 fun t25_8 w51 =>
        R (.returned t25_8) w51)))
theorem calls_s_l4Plain {p0 : Value} {w : World} {R : Ending → World → Prop} (h : sh_s_l4Plain p0 w R) : Calls Try.prog 117 #[p0] w R :=
  calls_sh .leaf [p0] mixed Try.func117 (by kernel_rfl) (by kernel_rfl) h


/- loop.example/prologserver/spec.l4Cut : function 118 -/
def sh_s_l4Cut (p0 : Value) (w : World) (R : Ending → World → Prop) : Prop :=
  Run Try.prog (sOp (.box 31 (.const p0)) 0) w fun t1 w1 =>
  Run Try.prog (sOp (.fieldAddr 31 (.const t1) 0) 0) w1 fun t3 w2 =>
  Run Try.prog (sOp (.load 3 (.const t3)) 3) w2 fun t4 w3 =>
  Run Try.prog (sBin .eql 3 false true t4 (Value.int .i64 3)) w3 fun t5 w4 =>
  GuardV t5 true (
    Run Try.prog (sOp (.fieldAddr 31 (.const t1) 2) 0) w4 fun t7 w5 =>
    Run Try.prog (sOp (.load 9 (.const t7)) 9) w5 fun t8 w6 =>
    Run Try.prog (sBin .eql 9 false true t8 (Value.string ⟨#[33]⟩)) w6 fun t9 w7 =>
    Run Try.prog (sOp (.pick (.const t5) (.const t9) (.const (Value.bool false))) 4) w7 fun t10 w8 =>
    GuardV t10 true (
      Run Try.prog (sOp (.fieldAddr 31 (.const t1) 3) 0) w8 fun t12 w9 =>
      Run Try.prog (sOp (.load 27 (.const t12)) 27) w9 fun t13 w10 =>
      Run Try.prog (sBuiltin .len #[27] 3 [false] [t13]) w10 fun t14 w11 =>
      Run Try.prog (sBin .eql 3 false true t14 (Value.int .i64 0)) w11 fun t15 w12 =>
      Run Try.prog (sOp (.pick (.const t10) (.const t15) (.const (Value.bool false))) 4) w12 fun t16 w13 =>
      R (.returned t16) w13) (
      Run Try.prog (sOp (.pick (.const t10) (.const undef) (.const (Value.bool false))) 4) w8 fun t16_2 w14 =>
      R (.returned t16_2) w14)) (
    Run Try.prog (sOp (.pick (.const t5) (.const undef) (.const (Value.bool false))) 4) w4 fun t10_2 w15 =>
    GuardV t10_2 true (
      Run Try.prog (sOp (.fieldAddr 31 (.const t1) 3) 0) w15 fun t12_2 w16 =>
      Run Try.prog (sOp (.load 27 (.const t12_2)) 27) w16 fun t13_2 w17 =>
      Run Try.prog (sBuiltin .len #[27] 3 [false] [t13_2]) w17 fun t14_2 w18 =>
      Run Try.prog (sBin .eql 3 false true t14_2 (Value.int .i64 0)) w18 fun t15_2 w19 =>
      Run Try.prog (sOp (.pick (.const t10_2) (.const t15_2) (.const (Value.bool false))) 4) w19 fun t16_3 w20 =>
      R (.returned t16_3) w20) (
      Run Try.prog (sOp (.pick (.const t10_2) (.const undef) (.const (Value.bool false))) 4) w15 fun t16_4 w21 =>
      R (.returned t16_4) w21))
theorem calls_s_l4Cut {p0 : Value} {w : World} {R : Ending → World → Prop} (h : sh_s_l4Cut p0 w R) : Calls Try.prog 118 #[p0] w R :=
  calls_sh .leaf [p0] mixed Try.func118 (by kernel_rfl) (by kernel_rfl) h


/- loop.example/prologserver/impl.ProgramValid$1 : function 119 -/
def sh_i_ProgramValid_1 (p0 : Value) (w : World) (R : Ending → World → Prop) : Prop :=
  Run Try.prog (sOp (.box 50 (.const p0)) 0) w fun t1 w1 =>
  Run Try.prog (sOp (.load 50 (.const t1)) 50) w1 fun t3 w2 =>
  Run Try.prog (sCall (Value.func (.func 86) #[] #[]) [t3]) w2 fun t4 w3 =>
  Run Try.prog (sOp (.unOp .not 4 (.const t4)) 4) w3 fun t5 w4 =>
  R (.returned t5) w4
theorem calls_i_ProgramValid_1 {p0 : Value} {w : World} {R : Ending → World → Prop} (h : sh_i_ProgramValid_1 p0 w R) : Calls Try.prog 119 #[p0] w R :=
  calls_sh .leaf [p0] mixed Try.func119 (by kernel_rfl) (by kernel_rfl) h


/- loop.example/prologserver/impl.isPlain : function 120 -/
def sh_i_isPlain (p0 : Value) (w : World) (R : Ending → World → Prop) : Prop :=
  Run Try.prog (sOp (.box 31 (.const p0)) 0) w fun t1 w1 =>
  Run Try.prog (sOp (.fieldAddr 31 (.const t1) 0) 0) w1 fun t3 w2 =>
  Run Try.prog (sOp (.load 3 (.const t3)) 3) w2 fun t4 w3 =>
  Run Try.prog (sBin .eql 3 false true t4 (Value.int .i64 3)) w3 fun t5 w4 =>
  GuardV t5 true (
    Run Try.prog (sOp (.fieldAddr 31 (.const t1) 2) 0) w4 fun t7 w5 =>
    Run Try.prog (sOp (.load 9 (.const t7)) 9) w5 fun t8 w6 =>
    Run Try.prog (sCall (Value.func (.func 150) #[] #[]) [t8]) w6 fun t9 w7 =>
    Run Try.prog (sOp (.pick (.const t5) (.const t9) (.const (Value.bool false))) 4) w7 fun t10 w8 =>
    GuardV t10 true (
      Run Try.prog (sOp (.fieldAddr 31 (.const t1) 2) 0) w8 fun t12 w9 =>
      Run Try.prog (sOp (.load 9 (.const t12)) 9) w9 fun t13 w10 =>
      Run Try.prog (sCall (Value.func (.func 151) #[] #[]) [t13]) w10 fun t14 w11 =>
      Run Try.prog (sOp (.unOp .not 4 (.const t14)) 4) w11 fun t15 w12 =>
      Run Try.prog (sOp (.pick (.const t10) (.const t15) (.const (Value.bool false))) 4) w12 fun t16 w13 =>
      GuardV t16 true (
        Run Try.prog (sOp (.load 31 (.const t1)) 31) w13 fun t18 w14 =>
        Run Try.prog (sCall (Value.func (.func 152) #[] #[]) [t18]) w14 fun t19 w15 =>
        Run Try.prog (sOp (.unOp .not 4 (.const t19)) 4) w15 fun t20 w16 =>
        Run Try.prog (sOp (.pick (.const t16) (.const t20) (.const (Value.bool false))) 4) w16 fun t21 w17 =>
        R (.returned t21) w17) (
        Run Try.prog (sOp (.pick (.const t16) (.const undef) (.const (Value.bool false))) 4) w13 fun t21_2 w18 =>
        R (.returned t21_2) w18)) (
      Run Try.prog (sOp (.pick (.const t10) (.const undef) (.const (Value.bool false))) 4) w8 fun t16_2 w19 =>
      GuardV t16_2 true (
        Run Try.prog (sOp (.load 31 (.const t1)) 31) w19 fun t18_2 w20 =>
        Run Try.prog (sCall (Value.func (.func 152) #[] #[]) [t18_2]) w20 fun t19_2 w21 =>
        Run Try.prog (sOp (.unOp .not 4 (.const t19_2)) 4) w21 fun t20_2 w22 =>
        Run Try.prog (sOp (.pick (.const t16_2) (.const t20_2) (.const (Value.bool false))) 4) w22 fun t21_3 w23 =>
        R (.returned t21_3) w23) (
        Run Try.prog (sOp (.pick (.const t16_2) (.const undef) (.const (Value.bool false))) 4) w19 fun t21_4 w24 =>
        R (.returned t21_4) w24))) (
    Run Try.prog (sOp (.pick (.const t5) (.const undef) (.const (Value.bool false))) 4) w4 fun t10_2 w25 =>
    GuardV t10_2 true (
      Run Try.prog (sOp (.fieldAddr 31 (.const t1) 2) 0) w25 fun t12_2 w26 =>
      Run Try.prog (sOp (.load 9 (.const t12_2)) 9) w26 fun t13_2 w27 =>
      Run Try.prog (sCall (Value.func (.func 151) #[] #[]) [t13_2]) w27 fun t14_2 w28 =>
      Run Try.prog (sOp (.unOp .not 4 (.const t14_2)) 4) w28 fun t15_2 w29 =>
      Run Try.prog (sOp (.pick (.const t10_2) (.const t15_2) (.const (Value.bool false))) 4) w29 fun t16_3 w30 =>
      GuardV t16_3 true (
        Run Try.prog (sOp (.load 31 (.const t1)) 31) w30 fun t18_3 w31 =>
        Run Try.prog (sCall (Value.func (.func 152) #[] #[]) [t18_3]) w31 fun t19_3 w32 =>
        Run Try.prog (sOp (.unOp .not 4 (.const t19_3)) 4) w32 fun t20_3 w33 =>
        Run Try.prog (sOp (.pick (.const t16_3) (.const t20_3) (.const (Value.bool false))) 4) w33 fun t21_5 w34 =>
        R (.returned t21_5) w34) (
        Run Try.prog (sOp (.pick (.const t16_3) (.const undef) (.const (Value.bool false))) 4) w30 fun t21_6 w35 =>
        R (.returned t21_6) w35)) (
      Run Try.prog (sOp (.pick (.const t10_2) (.const undef) (.const (Value.bool false))) 4) w25 fun t16_4 w36 =>
      GuardV t16_4 true (
        Run Try.prog (sOp (.load 31 (.const t1)) 31) w36 fun t18_4 w37 =>
        Run Try.prog (sCall (Value.func (.func 152) #[] #[]) [t18_4]) w37 fun t19_4 w38 =>
        Run Try.prog (sOp (.unOp .not 4 (.const t19_4)) 4) w38 fun t20_4 w39 =>
        Run Try.prog (sOp (.pick (.const t16_4) (.const t20_4) (.const (Value.bool false))) 4) w39 fun t21_7 w40 =>
        R (.returned t21_7) w40) (
        Run Try.prog (sOp (.pick (.const t16_4) (.const undef) (.const (Value.bool false))) 4) w36 fun t21_8 w41 =>
        R (.returned t21_8) w41)))
theorem calls_i_isPlain {p0 : Value} {w : World} {R : Ending → World → Prop} (h : sh_i_isPlain p0 w R) : Calls Try.prog 120 #[p0] w R :=
  calls_sh .leaf [p0] mixed Try.func120 (by kernel_rfl) (by kernel_rfl) h


/- slices.ContainsFunc[[]loop.example/prologserver/impl.Term,loop.example/prologserver/impl.Term] : function 121 -/
def sh_x_ContainsFunc_Term (p0 p1 : Value) (w : World) (R : Ending → World → Prop) : Prop :=
  Run Try.prog (sCall (Value.func (.func 115) #[] #[]) [p0, p1]) w fun t7 w1 =>
  Run Try.prog (sBin .geq 3 false true t7 (Value.int .i64 0)) w1 fun t8 w2 =>
  R (.returned t8) w2
theorem calls_x_ContainsFunc_Term {p0 p1 : Value} {w : World} {R : Ending → World → Prop} (h : sh_x_ContainsFunc_Term p0 p1 w R) : Calls Try.prog 121 #[p0, p1] w R :=
  calls_sh .leaf [p0, p1] mixed Try.func121 (by kernel_rfl) (by kernel_rfl) h


/- loop.example/prologserver/impl.isCut : function 122 -/
def sh_i_isCut (p0 : Value) (w : World) (R : Ending → World → Prop) : Prop :=
  Run Try.prog (sOp (.box 31 (.const p0)) 0) w fun t1 w1 =>
  Run Try.prog (sOp (.load 31 (.const t1)) 31) w1 fun t3 w2 =>
  Run Try.prog (sCall (Value.func (.func 153) #[] #[]) [t3]) w2 fun t4 w3 =>
  GuardV t4 true (
    Run Try.prog (sOp (.fieldAddr 31 (.const t1) 2) 0) w3 fun t6 w4 =>
    Run Try.prog (sOp (.load 9 (.const t6)) 9) w4 fun t7 w5 =>
    Run Try.prog (sBin .eql 9 false true t7 (Value.string ⟨#[33]⟩)) w5 fun t8 w6 =>
    Run Try.prog (sOp (.pick (.const t4) (.const t8) (.const (Value.bool false))) 4) w6 fun t9 w7 =>
    R (.returned t9) w7) (
    Run Try.prog (sOp (.pick (.const t4) (.const undef) (.const (Value.bool false))) 4) w3 fun t9_2 w8 =>
    R (.returned t9_2) w8)
theorem calls_i_isCut {p0 : Value} {w : World} {R : Ending → World → Prop} (h : sh_i_isCut p0 w R) : Calls Try.prog 122 #[p0] w R :=
  calls_sh .leaf [p0] mixed Try.func122 (by kernel_rfl) (by kernel_rfl) h


/- slices.Index[[]int,int] : function 123 -/
def sh_x_Index_int (p0 p1 : Value) (w : World) (R : Ending → World → Prop) : Prop :=
  Run Try.prog (sBuiltin .len #[84] 3 [false] [p0]) w fun t7 w1 =>
  (∃ (I2 : Value → World → Prop) (m3 : Value → World → Nat), I2 (Value.int .i64 0) w1 ∧
  ∀ t8 _ _ _ _ _ _ _ _ _ _ _ _ : Value, ∀ w4 : World, I2 t8 w4 →
  Run Try.prog (sBin .lss 3 false false t8 t7) w4 fun t9_2 w5 =>
  CondV t9_2 (
    Run Try.prog (sOp (.indexAddr 84 (.const p0) (.const t8)) 0) w5 fun t14_2 w6 =>
  Run Try.prog (sOp (.load 3 (.const t14_2)) 3) w6 fun t15_2 w7 =>
  Run Try.prog (sBin .eql 3 false false p1 t15_2) w7 fun t16_2 w8 =>
  CondV t16_2 (
    R (.returned t8) w8) (
    Run Try.prog (sBin .add 3 false true t8 (Value.int .i64 1)) w8 fun t18_2 w9 =>
  I2 t18_2 w9 ∧ m3 t18_2 w9 < m3 t8 w4)) (
    R (.returned (Value.int .i64 (-1))) w5))
theorem calls_x_Index_int {p0 p1 : Value} {w : World} {R : Ending → World → Prop} (h : sh_x_Index_int p0 p1 w R) : Calls Try.prog 123 #[p0, p1] w R :=
  calls_sh (.seq none .leaf (.seq none (.seq none .leaf (.one (.loop [8] .leaf))) .leaf)) [p0, p1] mixed Try.func123 (by kernel_rfl) (by kernel_rfl) h


/- slices.IndexFunc[[]int,int] : function 124 -/
def sh_x_IndexFunc_int (p0 p1 : Value) (w : World) (R : Ending → World → Prop) : Prop :=
  Run Try.prog (sBuiltin .len #[84] 3 [false] [p0]) w fun t7 w1 =>
  (∃ (I2 : Value → World → Prop) (m3 : Value → World → Nat), I2 (Value.int .i64 0) w1 ∧
  ∀ t8 _ _ _ _ _ _ _ _ _ _ _ _ : Value, ∀ w4 : World, I2 t8 w4 →
  Run Try.prog (sBin .lss 3 false false t8 t7) w4 fun t9_2 w5 =>
  CondV t9_2 (
    Run Try.prog (sOp (.indexAddr 84 (.const p0) (.const t8)) 0) w5 fun t14_2 w6 =>
  Run Try.prog (sOp (.load 3 (.const t14_2)) 3) w6 fun t15_2 w7 =>
  Run Try.prog (sCall p1 [t15_2]) w7 fun t16_2 w8 =>
  CondV t16_2 (
    R (.returned t8) w8) (
    Run Try.prog (sBin .add 3 false true t8 (Value.int .i64 1)) w8 fun t18_2 w9 =>
  I2 t18_2 w9 ∧ m3 t18_2 w9 < m3 t8 w4)) (
    R (.returned (Value.int .i64 (-1))) w5))
theorem calls_x_IndexFunc_int {p0 p1 : Value} {w : World} {R : Ending → World → Prop} (h : sh_x_IndexFunc_int p0 p1 w R) : Calls Try.prog 124 #[p0, p1] w R :=
  calls_sh (.seq none .leaf (.seq none (.seq none .leaf (.one (.loop [8] .leaf))) .leaf)) [p0, p1] mixed Try.func124 (by kernel_rfl) (by kernel_rfl) h


/- loop.example/prologserver/spec.GoalValid : function 125 -/
def sh_s_GoalValid (p0 : Value) (w : World) (R : Ending → World → Prop) : Prop :=
  Run Try.prog (sOp (.box 31 (.const p0)) 0) w fun t1 w1 =>
  Run Try.prog (sOp (.load 31 (.const t1)) 31) w1 fun t3 w2 =>
  Run Try.prog (sCall (Value.func (.func 113) #[] #[]) [t3]) w2 fun t4 w3 =>
  GuardV t4 true (
    Run Try.prog (sOp (.load 31 (.const t1)) 31) w3 fun t6 w4 =>
    Run Try.prog (sCall (Value.func (.func 154) #[] #[]) [t6]) w4 fun t7 w5 =>
    Run Try.prog (sOp (.pick (.const t4) (.const t7) (.const (Value.bool false))) 4) w5 fun t8 w6 =>
    R (.returned t8) w6) (
    Run Try.prog (sOp (.pick (.const t4) (.const undef) (.const (Value.bool false))) 4) w3 fun t8_2 w7 =>
    R (.returned t8_2) w7)
theorem calls_s_GoalValid {p0 : Value} {w : World} {R : Ending → World → Prop} (h : sh_s_GoalValid p0 w R) : Calls Try.prog 125 #[p0] w R :=
  calls_sh .leaf [p0] mixed Try.func125 (by kernel_rfl) (by kernel_rfl) h


/- loop.example/prologserver/spec.TermSame : function 126 -/
def sh_s_TermSame (p0 p1 : Value) (w : World) (R : Ending → World → Prop) : Prop :=
  Run Try.prog (sOp (.box 31 (.const p0)) 0) w fun t2 w1 =>
  Run Try.prog (sOp (.box 31 (.const p1)) 0) w1 fun t3 w2 =>
  (∃ J3 : Value → World → Prop, (
    Run Try.prog (sOp (.fieldAddr 31 (.const t2) 0) 0) w2 fun t6 w4 =>
    Run Try.prog (sOp (.load 3 (.const t6)) 3) w4 fun t7 w5 =>
    Run Try.prog (sOp (.fieldAddr 31 (.const t3) 0) 0) w5 fun t8 w6 =>
    Run Try.prog (sOp (.load 3 (.const t8)) 3) w6 fun t9 w7 =>
    Run Try.prog (sBin .neq 3 false false t7 t9) w7 fun t10 w8 =>
    GuardV t10 false (
      Run Try.prog (sOp (.fieldAddr 31 (.const t2) 1) 0) w8 fun t12 w9 =>
      Run Try.prog (sOp (.load 3 (.const t12)) 3) w9 fun t13 w10 =>
      Run Try.prog (sOp (.fieldAddr 31 (.const t3) 1) 0) w10 fun t14 w11 =>
      Run Try.prog (sOp (.load 3 (.const t14)) 3) w11 fun t15 w12 =>
      Run Try.prog (sBin .neq 3 false false t13 t15) w12 fun t16 w13 =>
      Run Try.prog (sOp (.pick (.const t10) (.const (Value.bool true)) (.const t16)) 4) w13 fun t17 w14 =>
      GuardV t17 false (
        Run Try.prog (sOp (.fieldAddr 31 (.const t2) 2) 0) w14 fun t19 w15 =>
        Run Try.prog (sOp (.load 9 (.const t19)) 9) w15 fun t20 w16 =>
        Run Try.prog (sOp (.fieldAddr 31 (.const t3) 2) 0) w16 fun t21 w17 =>
        Run Try.prog (sOp (.load 9 (.const t21)) 9) w17 fun t22 w18 =>
        Run Try.prog (sBin .neq 9 false false t20 t22) w18 fun t23 w19 =>
        Run Try.prog (sOp (.pick (.const t17) (.const (Value.bool true)) (.const t23)) 4) w19 fun t24 w20 =>
        GuardV t24 false (
          Run Try.prog (sOp (.fieldAddr 31 (.const t2) 3) 0) w20 fun t26 w21 =>
          Run Try.prog (sOp (.load 27 (.const t26)) 27) w21 fun t27 w22 =>
          Run Try.prog (sBuiltin .len #[27] 3 [false] [t27]) w22 fun t28 w23 =>
          Run Try.prog (sOp (.fieldAddr 31 (.const t3) 3) 0) w23 fun t29 w24 =>
          Run Try.prog (sOp (.load 27 (.const t29)) 27) w24 fun t30 w25 =>
          Run Try.prog (sBuiltin .len #[27] 3 [false] [t30]) w25 fun t31 w26 =>
          Run Try.prog (sBin .neq 3 false false t28 t31) w26 fun t32 w27 =>
          Run Try.prog (sOp (.pick (.const t24) (.const (Value.bool true)) (.const t32)) 4) w27 fun t33 w28 =>
          J3 t33 w28) (
          Run Try.prog (sOp (.pick (.const t24) (.const (Value.bool true)) (.const undef)) 4) w20 fun t33_2 w29 =>
          J3 t33_2 w29)) (
        Run Try.prog (sOp (.pick (.const t17) (.const (Value.bool true)) (.const undef)) 4) w14 fun t24_2 w30 =>
        GuardV t24_2 false (
          Run Try.prog (sOp (.fieldAddr 31 (.const t2) 3) 0) w30 fun t26_2 w31 =>
          Run Try.prog (sOp (.load 27 (.const t26_2)) 27) w31 fun t27_2 w32 =>
          Run Try.prog (sBuiltin .len #[27] 3 [false] [t27_2]) w32 fun t28_2 w33 =>
          Run Try.prog (sOp (.fieldAddr 31 (.const t3) 3) 0) w33 fun t29_2 w34 =>
          Run Try.prog (sOp (.load 27 (.const t29_2)) 27) w34 fun t30_2 w35 =>
          Run Try.prog (sBuiltin .len #[27] 3 [false] [t30_2]) w35 fun t31_2 w36 =>
          Run Try.prog (sBin .neq 3 false false t28_2 t31_2) w36 fun t32_2 w37 =>
          Run Try.prog (sOp (.pick (.const t24_2) (.const (Value.bool true)) (.const t32_2)) 4) w37 fun t33_3 w38 =>
          J3 t33_3 w38) (
          Run Try.prog (sOp (.pick (.const t24_2) (.const (Value.bool true)) (.const undef)) 4) w30 fun t33_4 w39 =>
          J3 t33_4 w39))) (
      Run Try.prog (sOp (.pick (.const t10) (.const (Value.bool true)) (.const undef)) 4) w8 fun t17_2 w40 =>
      GuardV t17_2 false (
        Run Try.prog (sOp (.fieldAddr 31 (.const t2) 2) 0) w40 fun t19_2 w41 =>
        Run Try.prog (sOp (.load 9 (.const t19_2)) 9) w41 fun t20_2 w42 =>
        Run Try.prog (sOp (.fieldAddr 31 (.const t3) 2) 0) w42 fun t21_2 w43 =>
        Run Try.prog (sOp (.load 9 (.const t21_2)) 9) w43 fun t22_2 w44 =>
        Run Try.prog (sBin .neq 9 false false t20_2 t22_2) w44 fun t23_2 w45 =>
        Run Try.prog (sOp (.pick (.const t17_2) (.const (Value.bool true)) (.const t23_2)) 4) w45 fun t24_3 w46 =>
        GuardV t24_3 false (
          Run Try.prog (sOp (.fieldAddr 31 (.const t2) 3) 0) w46 fun t26_3 w47 =>
          Run Try.prog (sOp (.load 27 (.const t26_3)) 27) w47 fun t27_3 w48 =>
          Run Try.prog (sBuiltin .len #[27] 3 [false] [t27_3]) w48 fun t28_3 w49 =>
          Run Try.prog (sOp (.fieldAddr 31 (.const t3) 3) 0) w49 fun t29_3 w50 =>
          Run Try.prog (sOp (.load 27 (.const t29_3)) 27) w50 fun t30_3 w51 =>
          Run Try.prog (sBuiltin .len #[27] 3 [false] [t30_3]) w51 fun t31_3 w52 =>
          Run Try.prog (sBin .neq 3 false false t28_3 t31_3) w52 fun t32_3 w53 =>
          Run Try.prog (sOp (.pick (.const t24_3) (.const (Value.bool true)) (.const t32_3)) 4) w53 fun t33_5 w54 =>
          J3 t33_5 w54) (
          Run Try.prog (sOp (.pick (.const t24_3) (.const (Value.bool true)) (.const undef)) 4) w46 fun t33_6 w55 =>
          J3 t33_6 w55)) (
        Run Try.prog (sOp (.pick (.const t17_2) (.const (Value.bool true)) (.const undef)) 4) w40 fun t24_4 w56 =>
        GuardV t24_4 false (
          Run Try.prog (sOp (.fieldAddr 31 (.const t2) 3) 0) w56 fun t26_4 w57 =>
          Run Try.prog (sOp (.load 27 (.const t26_4)) 27) w57 fun t27_4 w58 =>
          Run Try.prog (sBuiltin .len #[27] 3 [false] [t27_4]) w58 fun t28_4 w59 =>
          Run Try.prog (sOp (.fieldAddr 31 (.const t3) 3) 0) w59 fun t29_4 w60 =>
          Run Try.prog (sOp (.load 27 (.const t29_4)) 27) w60 fun t30_4 w61 =>
          Run Try.prog (sBuiltin .len #[27] 3 [false] [t30_4]) w61 fun t31_4 w62 =>
          Run Try.prog (sBin .neq 3 false false t28_4 t31_4) w62 fun t32_4 w63 =>
          Run Try.prog (sOp (.pick (.const t24_4) (.const (Value.bool true)) (.const t32_4)) 4) w63 fun t33_7 w64 =>
          J3 t33_7 w64) (
          Run Try.prog (sOp (.pick (.const t24_4) (.const (Value.bool true)) (.const undef)) 4) w56 fun t33_8 w65 =>
          J3 t33_8 w65)))) ∧
  ∀ t33_9 _ _ _ _ _ _ _ _ _ _ _ _ _ _ _ _ _ _ _ _ _ _ _ _ _ _ _ : Value, ∀ w66 : World, J3 t33_9 w66 →
  CondV t33_9 (
    R (.returned (Value.bool false)) w66) (
    (∃ (I67 : Value → World → Prop) (m68 : Value → World → Nat), I67 (Value.int .i64 0) w66 ∧
  ∀ t5 _ _ _ t52 t51 t50 t49 t48 t47 t46 t45 t44 t43 t42 t41 _ _ _ _ _ : Value, ∀ w69 : World, I67 t5 w69 →
  Run Try.prog (sOp (.fieldAddr 31 (.const t2) 3) 0) w69 fun t35_2 w70 =>
  Run Try.prog (sOp (.load 27 (.const t35_2)) 27) w70 fun t36_2 w71 =>
  Run Try.prog (sBuiltin .len #[27] 3 [false] [t36_2]) w71 fun t37_2 w72 =>
  Run Try.prog (sBin .lss 3 false false t5 t37_2) w72 fun t38_2 w73 =>
  CondV t38_2 (
    (∃ A74 : (Nat → Bool) → Value → Value → Value → Value → Value → Value → Value → Value → Value → Value → Value → Value → World → Prop, A74 (fun _ => false) t52 t51 t50 t49 t48 t47 t46 t45 t44 t43 t42 t41 { w73 with drawn := w73.drawn + 1 } ∧ (
    (∀ D75 : Nat → Bool, D75 0 = false → ∀ t52_2 t51_2 t50_2 t49_2 t48_2 t47_2 t46_2 t45_2 t44_2 t43_2 t42_2 t41_2 : Value, ∀ w76 : World, A74 D75 t52_2 t51_2 t50_2 t49_2 t48_2 t47_2 t46_2 t45_2 t44_2 t43_2 t42_2 t41_2 w76 →
      Run Try.prog (sOp (.fieldAddr 31 (.const t2) 3) 0) w76 fun t41_3 w77 =>
      A74 (setD D75 0) t52_2 t51_2 t50_2 t49_2 t48_2 t47_2 t46_2 t45_2 t44_2 t43_2 t42_2 t41_3 w77) ∧
    (∀ D75 : Nat → Bool, D75 1 = false → D75 0 = true → ∀ t52_2 t51_2 t50_2 t49_2 t48_2 t47_2 t46_2 t45_2 t44_2 t43_2 t42_2 t41_2 : Value, ∀ w78 : World, A74 D75 t52_2 t51_2 t50_2 t49_2 t48_2 t47_2 t46_2 t45_2 t44_2 t43_2 t42_2 t41_2 w78 →
      Run Try.prog (sOp (.load 27 (.const t41_2)) 27) w78 fun t42_3 w79 =>
      A74 (setD D75 1) t52_2 t51_2 t50_2 t49_2 t48_2 t47_2 t46_2 t45_2 t44_2 t43_2 t42_3 t41_2 w79) ∧
    (∀ D75 : Nat → Bool, D75 2 = false → ∀ t52_2 t51_2 t50_2 t49_2 t48_2 t47_2 t46_2 t45_2 t44_2 t43_2 t42_2 t41_2 : Value, ∀ w80 : World, A74 D75 t52_2 t51_2 t50_2 t49_2 t48_2 t47_2 t46_2 t45_2 t44_2 t43_2 t42_2 t41_2 w80 →
      A74 (setD D75 2) t52_2 t51_2 t50_2 t49_2 t48_2 t47_2 t46_2 t45_2 t44_2 t5 t42_2 t41_2 w80) ∧
    (∀ D75 : Nat → Bool, D75 3 = false → D75 1 = true → D75 2 = true → ∀ t52_2 t51_2 t50_2 t49_2 t48_2 t47_2 t46_2 t45_2 t44_2 t43_2 t42_2 t41_2 : Value, ∀ w81 : World, A74 D75 t52_2 t51_2 t50_2 t49_2 t48_2 t47_2 t46_2 t45_2 t44_2 t43_2 t42_2 t41_2 w81 →
      Run Try.prog (sOp (.indexAddr 27 (.const t42_2) (.const t43_2)) 0) w81 fun t44_3 w82 =>
      A74 (setD D75 3) t52_2 t51_2 t50_2 t49_2 t48_2 t47_2 t46_2 t45_2 t44_3 t43_2 t42_2 t41_2 w82) ∧
    (∀ D75 : Nat → Bool, D75 4 = false → D75 3 = true → ∀ t52_2 t51_2 t50_2 t49_2 t48_2 t47_2 t46_2 t45_2 t44_2 t43_2 t42_2 t41_2 : Value, ∀ w83 : World, A74 D75 t52_2 t51_2 t50_2 t49_2 t48_2 t47_2 t46_2 t45_2 t44_2 t43_2 t42_2 t41_2 w83 →
      Run Try.prog (sOp (.load 31 (.const t44_2)) 31) w83 fun t45_3 w84 =>
      A74 (setD D75 4) t52_2 t51_2 t50_2 t49_2 t48_2 t47_2 t46_2 t45_3 t44_2 t43_2 t42_2 t41_2 w84) ∧
    (∀ D75 : Nat → Bool, D75 5 = false → ∀ t52_2 t51_2 t50_2 t49_2 t48_2 t47_2 t46_2 t45_2 t44_2 t43_2 t42_2 t41_2 : Value, ∀ w85 : World, A74 D75 t52_2 t51_2 t50_2 t49_2 t48_2 t47_2 t46_2 t45_2 t44_2 t43_2 t42_2 t41_2 w85 →
      Run Try.prog (sOp (.fieldAddr 31 (.const t3) 3) 0) w85 fun t46_3 w86 =>
      A74 (setD D75 5) t52_2 t51_2 t50_2 t49_2 t48_2 t47_2 t46_3 t45_2 t44_2 t43_2 t42_2 t41_2 w86) ∧
    (∀ D75 : Nat → Bool, D75 6 = false → D75 5 = true → ∀ t52_2 t51_2 t50_2 t49_2 t48_2 t47_2 t46_2 t45_2 t44_2 t43_2 t42_2 t41_2 : Value, ∀ w87 : World, A74 D75 t52_2 t51_2 t50_2 t49_2 t48_2 t47_2 t46_2 t45_2 t44_2 t43_2 t42_2 t41_2 w87 →
      Run Try.prog (sOp (.load 27 (.const t46_2)) 27) w87 fun t47_3 w88 =>
      A74 (setD D75 6) t52_2 t51_2 t50_2 t49_2 t48_2 t47_3 t46_2 t45_2 t44_2 t43_2 t42_2 t41_2 w88) ∧
    (∀ D75 : Nat → Bool, D75 7 = false → ∀ t52_2 t51_2 t50_2 t49_2 t48_2 t47_2 t46_2 t45_2 t44_2 t43_2 t42_2 t41_2 : Value, ∀ w89 : World, A74 D75 t52_2 t51_2 t50_2 t49_2 t48_2 t47_2 t46_2 t45_2 t44_2 t43_2 t42_2 t41_2 w89 →
      A74 (setD D75 7) t52_2 t51_2 t50_2 t49_2 t5 t47_2 t46_2 t45_2 t44_2 t43_2 t42_2 t41_2 w89) ∧
    (∀ D75 : Nat → Bool, D75 8 = false → D75 6 = true → D75 7 = true → ∀ t52_2 t51_2 t50_2 t49_2 t48_2 t47_2 t46_2 t45_2 t44_2 t43_2 t42_2 t41_2 : Value, ∀ w90 : World, A74 D75 t52_2 t51_2 t50_2 t49_2 t48_2 t47_2 t46_2 t45_2 t44_2 t43_2 t42_2 t41_2 w90 →
      Run Try.prog (sOp (.indexAddr 27 (.const t47_2) (.const t48_2)) 0) w90 fun t49_3 w91 =>
      A74 (setD D75 8) t52_2 t51_2 t50_2 t49_3 t48_2 t47_2 t46_2 t45_2 t44_2 t43_2 t42_2 t41_2 w91) ∧
    (∀ D75 : Nat → Bool, D75 9 = false → D75 8 = true → ∀ t52_2 t51_2 t50_2 t49_2 t48_2 t47_2 t46_2 t45_2 t44_2 t43_2 t42_2 t41_2 : Value, ∀ w92 : World, A74 D75 t52_2 t51_2 t50_2 t49_2 t48_2 t47_2 t46_2 t45_2 t44_2 t43_2 t42_2 t41_2 w92 →
      Run Try.prog (sOp (.load 31 (.const t49_2)) 31) w92 fun t50_3 w93 =>
      A74 (setD D75 9) t52_2 t51_2 t50_3 t49_2 t48_2 t47_2 t46_2 t45_2 t44_2 t43_2 t42_2 t41_2 w93) ∧
    (∀ D75 : Nat → Bool, D75 10 = false → D75 4 = true → D75 9 = true → ∀ t52_2 t51_2 t50_2 t49_2 t48_2 t47_2 t46_2 t45_2 t44_2 t43_2 t42_2 t41_2 : Value, ∀ w94 : World, A74 D75 t52_2 t51_2 t50_2 t49_2 t48_2 t47_2 t46_2 t45_2 t44_2 t43_2 t42_2 t41_2 w94 →
      Run Try.prog (sCall (Value.func (.func 126) #[] #[]) [t45_2, t50_2]) w94 fun t51_3 w95 =>
      A74 (setD D75 10) t52_2 t51_3 t50_2 t49_2 t48_2 t47_2 t46_2 t45_2 t44_2 t43_2 t42_2 t41_2 w95) ∧
    (∀ D75 : Nat → Bool, D75 11 = false → D75 10 = true → ∀ t52_2 t51_2 t50_2 t49_2 t48_2 t47_2 t46_2 t45_2 t44_2 t43_2 t42_2 t41_2 : Value, ∀ w96 : World, A74 D75 t52_2 t51_2 t50_2 t49_2 t48_2 t47_2 t46_2 t45_2 t44_2 t43_2 t42_2 t41_2 w96 →
      Run Try.prog (sOp (.unOp .not 4 (.const t51_2)) 4) w96 fun t52_3 w97 =>
      A74 (setD D75 11) t52_3 t51_2 t50_2 t49_2 t48_2 t47_2 t46_2 t45_2 t44_2 t43_2 t42_2 t41_2 w97) ∧
    True) ∧
  ∀ D75 : Nat → Bool, D75 11 = true → D75 10 = true → D75 9 = true → D75 8 = true → D75 7 = true → D75 6 = true → D75 5 = true → D75 4 = true → D75 3 = true → D75 2 = true → D75 1 = true → D75 0 = true → ∀ t52_2 t51_2 t50_2 t49_2 t48_2 t47_2 t46_2 t45_2 t44_2 t43_2 t42_2 t41_2 : Value, ∀ w98 : World, A74 D75 t52_2 t51_2 t50_2 t49_2 t48_2 t47_2 t46_2 t45_2 t44_2 t43_2 t42_2 t41_2 w98 →
  CondV t52_2 (
    R (.returned (Value.bool false)) w98) (
    Run Try.prog (sBin .add 3 false true t5 (Value.int .i64 1)) w98 fun t40_2 w99 =>
  I67 t40_2 w99 ∧ m68 t40_2 w99 < m68 t5 w69))) (
    R (.returned (Value.bool true)) w73))))
theorem calls_s_TermSame {p0 p1 : Value} {w : World} {R : Ending → World → Prop} (h : sh_s_TermSame p0 p1 w R) : Calls Try.prog 126 #[p0, p1] w R :=
  calls_sh (.seq none .leaf (.seq none (.seq (some [33]) .leaf .leaf) (.seq none (.seq none .leaf (.one (.loop [5] .leaf))) .leaf))) [p0, p1] mixed Try.func126 (by kernel_rfl) (by kernel_rfl) h


/- loop.example/prologserver/impl.goalsValid : function 127 -/
def sh_i_goalsValid (p0 : Value) (w : World) (R : Ending → World → Prop) : Prop :=
  Run Try.prog (sBuiltin .len #[27] 3 [false] [p0]) w fun t4 w1 =>
  Run Try.prog (sBin .leq 3 false true t4 (Value.int .i64 6)) w1 fun t5 w2 =>
  GuardV t5 true (
    Run Try.prog (sCall (Value.func (.func 121) #[] #[]) [p0, (Value.func (.func 155) #[] #[])]) w2 fun t8 w3 =>
    Run Try.prog (sOp (.unOp .not 4 (.const t8)) 4) w3 fun t9 w4 =>
    Run Try.prog (sOp (.pick (.const t5) (.const t9) (.const (Value.bool false))) 4) w4 fun t10 w5 =>
    R (.returned t10) w5) (
    Run Try.prog (sOp (.pick (.const t5) (.const undef) (.const (Value.bool false))) 4) w2 fun t10_2 w6 =>
    R (.returned t10_2) w6)
theorem calls_i_goalsValid {p0 : Value} {w : World} {R : Ending → World → Prop} (h : sh_i_goalsValid p0 w R) : Calls Try.prog 127 #[p0] w R :=
  calls_sh .leaf [p0] mixed Try.func127 (by kernel_rfl) (by kernel_rfl) h


/- loop.example/prologserver/impl.TermSame : function 128 -/
def sh_i_TermSame (p0 p1 : Value) (w : World) (R : Ending → World → Prop) : Prop :=
  Run Try.prog (sOp (.box 31 (.const p0)) 0) w fun t2 w1 =>
  Run Try.prog (sOp (.box 31 (.const p1)) 0) w1 fun t3 w2 =>
  Run Try.prog (sOp (.fieldAddr 31 (.const t2) 0) 0) w2 fun t5 w3 =>
  Run Try.prog (sOp (.load 3 (.const t5)) 3) w3 fun t6 w4 =>
  Run Try.prog (sOp (.fieldAddr 31 (.const t3) 0) 0) w4 fun t7 w5 =>
  Run Try.prog (sOp (.load 3 (.const t7)) 3) w5 fun t8 w6 =>
  Run Try.prog (sBin .eql 3 false false t6 t8) w6 fun t9 w7 =>
  GuardV t9 true (
    Run Try.prog (sOp (.fieldAddr 31 (.const t2) 1) 0) w7 fun t11 w8 =>
    Run Try.prog (sOp (.load 3 (.const t11)) 3) w8 fun t12 w9 =>
    Run Try.prog (sOp (.fieldAddr 31 (.const t3) 1) 0) w9 fun t13 w10 =>
    Run Try.prog (sOp (.load 3 (.const t13)) 3) w10 fun t14 w11 =>
    Run Try.prog (sBin .eql 3 false false t12 t14) w11 fun t15 w12 =>
    Run Try.prog (sOp (.pick (.const t9) (.const t15) (.const (Value.bool false))) 4) w12 fun t16 w13 =>
    GuardV t16 true (
      Run Try.prog (sOp (.fieldAddr 31 (.const t2) 2) 0) w13 fun t18 w14 =>
      Run Try.prog (sOp (.load 9 (.const t18)) 9) w14 fun t19 w15 =>
      Run Try.prog (sOp (.fieldAddr 31 (.const t3) 2) 0) w15 fun t20 w16 =>
      Run Try.prog (sOp (.load 9 (.const t20)) 9) w16 fun t21 w17 =>
      Run Try.prog (sBin .eql 9 false false t19 t21) w17 fun t22 w18 =>
      Run Try.prog (sOp (.pick (.const t16) (.const t22) (.const (Value.bool false))) 4) w18 fun t23 w19 =>
      GuardV t23 true (
        Run Try.prog (sOp (.fieldAddr 31 (.const t2) 3) 0) w19 fun t25 w20 =>
        Run Try.prog (sOp (.load 27 (.const t25)) 27) w20 fun t26 w21 =>
        Run Try.prog (sOp (.fieldAddr 31 (.const t3) 3) 0) w21 fun t27 w22 =>
        Run Try.prog (sOp (.load 27 (.const t27)) 27) w22 fun t28 w23 =>
        Run Try.prog (sCall (Value.func (.func 157) #[] #[]) [t26, t28, (Value.func (.func 128) #[] #[])]) w23 fun t29 w24 =>
        Run Try.prog (sOp (.pick (.const t23) (.const t29) (.const (Value.bool false))) 4) w24 fun t30 w25 =>
        R (.returned t30) w25) (
        Run Try.prog (sOp (.pick (.const t23) (.const undef) (.const (Value.bool false))) 4) w19 fun t30_2 w26 =>
        R (.returned t30_2) w26)) (
      Run Try.prog (sOp (.pick (.const t16) (.const undef) (.const (Value.bool false))) 4) w13 fun t23_2 w27 =>
      GuardV t23_2 true (
        Run Try.prog (sOp (.fieldAddr 31 (.const t2) 3) 0) w27 fun t25_2 w28 =>
        Run Try.prog (sOp (.load 27 (.const t25_2)) 27) w28 fun t26_2 w29 =>
        Run Try.prog (sOp (.fieldAddr 31 (.const t3) 3) 0) w29 fun t27_2 w30 =>
        Run Try.prog (sOp (.load 27 (.const t27_2)) 27) w30 fun t28_2 w31 =>
        Run Try.prog (sCall (Value.func (.func 157) #[] #[]) [t26_2, t28_2, (Value.func (.func 128) #[] #[])]) w31 fun t29_2 w32 =>
        Run Try.prog (sOp (.pick (.const t23_2) (.const t29_2) (.const (Value.bool false))) 4) w32 fun t30_3 w33 =>
        R (.returned t30_3) w33) (
        Run Try.prog (sOp (.pick (.const t23_2) (.const undef) (.const (Value.bool false))) 4) w27 fun t30_4 w34 =>
        R (.returned t30_4) w34))) (
    Run Try.prog (sOp (.pick (.const t9) (.const undef) (.const (Value.bool false))) 4) w7 fun t16_2 w35 =>
    GuardV t16_2 true (
      Run Try.prog (sOp (.fieldAddr 31 (.const t2) 2) 0) w35 fun t18_2 w36 =>
      Run Try.prog (sOp (.load 9 (.const t18_2)) 9) w36 fun t19_2 w37 =>
      Run Try.prog (sOp (.fieldAddr 31 (.const t3) 2) 0) w37 fun t20_2 w38 =>
      Run Try.prog (sOp (.load 9 (.const t20_2)) 9) w38 fun t21_2 w39 =>
      Run Try.prog (sBin .eql 9 false false t19_2 t21_2) w39 fun t22_2 w40 =>
      Run Try.prog (sOp (.pick (.const t16_2) (.const t22_2) (.const (Value.bool false))) 4) w40 fun t23_3 w41 =>
      GuardV t23_3 true (
        Run Try.prog (sOp (.fieldAddr 31 (.const t2) 3) 0) w41 fun t25_3 w42 =>
        Run Try.prog (sOp (.load 27 (.const t25_3)) 27) w42 fun t26_3 w43 =>
        Run Try.prog (sOp (.fieldAddr 31 (.const t3) 3) 0) w43 fun t27_3 w44 =>
        Run Try.prog (sOp (.load 27 (.const t27_3)) 27) w44 fun t28_3 w45 =>
        Run Try.prog (sCall (Value.func (.func 157) #[] #[]) [t26_3, t28_3, (Value.func (.func 128) #[] #[])]) w45 fun t29_3 w46 =>
        Run Try.prog (sOp (.pick (.const t23_3) (.const t29_3) (.const (Value.bool false))) 4) w46 fun t30_5 w47 =>
        R (.returned t30_5) w47) (
        Run Try.prog (sOp (.pick (.const t23_3) (.const undef) (.const (Value.bool false))) 4) w41 fun t30_6 w48 =>
        R (.returned t30_6) w48)) (
      Run Try.prog (sOp (.pick (.const t16_2) (.const undef) (.const (Value.bool false))) 4) w35 fun t23_4 w49 =>
      GuardV t23_4 true (
        Run Try.prog (sOp (.fieldAddr 31 (.const t2) 3) 0) w49 fun t25_4 w50 =>
        Run Try.prog (sOp (.load 27 (.const t25_4)) 27) w50 fun t26_4 w51 =>
        Run Try.prog (sOp (.fieldAddr 31 (.const t3) 3) 0) w51 fun t27_4 w52 =>
        Run Try.prog (sOp (.load 27 (.const t27_4)) 27) w52 fun t28_4 w53 =>
        Run Try.prog (sCall (Value.func (.func 157) #[] #[]) [t26_4, t28_4, (Value.func (.func 128) #[] #[])]) w53 fun t29_4 w54 =>
        Run Try.prog (sOp (.pick (.const t23_4) (.const t29_4) (.const (Value.bool false))) 4) w54 fun t30_7 w55 =>
        R (.returned t30_7) w55) (
        Run Try.prog (sOp (.pick (.const t23_4) (.const undef) (.const (Value.bool false))) 4) w49 fun t30_8 w56 =>
        R (.returned t30_8) w56)))
theorem calls_i_TermSame {p0 p1 : Value} {w : World} {R : Ending → World → Prop} (h : sh_i_TermSame p0 p1 w R) : Calls Try.prog 128 #[p0, p1] w R :=
  calls_sh .leaf [p0, p1] mixed Try.func128 (by kernel_rfl) (by kernel_rfl) h


/- loop.example/prologserver/spec.l16Flat : function 129 -/
def sh_s_l16Flat (p0 : Value) (w : World) (R : Ending → World → Prop) : Prop :=
  Run Try.prog (sOp (.box 31 (.const p0)) 0) w fun t1 w1 =>
  (∃ (I2 : Value → World → Prop) (m3 : Value → World → Nat), I2 (Value.int .i64 0) w1 ∧
  ∀ t3 _ _ _ _ _ _ _ _ _ _ _ _ _ _ _ _ : Value, ∀ w4 : World, I2 t3 w4 →
  Run Try.prog (sOp (.fieldAddr 31 (.const t1) 3) 0) w4 fun t5_2 w5 =>
  Run Try.prog (sOp (.load 27 (.const t5_2)) 27) w5 fun t6_2 w6 =>
  Run Try.prog (sBuiltin .len #[27] 3 [false] [t6_2]) w6 fun t7_2 w7 =>
  Run Try.prog (sBin .lss 3 false false t3 t7_2) w7 fun t8_2 w8 =>
  CondV t8_2 (
    Run Try.prog (sOp (.fieldAddr 31 (.const t1) 3) 0) w8 fun t11_2 w9 =>
  Run Try.prog (sOp (.load 27 (.const t11_2)) 27) w9 fun t12_2 w10 =>
  Run Try.prog (sOp (.indexAddr 27 (.const t12_2) (.const t3)) 0) w10 fun t14_2 w11 =>
  Run Try.prog (sOp (.fieldAddr 31 (.const t14_2) 3) 0) w11 fun t15_2 w12 =>
  Run Try.prog (sOp (.load 27 (.const t15_2)) 27) w12 fun t16_2 w13 =>
  Run Try.prog (sBuiltin .len #[27] 3 [false] [t16_2]) w13 fun t17_2 w14 =>
  Run Try.prog (sBin .gtr 3 false true t17_2 (Value.int .i64 0)) w14 fun t18_2 w15 =>
  CondV t18_2 (
    R (.returned (Value.bool false)) w15) (
    Run Try.prog (sBin .add 3 false true t3 (Value.int .i64 1)) w15 fun t10_2 w16 =>
  I2 t10_2 w16 ∧ m3 t10_2 w16 < m3 t3 w4)) (
    Run Try.prog (sOp (.load 31 (.const t1)) 31) w8 fun t19 w17 =>
  Run Try.prog (sCall (Value.func (.func 117) #[] #[]) [t19]) w17 fun t20 w18 =>
  R (.returned t20) w18))
theorem calls_s_l16Flat {p0 : Value} {w : World} {R : Ending → World → Prop} (h : sh_s_l16Flat p0 w R) : Calls Try.prog 129 #[p0] w R :=
  calls_sh (.seq none .leaf (.seq none (.seq none .leaf (.one (.loop [3] .leaf))) .leaf)) [p0] mixed Try.func129 (by kernel_rfl) (by kernel_rfl) h


/- loop.example/prologserver/spec.l1Vars : function 130 -/
def sh_s_l1Vars (p0 p1 : Value) (w : World) (R : Ending → World → Prop) : Prop :=
  Run Try.prog (sOp (.box 31 (.const p1)) 0) w fun t3 w1 =>
  Run Try.prog (sOp (.fieldAddr 31 (.const t3) 0) 0) w1 fun t7 w2 =>
  Run Try.prog (sOp (.load 3 (.const t7)) 3) w2 fun t8 w3 =>
  Run Try.prog (sBin .eql 3 false true t8 (Value.int .i64 1)) w3 fun t9 w4 =>
  CondV t9 (
    (∃ (I5 : Value → World → Prop) (m6 : Value → World → Nat), I5 (Value.int .i64 0) w4 ∧
    ∀ t5 _ _ _ _ t22 t21 t20 t19 t18 t17 t16 _ _ _ _ : Value, ∀ w7 : World, I5 t5 w7 →
    Run Try.prog (sBuiltin .len #[84] 3 [false] [p0]) w7 fun t12_2 w8 =>
    Run Try.prog (sBin .lss 3 false false t5 t12_2) w8 fun t13_2 w9 =>
    CondV t13_2 (
      (∃ A10 : (Nat → Bool) → Value → Value → Value → Value → Value → Value → Value → World → Prop, A10 (fun _ => false) t22 t21 t20 t19 t18 t17 t16 { w9 with drawn := w9.drawn + 1 } ∧ (
      (∀ D11 : Nat → Bool, D11 0 = false → ∀ t22_2 t21_2 t20_2 t19_2 t18_2 t17_2 t16_2 : Value, ∀ w12 : World, A10 D11 t22_2 t21_2 t20_2 t19_2 t18_2 t17_2 t16_2 w12 →
        A10 (setD D11 0) t22_2 t21_2 t20_2 t19_2 t18_2 t17_2 p0 w12) ∧
      (∀ D11 : Nat → Bool, D11 1 = false → ∀ t22_2 t21_2 t20_2 t19_2 t18_2 t17_2 t16_2 : Value, ∀ w13 : World, A10 D11 t22_2 t21_2 t20_2 t19_2 t18_2 t17_2 t16_2 w13 →
        A10 (setD D11 1) t22_2 t21_2 t20_2 t19_2 t18_2 t5 t16_2 w13) ∧
      (∀ D11 : Nat → Bool, D11 2 = false → D11 0 = true → D11 1 = true → ∀ t22_2 t21_2 t20_2 t19_2 t18_2 t17_2 t16_2 : Value, ∀ w14 : World, A10 D11 t22_2 t21_2 t20_2 t19_2 t18_2 t17_2 t16_2 w14 →
        Run Try.prog (sOp (.indexAddr 84 (.const t16_2) (.const t17_2)) 0) w14 fun t18_3 w15 =>
        A10 (setD D11 2) t22_2 t21_2 t20_2 t19_2 t18_3 t17_2 t16_2 w15) ∧
      (∀ D11 : Nat → Bool, D11 3 = false → D11 2 = true → ∀ t22_2 t21_2 t20_2 t19_2 t18_2 t17_2 t16_2 : Value, ∀ w16 : World, A10 D11 t22_2 t21_2 t20_2 t19_2 t18_2 t17_2 t16_2 w16 →
        Run Try.prog (sOp (.load 3 (.const t18_2)) 3) w16 fun t19_3 w17 =>
        A10 (setD D11 3) t22_2 t21_2 t20_2 t19_3 t18_2 t17_2 t16_2 w17) ∧
      (∀ D11 : Nat → Bool, D11 4 = false → ∀ t22_2 t21_2 t20_2 t19_2 t18_2 t17_2 t16_2 : Value, ∀ w18 : World, A10 D11 t22_2 t21_2 t20_2 t19_2 t18_2 t17_2 t16_2 w18 →
        Run Try.prog (sOp (.fieldAddr 31 (.const t3) 1) 0) w18 fun t20_3 w19 =>
        A10 (setD D11 4) t22_2 t21_2 t20_3 t19_2 t18_2 t17_2 t16_2 w19) ∧
      (∀ D11 : Nat → Bool, D11 5 = false → D11 4 = true → ∀ t22_2 t21_2 t20_2 t19_2 t18_2 t17_2 t16_2 : Value, ∀ w20 : World, A10 D11 t22_2 t21_2 t20_2 t19_2 t18_2 t17_2 t16_2 w20 →
        Run Try.prog (sOp (.load 3 (.const t20_2)) 3) w20 fun t21_3 w21 =>
        A10 (setD D11 5) t22_2 t21_3 t20_2 t19_2 t18_2 t17_2 t16_2 w21) ∧
      (∀ D11 : Nat → Bool, D11 6 = false → D11 3 = true → D11 5 = true → ∀ t22_2 t21_2 t20_2 t19_2 t18_2 t17_2 t16_2 : Value, ∀ w22 : World, A10 D11 t22_2 t21_2 t20_2 t19_2 t18_2 t17_2 t16_2 w22 →
        Run Try.prog (sBin .eql 3 false false t19_2 t21_2) w22 fun t22_3 w23 =>
        A10 (setD D11 6) t22_3 t21_2 t20_2 t19_2 t18_2 t17_2 t16_2 w23) ∧
      True) ∧
    ∀ D11 : Nat → Bool, D11 6 = true → D11 5 = true → D11 4 = true → D11 3 = true → D11 2 = true → D11 1 = true → D11 0 = true → ∀ t22_2 t21_2 t20_2 t19_2 t18_2 t17_2 t16_2 : Value, ∀ w24 : World, A10 D11 t22_2 t21_2 t20_2 t19_2 t18_2 t17_2 t16_2 w24 →
    CondV t22_2 (
      R (.returned p0) w24) (
      Run Try.prog (sBin .add 3 false true t5 (Value.int .i64 1)) w24 fun t15_2 w25 =>
    I5 t15_2 w25 ∧ m6 t15_2 w25 < m6 t5 w7))) (
      Run Try.prog (sOp (.fieldAddr 31 (.const t3) 1) 0) w9 fun t25 w26 =>
    Run Try.prog (sOp (.load 3 (.const t25)) 3) w26 fun t26 w27 =>
    Run Try.prog (sBuildSlice 84 1 [(0, t26)]) w27 fun t27 w28 =>
    Run Try.prog (sBuiltin .append #[84, 84] 84 [false, false] [p0, t27]) w28 fun t28 w29 =>
    R (.returned t28) w29))) (
    (∃ (I30 : Value → Value → World → Prop) (m31 : Value → Value → World → Nat), I30 (Value.int .i64 0) p0 w4 ∧
  ∀ t6 _ _ t0 _ _ _ _ _ _ _ _ _ _ _ _ : Value, ∀ w32 : World, I30 t6 t0 w32 →
  Run Try.prog (sOp (.fieldAddr 31 (.const t3) 3) 0) w32 fun t30_2 w33 =>
  Run Try.prog (sOp (.load 27 (.const t30_2)) 27) w33 fun t31_2 w34 =>
  Run Try.prog (sBuiltin .len #[27] 3 [false] [t31_2]) w34 fun t32_2 w35 =>
  Run Try.prog (sBin .lss 3 false false t6 t32_2) w35 fun t33_2 w36 =>
  CondV t33_2 (
    Run Try.prog (sOp (.fieldAddr 31 (.const t3) 3) 0) w36 fun t37_2 w37 =>
  Run Try.prog (sOp (.load 27 (.const t37_2)) 27) w37 fun t38_2 w38 =>
  Run Try.prog (sOp (.indexAddr 27 (.const t38_2) (.const t6)) 0) w38 fun t40_2 w39 =>
  Run Try.prog (sOp (.load 31 (.const t40_2)) 31) w39 fun t41_2 w40 =>
  Run Try.prog (sCall (Value.func (.func 130) #[] #[]) [t0, t41_2]) w40 fun t42_2 w41 =>
  Run Try.prog (sBin .add 3 false true t6 (Value.int .i64 1)) w41 fun t35_2 w42 =>
  I30 t35_2 t42_2 w42 ∧ m31 t35_2 t42_2 w42 < m31 t6 t0 w32) (
    R (.returned t0) w36)))
theorem calls_s_l1Vars {p0 p1 : Value} {w : World} {R : Ending → World → Prop} (h : sh_s_l1Vars p0 p1 w R) : Calls Try.prog 130 #[p0, p1] w R :=
  calls_sh (.seq none .leaf (.seq none (.seq none .leaf (.two (.seq none (.seq none .leaf (.one (.loop [5] .leaf))) .leaf) .leaf)) (.seq none (.seq none .leaf (.one (.loop [6, 0] .leaf))) .leaf))) [p0, p1] mixed Try.func130 (by kernel_rfl) (by kernel_rfl) h


/- loop.example/prologserver/spec.l16In : function 131 -/
def sh_s_l16In (p0 p1 : Value) (w : World) (R : Ending → World → Prop) : Prop :=
  (∃ (I1 : Value → World → Prop) (m2 : Value → World → Nat), I1 (Value.int .i64 0) w ∧
  ∀ t5 _ _ _ _ _ _ _ _ _ _ _ _ _ : Value, ∀ w3 : World, I1 t5 w3 →
  Run Try.prog (sBuiltin .len #[84] 3 [false] [p0]) w3 fun t8_2 w4 =>
  Run Try.prog (sBin .lss 3 false false t5 t8_2) w4 fun t9_2 w5 =>
  CondV t9_2 (
    Run Try.prog (sOp (.indexAddr 84 (.const p0) (.const t5)) 0) w5 fun t14_2 w6 =>
  Run Try.prog (sOp (.load 3 (.const t14_2)) 3) w6 fun t15_2 w7 =>
  Run Try.prog (sBin .eql 3 false false t15_2 p1) w7 fun t17_2 w8 =>
  CondV t17_2 (
    R (.returned (Value.bool true)) w8) (
    Run Try.prog (sBin .add 3 false true t5 (Value.int .i64 1)) w8 fun t11_2 w9 =>
  I1 t11_2 w9 ∧ m2 t11_2 w9 < m2 t5 w3)) (
    R (.returned (Value.bool false)) w5))
theorem calls_s_l16In {p0 p1 : Value} {w : World} {R : Ending → World → Prop} (h : sh_s_l16In p0 p1 w R) : Calls Try.prog 131 #[p0, p1] w R :=
  calls_sh (.seq none .leaf (.seq none (.seq none .leaf (.one (.loop [5] .leaf))) .leaf)) [p0, p1] mixed Try.func131 (by kernel_rfl) (by kernel_rfl) h


/- slices.IndexFunc[[]loop.example/prologserver/impl.Clause,loop.example/prologserver/impl.Clause] : function 132 -/
def sh_x_IndexFunc_Clause (p0 p1 : Value) (w : World) (R : Ending → World → Prop) : Prop :=
  Run Try.prog (sBuiltin .len #[41] 3 [false] [p0]) w fun t7 w1 =>
  (∃ (I2 : Value → World → Prop) (m3 : Value → World → Nat), I2 (Value.int .i64 0) w1 ∧
  ∀ t8 _ _ _ _ _ _ _ _ _ _ _ _ : Value, ∀ w4 : World, I2 t8 w4 →
  Run Try.prog (sBin .lss 3 false false t8 t7) w4 fun t9_2 w5 =>
  CondV t9_2 (
    Run Try.prog (sOp (.indexAddr 41 (.const p0) (.const t8)) 0) w5 fun t14_2 w6 =>
  Run Try.prog (sOp (.load 50 (.const t14_2)) 50) w6 fun t15_2 w7 =>
  Run Try.prog (sCall p1 [t15_2]) w7 fun t16_2 w8 =>
  CondV t16_2 (
    R (.returned t8) w8) (
    Run Try.prog (sBin .add 3 false true t8 (Value.int .i64 1)) w8 fun t18_2 w9 =>
  I2 t18_2 w9 ∧ m3 t18_2 w9 < m3 t8 w4)) (
    R (.returned (Value.int .i64 (-1))) w5))
theorem calls_x_IndexFunc_Clause {p0 p1 : Value} {w : World} {R : Ending → World → Prop} (h : sh_x_IndexFunc_Clause p0 p1 w R) : Calls Try.prog 132 #[p0, p1] w R :=
  calls_sh (.seq none .leaf (.seq none (.seq none .leaf (.one (.loop [8] .leaf))) .leaf)) [p0, p1] mixed Try.func132 (by kernel_rfl) (by kernel_rfl) h


/- loop.example/prologserver/impl.isFlat : function 133 -/
def sh_i_isFlat (p0 : Value) (w : World) (R : Ending → World → Prop) : Prop :=
  Run Try.prog (sOp (.box 31 (.const p0)) 0) w fun t1 w1 =>
  Run Try.prog (sOp (.load 31 (.const t1)) 31) w1 fun t3 w2 =>
  Run Try.prog (sCall (Value.func (.func 120) #[] #[]) [t3]) w2 fun t4 w3 =>
  GuardV t4 true (
    Run Try.prog (sOp (.fieldAddr 31 (.const t1) 3) 0) w3 fun t6 w4 =>
    Run Try.prog (sOp (.load 27 (.const t6)) 27) w4 fun t7 w5 =>
    Run Try.prog (sCall (Value.func (.func 121) #[] #[]) [t7, (Value.func (.func 158) #[] #[])]) w5 fun t8 w6 =>
    Run Try.prog (sOp (.unOp .not 4 (.const t8)) 4) w6 fun t9 w7 =>
    Run Try.prog (sOp (.pick (.const t4) (.const t9) (.const (Value.bool false))) 4) w7 fun t10 w8 =>
    R (.returned t10) w8) (
    Run Try.prog (sOp (.pick (.const t4) (.const undef) (.const (Value.bool false))) 4) w3 fun t10_2 w9 =>
    R (.returned t10_2) w9)
theorem calls_i_isFlat {p0 : Value} {w : World} {R : Ending → World → Prop} (h : sh_i_isFlat p0 w R) : Calls Try.prog 133 #[p0] w R :=
  calls_sh .leaf [p0] mixed Try.func133 (by kernel_rfl) (by kernel_rfl) h


/- loop.example/prologserver/impl.flatClause$1 : function 134 -/
def sh_i_flatClause_1 (p0 : Value) (w : World) (R : Ending → World → Prop) : Prop :=
  Run Try.prog (sOp (.box 31 (.const p0)) 0) w fun t1 w1 =>
  Run Try.prog (sOp (.load 31 (.const t1)) 31) w1 fun t3 w2 =>
  Run Try.prog (sCall (Value.func (.func 133) #[] #[]) [t3]) w2 fun t4 w3 =>
  Run Try.prog (sOp (.unOp .not 4 (.const t4)) 4) w3 fun t5 w4 =>
  R (.returned t5) w4
theorem calls_i_flatClause_1 {p0 : Value} {w : World} {R : Ending → World → Prop} (h : sh_i_flatClause_1 p0 w R) : Calls Try.prog 134 #[p0] w R :=
  calls_sh .leaf [p0] mixed Try.func134 (by kernel_rfl) (by kernel_rfl) h


/- loop.example/prologserver/impl.varsOf : function 135 -/
def sh_i_varsOf (p0 : Value) (w : World) (R : Ending → World → Prop) : Prop :=
  Run Try.prog (sBuiltin .len #[27] 3 [false] [p0]) w fun t7 w1 =>
  (∃ (I2 : Value → Value → World → Prop) (m3 : Value → Value → World → Nat), I2 (Value.int .i64 0) (Value.slice none 0 0) w1 ∧
  ∀ t8 _ t3 _ _ _ _ _ _ _ : Value, ∀ w4 : World, I2 t8 t3 w4 →
  Run Try.prog (sBin .lss 3 false false t8 t7) w4 fun t9_2 w5 =>
  CondV t9_2 (
    Run Try.prog (sOp (.indexAddr 27 (.const p0) (.const t8)) 0) w5 fun t10_2 w6 =>
  Run Try.prog (sOp (.load 31 (.const t10_2)) 31) w6 fun t11_2 w7 =>
  Run Try.prog (sOp (.alloc 31) 0) w7 fun t5_2 w8 =>
  Run Try.prog (sOp (.store 31 (.const t5_2) (.const t11_2)) 0) w8 fun _ w9 =>
  Run Try.prog (sOp (.load 31 (.const t5_2)) 31) w9 fun t12_2 w10 =>
  Run Try.prog (sCall (Value.func (.func 136) #[] #[]) [t12_2, t3]) w10 fun t14_2 w11 =>
  Run Try.prog (sBin .add 3 false true t8 (Value.int .i64 1)) w11 fun t15_2 w12 =>
  I2 t15_2 t14_2 w12 ∧ m3 t15_2 t14_2 w12 < m3 t8 t3 w4) (
    R (.returned t3) w5))
theorem calls_i_varsOf {p0 : Value} {w : World} {R : Ending → World → Prop} (h : sh_i_varsOf p0 w R) : Calls Try.prog 135 #[p0] w R :=
  calls_sh (.seq none .leaf (.seq none .leaf (.seq none (.seq none .leaf (.one (.loop [8, 3] .leaf))) .leaf))) [p0] mixed Try.func135 (by kernel_rfl) (by kernel_rfl) h


/- loop.example/prologserver/impl.addVars : function 136 -/
def sh_i_addVars (p0 p1 : Value) (w : World) (R : Ending → World → Prop) : Prop :=
  Run Try.prog (sOp (.box 31 (.const p0)) 0) w fun t2 w1 =>
  (∃ J2 : Value → World → Prop, (
    (∃ J3 : Value → World → Prop, (
      Run Try.prog (sOp (.fieldAddr 31 (.const t2) 0) 0) w1 fun t7 w4 =>
      Run Try.prog (sOp (.load 3 (.const t7)) 3) w4 fun t8 w5 =>
      Run Try.prog (sBin .eql 3 false true t8 (Value.int .i64 1)) w5 fun t9 w6 =>
      GuardV t9 true (
        Run Try.prog (sOp (.fieldAddr 31 (.const t2) 1) 0) w6 fun t12 w7 =>
        Run Try.prog (sOp (.load 3 (.const t12)) 3) w7 fun t13 w8 =>
        Run Try.prog (sCall (Value.func (.func 81) #[] #[]) [p1, t13]) w8 fun t14 w9 =>
        Run Try.prog (sOp (.unOp .not 4 (.const t14)) 4) w9 fun t15 w10 =>
        Run Try.prog (sOp (.pick (.const t9) (.const t15) (.const (Value.bool false))) 4) w10 fun t16 w11 =>
        J3 t16 w11) (
        Run Try.prog (sOp (.pick (.const t9) (.const undef) (.const (Value.bool false))) 4) w6 fun t16_2 w12 =>
        J3 t16_2 w12)) ∧
    ∀ t16_3 _ _ _ _ _ _ _ _ _ : Value, ∀ w13 : World, J3 t16_3 w13 →
    CondV t16_3 (
      Run Try.prog (sOp (.fieldAddr 31 (.const t2) 1) 0) w13 fun t18 w14 =>
      Run Try.prog (sOp (.load 3 (.const t18)) 3) w14 fun t19 w15 =>
      Run Try.prog (sBuildSlice 84 1 [(0, t19)]) w15 fun t20 w16 =>
      Run Try.prog (sBuiltin .append #[84, 84] 84 [false, false] [p1, t20]) w16 fun t21 w17 =>
      J2 t21 w17) (
      J2 p1 w13))) ∧
  ∀ t1 _ _ _ _ _ _ _ _ _ _ _ _ _ _ _ : Value, ∀ w18 : World, J2 t1 w18 →
  Run Try.prog (sOp (.fieldAddr 31 (.const t2) 3) 0) w18 fun t22 w19 =>
  Run Try.prog (sOp (.load 27 (.const t22)) 27) w19 fun t23 w20 =>
  Run Try.prog (sBuiltin .len #[27] 3 [false] [t23]) w20 fun t24 w21 =>
  (∃ (I22 : Value → Value → World → Prop) (m23 : Value → Value → World → Nat), I22 (Value.int .i64 0) t1 w21 ∧
  ∀ t25 _ t1_2 _ _ _ _ _ _ _ : Value, ∀ w24 : World, I22 t25 t1_2 w24 →
  Run Try.prog (sBin .lss 3 false false t25 t24) w24 fun t26_2 w25 =>
  CondV t26_2 (
    Run Try.prog (sOp (.indexAddr 27 (.const t23) (.const t25)) 0) w25 fun t27_2 w26 =>
  Run Try.prog (sOp (.load 31 (.const t27_2)) 31) w26 fun t28_2 w27 =>
  Run Try.prog (sOp (.alloc 31) 0) w27 fun t6_2 w28 =>
  Run Try.prog (sOp (.store 31 (.const t6_2) (.const t28_2)) 0) w28 fun _ w29 =>
  Run Try.prog (sOp (.load 31 (.const t6_2)) 31) w29 fun t29_2 w30 =>
  Run Try.prog (sCall (Value.func (.func 136) #[] #[]) [t29_2, t1_2]) w30 fun t31_2 w31 =>
  Run Try.prog (sBin .add 3 false true t25 (Value.int .i64 1)) w31 fun t32_2 w32 =>
  I22 t32_2 t31_2 w32 ∧ m23 t32_2 t31_2 w32 < m23 t25 t1_2 w24) (
    R (.returned t1_2) w25)))
theorem calls_i_addVars {p0 p1 : Value} {w : World} {R : Ending → World → Prop} (h : sh_i_addVars p0 p1 w R) : Calls Try.prog 136 #[p0, p1] w R :=
  calls_sh (.seq none .leaf (.seq (some [1]) (.seq (some [16]) .leaf .leaf) (.seq none (.seq none .leaf (.one (.loop [25, 1] .leaf))) .leaf))) [p0, p1] mixed Try.func136 (by kernel_rfl) (by kernel_rfl) h


/- loop.example/prologserver/impl.flatClause$2 : function 137 -/
def sh_i_flatClause_2 (p0 p1 : Value) (w : World) (R : Ending → World → Prop) : Prop :=
  Run Try.prog (sOp (.load 84 (.const p1)) 84) w fun t4 w1 =>
  Run Try.prog (sCall (Value.func (.func 81) #[] #[]) [t4, p0]) w1 fun t6 w2 =>
  Run Try.prog (sOp (.unOp .not 4 (.const t6)) 4) w2 fun t7 w3 =>
  R (.returned t7) w3
theorem calls_i_flatClause_2 {p0 p1 : Value} {w : World} {R : Ending → World → Prop} (h : sh_i_flatClause_2 p0 p1 w R) : Calls Try.prog 137 #[p0, p1] w R :=
  calls_sh .leaf [p0, p1] mixed Try.func137 (by kernel_rfl) (by kernel_rfl) h


/- slices.Index[[]loop.example/prologserver/impl.Pred,loop.example/prologserver/impl.Pred] : function 139 -/
def sh_x_Index_Pred (p0 p1 : Value) (w : World) (R : Ending → World → Prop) : Prop :=
  Run Try.prog (sOp (.box 59 (.const p1)) 0) w fun t3 w1 =>
  Run Try.prog (sBuiltin .len #[62] 3 [false] [p0]) w1 fun t7 w2 =>
  (∃ (I3 : Value → World → Prop) (m4 : Value → World → Nat), I3 (Value.int .i64 0) w2 ∧
  ∀ t8 _ _ _ t16 t15 t14 t13 t12 t11 _ _ _ : Value, ∀ w5 : World, I3 t8 w5 →
  Run Try.prog (sBin .lss 3 false false t8 t7) w5 fun t9_2 w6 =>
  CondV t9_2 (
    (∃ A7 : (Nat → Bool) → Value → Value → Value → Value → Value → Value → World → Prop, A7 (fun _ => false) t16 t15 t14 t13 t12 t11 { w6 with drawn := w6.drawn + 1 } ∧ (
    (∀ D8 : Nat → Bool, D8 0 = false → ∀ t16_2 t15_2 t14_2 t13_2 t12_2 t11_2 : Value, ∀ w9 : World, A7 D8 t16_2 t15_2 t14_2 t13_2 t12_2 t11_2 w9 →
      Run Try.prog (sOp (.load 59 (.const t3)) 59) w9 fun t11_3 w10 =>
      A7 (setD D8 0) t16_2 t15_2 t14_2 t13_2 t12_2 t11_3 w10) ∧
    (∀ D8 : Nat → Bool, D8 1 = false → ∀ t16_2 t15_2 t14_2 t13_2 t12_2 t11_2 : Value, ∀ w11 : World, A7 D8 t16_2 t15_2 t14_2 t13_2 t12_2 t11_2 w11 →
      A7 (setD D8 1) t16_2 t15_2 t14_2 t13_2 p0 t11_2 w11) ∧
    (∀ D8 : Nat → Bool, D8 2 = false → ∀ t16_2 t15_2 t14_2 t13_2 t12_2 t11_2 : Value, ∀ w12 : World, A7 D8 t16_2 t15_2 t14_2 t13_2 t12_2 t11_2 w12 →
      A7 (setD D8 2) t16_2 t15_2 t14_2 t8 t12_2 t11_2 w12) ∧
    (∀ D8 : Nat → Bool, D8 3 = false → D8 1 = true → D8 2 = true → ∀ t16_2 t15_2 t14_2 t13_2 t12_2 t11_2 : Value, ∀ w13 : World, A7 D8 t16_2 t15_2 t14_2 t13_2 t12_2 t11_2 w13 →
      Run Try.prog (sOp (.indexAddr 62 (.const t12_2) (.const t13_2)) 0) w13 fun t14_3 w14 =>
      A7 (setD D8 3) t16_2 t15_2 t14_3 t13_2 t12_2 t11_2 w14) ∧
    (∀ D8 : Nat → Bool, D8 4 = false → D8 3 = true → ∀ t16_2 t15_2 t14_2 t13_2 t12_2 t11_2 : Value, ∀ w15 : World, A7 D8 t16_2 t15_2 t14_2 t13_2 t12_2 t11_2 w15 →
      Run Try.prog (sOp (.load 59 (.const t14_2)) 59) w15 fun t15_3 w16 =>
      A7 (setD D8 4) t16_2 t15_3 t14_2 t13_2 t12_2 t11_2 w16) ∧
    (∀ D8 : Nat → Bool, D8 5 = false → D8 0 = true → D8 4 = true → ∀ t16_2 t15_2 t14_2 t13_2 t12_2 t11_2 : Value, ∀ w17 : World, A7 D8 t16_2 t15_2 t14_2 t13_2 t12_2 t11_2 w17 →
      Run Try.prog (sBin .eql 59 false false t11_2 t15_2) w17 fun t16_3 w18 =>
      A7 (setD D8 5) t16_3 t15_2 t14_2 t13_2 t12_2 t11_2 w18) ∧
    True) ∧
  ∀ D8 : Nat → Bool, D8 5 = true → D8 4 = true → D8 3 = true → D8 2 = true → D8 1 = true → D8 0 = true → ∀ t16_2 t15_2 t14_2 t13_2 t12_2 t11_2 : Value, ∀ w19 : World, A7 D8 t16_2 t15_2 t14_2 t13_2 t12_2 t11_2 w19 →
  CondV t16_2 (
    R (.returned t8) w19) (
    Run Try.prog (sBin .add 3 false true t8 (Value.int .i64 1)) w19 fun t18_2 w20 =>
  I3 t18_2 w20 ∧ m4 t18_2 w20 < m4 t8 w5))) (
    R (.returned (Value.int .i64 (-1))) w6))
theorem calls_x_Index_Pred {p0 p1 : Value} {w : World} {R : Ending → World → Prop} (h : sh_x_Index_Pred p0 p1 w R) : Calls Try.prog 139 #[p0, p1] w R :=
  calls_sh (.seq none .leaf (.seq none (.seq none .leaf (.one (.loop [8] .leaf))) .leaf)) [p0, p1] mixed Try.func139 (by kernel_rfl) (by kernel_rfl) h


/- loop.example/prologserver/spec.l1Renumber : function 140 -/
def sh_s_l1Renumber (p0 : Value) (w : World) (R : Ending → World → Prop) : Prop :=
  Run Try.prog (sBuildSlice 84 0 []) w fun t7 w1 =>
  (∃ (I2 : Value → Value → World → Prop) (m3 : Value → Value → World → Nat), I2 (Value.int .i64 0) t7 w1 ∧
  ∀ t4 _ _ t3 _ _ _ _ _ _ _ _ _ _ : Value, ∀ w4 : World, I2 t4 t3 w4 →
  Run Try.prog (sBuiltin .len #[27] 3 [false] [p0]) w4 fun t10_2 w5 =>
  Run Try.prog (sBin .lss 3 false false t4 t10_2) w5 fun t11_2 w6 =>
  CondV t11_2 (
    Run Try.prog (sOp (.indexAddr 27 (.const p0) (.const t4)) 0) w6 fun t17_2 w7 =>
  Run Try.prog (sOp (.load 31 (.const t17_2)) 31) w7 fun t18_2 w8 =>
  Run Try.prog (sCall (Value.func (.func 130) #[] #[]) [t3, t18_2]) w8 fun t19_2 w9 =>
  Run Try.prog (sBin .add 3 false true t4 (Value.int .i64 1)) w9 fun t13_2 w10 =>
  I2 t13_2 t19_2 w10 ∧ m3 t13_2 t19_2 w10 < m3 t4 t3 w4) (
    Run Try.prog (sBuildSlice 27 0 []) w6 fun t20 w11 =>
  (∃ (I12 : Value → Value → World → Prop) (m13 : Value → Value → World → Nat), I12 (Value.int .i64 0) t20 w11 ∧
  ∀ t6 _ _ t5 _ _ _ _ _ _ _ _ _ _ _ _ _ : Value, ∀ w14 : World, I12 t6 t5 w14 →
  Run Try.prog (sBuiltin .len #[27] 3 [false] [p0]) w14 fun t23_2 w15 =>
  Run Try.prog (sBin .lss 3 false false t6 t23_2) w15 fun t24_2 w16 =>
  CondV t24_2 (
    Run Try.prog (sOp (.indexAddr 27 (.const p0) (.const t6)) 0) w16 fun t30_2 w17 =>
  Run Try.prog (sOp (.load 31 (.const t30_2)) 31) w17 fun t31_2 w18 =>
  Run Try.prog (sCall (Value.func (.func 159) #[] #[]) [t31_2, t3]) w18 fun t33_2 w19 =>
  Run Try.prog (sBuildSlice 27 1 [(0, t33_2)]) w19 fun t34_2 w20 =>
  Run Try.prog (sBuiltin .append #[27, 27] 27 [false, false] [t5, t34_2]) w20 fun t35_2 w21 =>
  Run Try.prog (sBin .add 3 false true t6 (Value.int .i64 1)) w21 fun t26_2 w22 =>
  I12 t26_2 t35_2 w22 ∧ m13 t26_2 t35_2 w22 < m13 t6 t5 w14) (
    R (.returned t5) w16))))
theorem calls_s_l1Renumber {p0 : Value} {w : World} {R : Ending → World → Prop} (h : sh_s_l1Renumber p0 w R) : Calls Try.prog 140 #[p0] w R :=
  calls_sh (.seq none .leaf (.seq none .leaf (.seq none (.seq none .leaf (.one (.loop [4, 3] .leaf))) (.seq none .leaf (.seq none (.seq none .leaf (.one (.loop [6, 5] .leaf))) .leaf))))) [p0] mixed Try.func140 (by kernel_rfl) (by kernel_rfl) h


/- loop.example/prologserver/impl.renumbered : function 141 -/
def sh_i_renumbered (p0 : Value) (w : World) (R : Ending → World → Prop) : Prop :=
  Run Try.prog (sCall (Value.func (.func 135) #[] #[]) [p0]) w fun t8 w1 =>
  Run Try.prog (sOp (.alloc 84) 0) w1 fun t3 w2 =>
  Run Try.prog (sOp (.store 84 (.const t3) (.const t8)) 0) w2 fun _u w3 =>
  Run Try.prog (sBuiltin .len #[27] 3 [false] [p0]) w3 fun t10 w4 =>
  (∃ (I5 : Value → Value → World → Prop) (m6 : Value → Value → World → Nat), I5 (Value.int .i64 0) (Value.slice none 0 0) w4 ∧
  ∀ t11 _ t4 _ _ _ _ _ _ _ _ _ _ : Value, ∀ w7 : World, I5 t11 t4 w7 →
  Run Try.prog (sBin .lss 3 false false t11 t10) w7 fun t12_2 w8 =>
  CondV t12_2 (
    Run Try.prog (sOp (.indexAddr 27 (.const p0) (.const t11)) 0) w8 fun t13_2 w9 =>
  Run Try.prog (sOp (.load 31 (.const t13_2)) 31) w9 fun t14_2 w10 =>
  Run Try.prog (sOp (.alloc 31) 0) w10 fun t6_2 w11 =>
  Run Try.prog (sOp (.store 31 (.const t6_2) (.const t14_2)) 0) w11 fun _ w12 =>
  Run Try.prog (sOp (.load 31 (.const t6_2)) 31) w12 fun t16_2 w13 =>
  Run Try.prog (sMakeFunc (.func 161) [] [t3]) w13 fun t17_2 w14 =>
  Run Try.prog (sCall (Value.func (.func 160) #[] #[]) [t16_2, t17_2]) w14 fun t18_2 w15 =>
  Run Try.prog (sBuildSlice 27 1 [(0, t18_2)]) w15 fun t19_2 w16 =>
  Run Try.prog (sBuiltin .append #[27, 27] 27 [false, false] [t4, t19_2]) w16 fun t20_2 w17 =>
  Run Try.prog (sBin .add 3 false true t11 (Value.int .i64 1)) w17 fun t21_2 w18 =>
  I5 t21_2 t20_2 w18 ∧ m6 t21_2 t20_2 w18 < m6 t11 t4 w7) (
    R (.returned t4) w8))
theorem calls_i_renumbered {p0 : Value} {w : World} {R : Ending → World → Prop} (h : sh_i_renumbered p0 w R) : Calls Try.prog 141 #[p0] w R :=
  calls_sh (.seq none .leaf (.seq none .leaf (.seq none .leaf (.seq none (.seq none .leaf (.one (.loop [11, 4] .leaf))) .leaf)))) [p0] mixed Try.func141 (by kernel_rfl) (by kernel_rfl) h


/- slices.Clip[[]loop.example/prologserver/impl.Term,loop.example/prologserver/impl.Term] : function 142 -/
def sh_x_Clip_Term (p0 : Value) (w : World) (R : Ending → World → Prop) : Prop :=
  Run Try.prog (sBuiltin .len #[27] 3 [false] [p0]) w fun t5 w1 =>
  Run Try.prog (sBuiltin .len #[27] 3 [false] [p0]) w1 fun t7 w2 =>
  Run Try.prog (sOp (.slice 27 (.const p0) none (some (.const t5)) (some (.const t7))) 27) w2 fun t8 w3 =>
  R (.returned t8) w3
theorem calls_x_Clip_Term {p0 : Value} {w : World} {R : Ending → World → Prop} (h : sh_x_Clip_Term p0 w R) : Calls Try.prog 142 #[p0] w R :=
  calls_sh .leaf [p0] mixed Try.func142 (by kernel_rfl) (by kernel_rfl) h


/- loop.example/prologserver/spec.l4Copy : function 143 -/
def sh_s_l4Copy (p0 : Value) (w : World) (R : Ending → World → Prop) : Prop :=
  Run Try.prog (sOp (.box 50 (.const p0)) 0) w fun t1 w1 =>
  Run Try.prog (sOp (.alloc 50) 0) w1 fun t2 w2 =>
  Run Try.prog (sOp (.fieldAddr 50 (.const t1) 0) 0) w2 fun t5 w3 =>
  Run Try.prog (sOp (.load 31 (.const t5)) 31) w3 fun t6 w4 =>
  Run Try.prog (sCall (Value.func (.func 64) #[] #[]) [t6]) w4 fun t7 w5 =>
  Run Try.prog (sBuild 50 [(0, t7)]) w5 fun t8 w6 =>
  Run Try.prog (sOp (.alloc 50) 0) w6 fun t3 w7 =>
  Run Try.prog (sOp (.store 50 (.const t3) (.const t8)) 0) w7 fun _u w8 =>
  (∃ (I9 : Value → World → Prop) (m10 : Value → World → Nat), I9 (Value.int .i64 0) w8 ∧
  ∀ t4 _ _ t26 t25 t24 t23 t22 t21 t20 t19 t18 t17 t16 _ _ _ _ _ : Value, ∀ w11 : World, I9 t4 w11 →
  Run Try.prog (sOp (.fieldAddr 50 (.const t1) 1) 0) w11 fun t10_2 w12 =>
  Run Try.prog (sOp (.load 27 (.const t10_2)) 27) w12 fun t11_2 w13 =>
  Run Try.prog (sBuiltin .len #[27] 3 [false] [t11_2]) w13 fun t12_2 w14 =>
  Run Try.prog (sBin .lss 3 false false t4 t12_2) w14 fun t13_2 w15 =>
  CondV t13_2 (
    (∃ A16 : (Nat → Bool) → Value → Value → Value → Value → Value → Value → Value → Value → Value → Value → Value → World → Prop, A16 (fun _ => false) t26 t25 t24 t23 t22 t21 t20 t19 t18 t17 t16 { w15 with drawn := w15.drawn + 1 } ∧ (
    (∀ D17 : Nat → Bool, D17 0 = false → ∀ t26_2 t25_2 t24_2 t23_2 t22_2 t21_2 t20_2 t19_2 t18_2 t17_2 t16_2 : Value, ∀ w18 : World, A16 D17 t26_2 t25_2 t24_2 t23_2 t22_2 t21_2 t20_2 t19_2 t18_2 t17_2 t16_2 w18 →
      Run Try.prog (sOp (.fieldAddr 50 (.const t3) 1) 0) w18 fun t16_3 w19 =>
      A16 (setD D17 0) t26_2 t25_2 t24_2 t23_2 t22_2 t21_2 t20_2 t19_2 t18_2 t17_2 t16_3 w19) ∧
    (∀ D17 : Nat → Bool, D17 1 = false → D17 0 = true → ∀ t26_2 t25_2 t24_2 t23_2 t22_2 t21_2 t20_2 t19_2 t18_2 t17_2 t16_2 : Value, ∀ w20 : World, A16 D17 t26_2 t25_2 t24_2 t23_2 t22_2 t21_2 t20_2 t19_2 t18_2 t17_2 t16_2 w20 →
      Run Try.prog (sOp (.load 27 (.const t16_2)) 27) w20 fun t17_3 w21 =>
      A16 (setD D17 1) t26_2 t25_2 t24_2 t23_2 t22_2 t21_2 t20_2 t19_2 t18_2 t17_3 t16_2 w21) ∧
    (∀ D17 : Nat → Bool, D17 2 = false → ∀ t26_2 t25_2 t24_2 t23_2 t22_2 t21_2 t20_2 t19_2 t18_2 t17_2 t16_2 : Value, ∀ w22 : World, A16 D17 t26_2 t25_2 t24_2 t23_2 t22_2 t21_2 t20_2 t19_2 t18_2 t17_2 t16_2 w22 →
      Run Try.prog (sOp (.fieldAddr 50 (.const t1) 1) 0) w22 fun t18_3 w23 =>
      A16 (setD D17 2) t26_2 t25_2 t24_2 t23_2 t22_2 t21_2 t20_2 t19_2 t18_3 t17_2 t16_2 w23) ∧
    (∀ D17 : Nat → Bool, D17 3 = false → D17 2 = true → ∀ t26_2 t25_2 t24_2 t23_2 t22_2 t21_2 t20_2 t19_2 t18_2 t17_2 t16_2 : Value, ∀ w24 : World, A16 D17 t26_2 t25_2 t24_2 t23_2 t22_2 t21_2 t20_2 t19_2 t18_2 t17_2 t16_2 w24 →
      Run Try.prog (sOp (.load 27 (.const t18_2)) 27) w24 fun t19_3 w25 =>
      A16 (setD D17 3) t26_2 t25_2 t24_2 t23_2 t22_2 t21_2 t20_2 t19_3 t18_2 t17_2 t16_2 w25) ∧
    (∀ D17 : Nat → Bool, D17 4 = false → ∀ t26_2 t25_2 t24_2 t23_2 t22_2 t21_2 t20_2 t19_2 t18_2 t17_2 t16_2 : Value, ∀ w26 : World, A16 D17 t26_2 t25_2 t24_2 t23_2 t22_2 t21_2 t20_2 t19_2 t18_2 t17_2 t16_2 w26 →
      A16 (setD D17 4) t26_2 t25_2 t24_2 t23_2 t22_2 t21_2 t4 t19_2 t18_2 t17_2 t16_2 w26) ∧
    (∀ D17 : Nat → Bool, D17 5 = false → D17 3 = true → D17 4 = true → ∀ t26_2 t25_2 t24_2 t23_2 t22_2 t21_2 t20_2 t19_2 t18_2 t17_2 t16_2 : Value, ∀ w27 : World, A16 D17 t26_2 t25_2 t24_2 t23_2 t22_2 t21_2 t20_2 t19_2 t18_2 t17_2 t16_2 w27 →
      Run Try.prog (sOp (.indexAddr 27 (.const t19_2) (.const t20_2)) 0) w27 fun t21_3 w28 =>
      A16 (setD D17 5) t26_2 t25_2 t24_2 t23_2 t22_2 t21_3 t20_2 t19_2 t18_2 t17_2 t16_2 w28) ∧
    (∀ D17 : Nat → Bool, D17 6 = false → D17 5 = true → ∀ t26_2 t25_2 t24_2 t23_2 t22_2 t21_2 t20_2 t19_2 t18_2 t17_2 t16_2 : Value, ∀ w29 : World, A16 D17 t26_2 t25_2 t24_2 t23_2 t22_2 t21_2 t20_2 t19_2 t18_2 t17_2 t16_2 w29 →
      Run Try.prog (sOp (.load 31 (.const t21_2)) 31) w29 fun t22_3 w30 =>
      A16 (setD D17 6) t26_2 t25_2 t24_2 t23_2 t22_3 t21_2 t20_2 t19_2 t18_2 t17_2 t16_2 w30) ∧
    (∀ D17 : Nat → Bool, D17 7 = false → D17 6 = true → ∀ t26_2 t25_2 t24_2 t23_2 t22_2 t21_2 t20_2 t19_2 t18_2 t17_2 t16_2 : Value, ∀ w31 : World, A16 D17 t26_2 t25_2 t24_2 t23_2 t22_2 t21_2 t20_2 t19_2 t18_2 t17_2 t16_2 w31 →
      Run Try.prog (sCall (Value.func (.func 64) #[] #[]) [t22_2]) w31 fun t23_3 w32 =>
      A16 (setD D17 7) t26_2 t25_2 t24_2 t23_3 t22_2 t21_2 t20_2 t19_2 t18_2 t17_2 t16_2 w32) ∧
    (∀ D17 : Nat → Bool, D17 8 = false → D17 7 = true → ∀ t26_2 t25_2 t24_2 t23_2 t22_2 t21_2 t20_2 t19_2 t18_2 t17_2 t16_2 : Value, ∀ w33 : World, A16 D17 t26_2 t25_2 t24_2 t23_2 t22_2 t21_2 t20_2 t19_2 t18_2 t17_2 t16_2 w33 →
      Run Try.prog (sBuildSlice 27 1 [(0, t23_2)]) w33 fun t24_3 w34 =>
      A16 (setD D17 8) t26_2 t25_2 t24_3 t23_2 t22_2 t21_2 t20_2 t19_2 t18_2 t17_2 t16_2 w34) ∧
    (∀ D17 : Nat → Bool, D17 9 = false → D17 1 = true → D17 8 = true → D17 7 = true → ∀ t26_2 t25_2 t24_2 t23_2 t22_2 t21_2 t20_2 t19_2 t18_2 t17_2 t16_2 : Value, ∀ w35 : World, A16 D17 t26_2 t25_2 t24_2 t23_2 t22_2 t21_2 t20_2 t19_2 t18_2 t17_2 t16_2 w35 →
      Run Try.prog (sBuiltin .append #[27, 27] 27 [false, false] [t17_2, t24_2]) w35 fun t25_3 w36 =>
      A16 (setD D17 9) t26_2 t25_3 t24_2 t23_2 t22_2 t21_2 t20_2 t19_2 t18_2 t17_2 t16_2 w36) ∧
    (∀ D17 : Nat → Bool, D17 10 = false → D17 0 = true → D17 1 = true → D17 2 = true → D17 3 = true → D17 4 = true → D17 5 = true → D17 6 = true → D17 7 = true → D17 8 = true → D17 9 = true → ∀ t26_2 t25_2 t24_2 t23_2 t22_2 t21_2 t20_2 t19_2 t18_2 t17_2 t16_2 : Value, ∀ w37 : World, A16 D17 t26_2 t25_2 t24_2 t23_2 t22_2 t21_2 t20_2 t19_2 t18_2 t17_2 t16_2 w37 →
      Run Try.prog (sOp (.fieldAddr 50 (.const t3) 1) 0) w37 fun t26_3 w38 =>
      A16 (setD D17 10) t26_3 t25_2 t24_2 t23_2 t22_2 t21_2 t20_2 t19_2 t18_2 t17_2 t16_2 w38) ∧
    (∀ D17 : Nat → Bool, D17 11 = false → D17 10 = true → D17 9 = true → D17 9 = true → D17 0 = true → D17 1 = true → D17 2 = true → D17 3 = true → D17 4 = true → D17 5 = true → D17 6 = true → D17 7 = true → D17 8 = true → D17 9 = true → ∀ t26_2 t25_2 t24_2 t23_2 t22_2 t21_2 t20_2 t19_2 t18_2 t17_2 t16_2 : Value, ∀ w39 : World, A16 D17 t26_2 t25_2 t24_2 t23_2 t22_2 t21_2 t20_2 t19_2 t18_2 t17_2 t16_2 w39 →
      Run Try.prog (sOp (.store 27 (.const t26_2) (.const t25_2)) 0) w39 fun _u w40 =>
      A16 (setD D17 11) t26_2 t25_2 t24_2 t23_2 t22_2 t21_2 t20_2 t19_2 t18_2 t17_2 t16_2 w40) ∧
    True) ∧
  ∀ D17 : Nat → Bool, D17 11 = true → D17 10 = true → D17 9 = true → D17 8 = true → D17 7 = true → D17 6 = true → D17 5 = true → D17 4 = true → D17 3 = true → D17 2 = true → D17 1 = true → D17 0 = true → ∀ t26_2 t25_2 t24_2 t23_2 t22_2 t21_2 t20_2 t19_2 t18_2 t17_2 t16_2 : Value, ∀ w41 : World, A16 D17 t26_2 t25_2 t24_2 t23_2 t22_2 t21_2 t20_2 t19_2 t18_2 t17_2 t16_2 w41 →
  Run Try.prog (sBin .add 3 false true t4 (Value.int .i64 1)) w41 fun t15_2 w42 =>
  I9 t15_2 w42 ∧ m10 t15_2 w42 < m10 t4 w11)) (
    Run Try.prog (sOp (.load 50 (.const t3)) 50) w15 fun t27 w43 =>
  Run Try.prog (sOp (.store 50 (.const t2) (.const t27)) 0) w43 fun _ w44 =>
  (LoadV Try.prog 50 t2 w44 fun r0 => R (.returned r0) w44)))
theorem calls_s_l4Copy {p0 : Value} {w : World} {R : Ending → World → Prop} (h : sh_s_l4Copy p0 w R) : Calls Try.prog 143 #[p0] w R :=
  calls_sh (.seq none .leaf (.seq none .leaf (.seq none (.seq none .leaf (.one (.loop [4] .leaf))) .leaf))) [p0] mixed Try.func143 (by kernel_rfl) (by kernel_rfl) h


/- loop.example/prologserver/spec.l1Shape : function 144 -/
def sh_s_l1Shape (p0 p1 : Value) (w : World) (R : Ending → World → Prop) : Prop :=
  Run Try.prog (sOp (.box 31 (.const p0)) 0) w fun t2 w1 =>
  (∃ J2 : Value → World → Prop, (
    Run Try.prog (sBin .lss 3 false true p1 (Value.int .i64 1)) w1 fun t7 w3 =>
    GuardV t7 false (
      Run Try.prog (sOp (.load 31 (.const t2)) 31) w3 fun t9 w4 =>
      Run Try.prog (sCall (Value.func (.func 163) #[] #[]) [t9]) w4 fun t10 w5 =>
      Run Try.prog (sOp (.unOp .not 4 (.const t10)) 4) w5 fun t11 w6 =>
      Run Try.prog (sOp (.pick (.const t7) (.const (Value.bool true)) (.const t11)) 4) w6 fun t12 w7 =>
      J2 t12 w7) (
      Run Try.prog (sOp (.pick (.const t7) (.const (Value.bool true)) (.const undef)) 4) w3 fun t12_2 w8 =>
      J2 t12_2 w8)) ∧
  ∀ t12_3 _ _ _ _ _ _ : Value, ∀ w9 : World, J2 t12_3 w9 →
  CondV t12_3 (
    R (.returned (Value.bool false)) w9) (
    (∃ (I10 : Value → World → Prop) (m11 : Value → World → Nat), I10 (Value.int .i64 0) w9 ∧
  ∀ t5 _ _ _ _ _ _ _ _ _ _ _ _ _ _ _ _ _ : Value, ∀ w12 : World, I10 t5 w12 →
  Run Try.prog (sOp (.fieldAddr 31 (.const t2) 3) 0) w12 fun t14_2 w13 =>
  Run Try.prog (sOp (.load 27 (.const t14_2)) 27) w13 fun t15_2 w14 =>
  Run Try.prog (sBuiltin .len #[27] 3 [false] [t15_2]) w14 fun t16_2 w15 =>
  Run Try.prog (sBin .lss 3 false false t5 t16_2) w15 fun t17_2 w16 =>
  CondV t17_2 (
    Run Try.prog (sOp (.fieldAddr 31 (.const t2) 3) 0) w16 fun t20_2 w17 =>
  Run Try.prog (sOp (.load 27 (.const t20_2)) 27) w17 fun t21_2 w18 =>
  Run Try.prog (sOp (.indexAddr 27 (.const t21_2) (.const t5)) 0) w18 fun t23_2 w19 =>
  Run Try.prog (sOp (.load 31 (.const t23_2)) 31) w19 fun t24_2 w20 =>
  Run Try.prog (sBin .sub 3 false true p1 (Value.int .i64 1)) w20 fun t26_2 w21 =>
  Run Try.prog (sCall (Value.func (.func 144) #[] #[]) [t24_2, t26_2]) w21 fun t27_2 w22 =>
  Run Try.prog (sOp (.unOp .not 4 (.const t27_2)) 4) w22 fun t28_2 w23 =>
  CondV t28_2 (
    R (.returned (Value.bool false)) w23) (
    Run Try.prog (sBin .add 3 false true t5 (Value.int .i64 1)) w23 fun t19_2 w24 =>
  I10 t19_2 w24 ∧ m11 t19_2 w24 < m11 t5 w12)) (
    R (.returned (Value.bool true)) w16))))
theorem calls_s_l1Shape {p0 p1 : Value} {w : World} {R : Ending → World → Prop} (h : sh_s_l1Shape p0 p1 w R) : Calls Try.prog 144 #[p0, p1] w R :=
  calls_sh (.seq none .leaf (.seq none (.seq (some [12]) .leaf .leaf) (.seq none (.seq none .leaf (.one (.loop [5] .leaf))) .leaf))) [p0, p1] mixed Try.func144 (by kernel_rfl) (by kernel_rfl) h


/- loop.example/prologserver/spec.l1Count : function 145 -/
def sh_s_l1Count (p0 p1 : Value) (w : World) (R : Ending → World → Prop) : Prop :=
  Run Try.prog (sOp (.box 31 (.const p0)) 0) w fun t2 w1 =>
  (∃ (I2 : Value → Value → World → Prop) (m3 : Value → Value → World → Nat), I2 (Value.int .i64 0) (Value.int .i64 1) w1 ∧
  ∀ t6 _ _ t5 _ _ _ _ _ _ _ _ _ _ _ _ _ _ _ _ _ _ _ _ _ : Value, ∀ w4 : World, I2 t6 t5 w4 →
  (∃ J5 : Value → World → Prop, (
    Run Try.prog (sOp (.fieldAddr 31 (.const t2) 3) 0) w4 fun t8_2 w6 =>
    Run Try.prog (sOp (.load 27 (.const t8_2)) 27) w6 fun t9_2 w7 =>
    Run Try.prog (sBuiltin .len #[27] 3 [false] [t9_2]) w7 fun t10_2 w8 =>
    Run Try.prog (sBin .lss 3 false false t6 t10_2) w8 fun t11_2 w9 =>
    GuardV t11_2 true (
      Run Try.prog (sBin .leq 3 false false t5 p1) w9 fun t15_2 w10 =>
      Run Try.prog (sOp (.pick (.const t11_2) (.const t15_2) (.const (Value.bool false))) 4) w10 fun t16_2 w11 =>
      J5 t16_2 w11) (
      Run Try.prog (sOp (.pick (.const t11_2) (.const undef) (.const (Value.bool false))) 4) w9 fun t16_3 w12 =>
      J5 t16_3 w12)) ∧
  ∀ t16_4 _ _ _ _ _ _ _ _ _ : Value, ∀ w13 : World, J5 t16_4 w13 →
  CondV t16_4 (
    Run Try.prog (sOp (.fieldAddr 31 (.const t2) 3) 0) w13 fun t20_2 w14 =>
  Run Try.prog (sOp (.load 27 (.const t20_2)) 27) w14 fun t21_2 w15 =>
  Run Try.prog (sOp (.indexAddr 27 (.const t21_2) (.const t6)) 0) w15 fun t23_2 w16 =>
  Run Try.prog (sOp (.load 31 (.const t23_2)) 31) w16 fun t24_2 w17 =>
  Run Try.prog (sBin .sub 3 false false p1 t5) w17 fun t27_2 w18 =>
  Run Try.prog (sCall (Value.func (.func 145) #[] #[]) [t24_2, t27_2]) w18 fun t28_2 w19 =>
  Run Try.prog (sBin .add 3 false false t5 t28_2) w19 fun t29_2 w20 =>
  Run Try.prog (sBin .add 3 false true t6 (Value.int .i64 1)) w20 fun t18_2 w21 =>
  I2 t18_2 t29_2 w21 ∧ m3 t18_2 t29_2 w21 < m3 t6 t5 w4) (
    R (.returned t5) w13)))
theorem calls_s_l1Count {p0 p1 : Value} {w : World} {R : Ending → World → Prop} (h : sh_s_l1Count p0 p1 w R) : Calls Try.prog 145 #[p0, p1] w R :=
  calls_sh (.seq none .leaf (.seq none .leaf (.seq none (.seq none .leaf (.one (.loop [6, 5] (.seq none (.seq (some [16]) .leaf .leaf) .leaf)))) .leaf))) [p0, p1] mixed Try.func145 (by kernel_rfl) (by kernel_rfl) h


/- loop.example/prologserver/impl.scan : function 146 -/
def sh_i_scan (p0 p1 p2 : Value) (w : World) (R : Ending → World → Prop) : Prop :=
  Run Try.prog (sOp (.box 31 (.const p0)) 0) w fun t3 w1 =>
  Run Try.prog (sOp (.box 3 (.const p1)) 0) w1 fun t4 w2 =>
  Run Try.prog (sOp (.box 119 (.const p2)) 0) w2 fun t5 w3 =>
  Run Try.prog (sOp (.load 119 (.const t5)) 119) w3 fun t7 w4 =>
  Run Try.prog (sOp (.nilCheck (.const t7)) 0) w4 fun t8 w5 =>
  Run Try.prog (sOp (.load 3 (.const t8)) 3) w5 fun t9 w6 =>
  Run Try.prog (sBin .add 3 false true t9 (Value.int .i64 1)) w6 fun t10 w7 =>
  Run Try.prog (sOp (.nilCheck (.const t7)) 0) w7 fun t11 w8 =>
  Run Try.prog (sOp (.store 3 (.const t11) (.const t10)) 0) w8 fun _ w9 =>
  (∃ J10 : Value → World → Prop, (
    Run Try.prog (sOp (.load 119 (.const t5)) 119) w9 fun t12 w11 =>
    Run Try.prog (sOp (.nilCheck (.const t12)) 0) w11 fun t13 w12 =>
    Run Try.prog (sOp (.load 3 (.const t13)) 3) w12 fun t14 w13 =>
    Run Try.prog (sBin .gtr 3 false true t14 (Value.int .i64 120)) w13 fun t15 w14 =>
    GuardV t15 false (
      Run Try.prog (sOp (.load 3 (.const t4)) 3) w14 fun t17 w15 =>
      Run Try.prog (sBin .gtr 3 false true t17 (Value.int .i64 30)) w15 fun t18 w16 =>
      Run Try.prog (sOp (.pick (.const t15) (.const (Value.bool true)) (.const t18)) 4) w16 fun t19 w17 =>
      J10 t19 w17) (
      Run Try.prog (sOp (.pick (.const t15) (.const (Value.bool true)) (.const undef)) 4) w14 fun t19_2 w18 =>
      J10 t19_2 w18)) ∧
  ∀ t19_3 _ _ _ _ _ _ _ : Value, ∀ w19 : World, J10 t19_3 w19 →
  CondV t19_3 (
    R (.returned (Value.bool false)) w19) (
    Run Try.prog (sOp (.fieldAddr 31 (.const t3) 0) 0) w19 fun t20 w20 =>
  Run Try.prog (sOp (.load 3 (.const t20)) 3) w20 fun t21 w21 =>
  Run Try.prog (sBin .eql 3 false true t21 (Value.int .i64 1)) w21 fun t23 w22 =>
  CondV t23 (
    Run Try.prog (sOp (.fieldAddr 31 (.const t3) 1) 0) w22 fun t24 w23 =>
    Run Try.prog (sOp (.load 3 (.const t24)) 3) w23 fun t25 w24 =>
    Run Try.prog (sCall (Value.func (.func 76) #[] #[]) [t25, (Value.int .i64 0), (Value.int .i64 25)]) w24 fun t26 w25 =>
    GuardV t26 true (
      Run Try.prog (sOp (.fieldAddr 31 (.const t3) 2) 0) w25 fun t28 w26 =>
      Run Try.prog (sOp (.load 9 (.const t28)) 9) w26 fun t29 w27 =>
      Run Try.prog (sBin .eql 9 false true t29 (Value.string ⟨#[]⟩)) w27 fun t30 w28 =>
      Run Try.prog (sOp (.pick (.const t26) (.const t30) (.const (Value.bool false))) 4) w28 fun t31 w29 =>
      GuardV t31 true (
        Run Try.prog (sOp (.fieldAddr 31 (.const t3) 3) 0) w29 fun t33 w30 =>
        Run Try.prog (sOp (.load 27 (.const t33)) 27) w30 fun t34 w31 =>
        Run Try.prog (sBuiltin .len #[27] 3 [false] [t34]) w31 fun t35 w32 =>
        Run Try.prog (sBin .eql 3 false true t35 (Value.int .i64 0)) w32 fun t36 w33 =>
        Run Try.prog (sOp (.pick (.const t31) (.const t36) (.const (Value.bool false))) 4) w33 fun t37 w34 =>
        R (.returned t37) w34) (
        Run Try.prog (sOp (.pick (.const t31) (.const undef) (.const (Value.bool false))) 4) w29 fun t37_2 w35 =>
        R (.returned t37_2) w35)) (
      Run Try.prog (sOp (.pick (.const t26) (.const undef) (.const (Value.bool false))) 4) w25 fun t31_2 w36 =>
      GuardV t31_2 true (
        Run Try.prog (sOp (.fieldAddr 31 (.const t3) 3) 0) w36 fun t33_2 w37 =>
        Run Try.prog (sOp (.load 27 (.const t33_2)) 27) w37 fun t34_2 w38 =>
        Run Try.prog (sBuiltin .len #[27] 3 [false] [t34_2]) w38 fun t35_2 w39 =>
        Run Try.prog (sBin .eql 3 false true t35_2 (Value.int .i64 0)) w39 fun t36_2 w40 =>
        Run Try.prog (sOp (.pick (.const t31_2) (.const t36_2) (.const (Value.bool false))) 4) w40 fun t37_3 w41 =>
        R (.returned t37_3) w41) (
        Run Try.prog (sOp (.pick (.const t31_2) (.const undef) (.const (Value.bool false))) 4) w36 fun t37_4 w42 =>
        R (.returned t37_4) w42))) (
    Run Try.prog (sBin .eql 3 false true t21 (Value.int .i64 2)) w22 fun t39 w43 =>
    CondV t39 (
      Run Try.prog (sOp (.fieldAddr 31 (.const t3) 1) 0) w43 fun t40 w44 =>
      Run Try.prog (sOp (.load 3 (.const t40)) 3) w44 fun t41 w45 =>
      Run Try.prog (sCall (Value.func (.func 76) #[] #[]) [t41, (Value.int .i64 (-999)), (Value.int .i64 999)]) w45 fun t42 w46 =>
      GuardV t42 true (
        Run Try.prog (sOp (.fieldAddr 31 (.const t3) 2) 0) w46 fun t44 w47 =>
        Run Try.prog (sOp (.load 9 (.const t44)) 9) w47 fun t45 w48 =>
        Run Try.prog (sBin .eql 9 false true t45 (Value.string ⟨#[]⟩)) w48 fun t46 w49 =>
        Run Try.prog (sOp (.pick (.const t42) (.const t46) (.const (Value.bool false))) 4) w49 fun t47 w50 =>
        GuardV t47 true (
          Run Try.prog (sOp (.fieldAddr 31 (.const t3) 3) 0) w50 fun t49 w51 =>
          Run Try.prog (sOp (.load 27 (.const t49)) 27) w51 fun t50 w52 =>
          Run Try.prog (sBuiltin .len #[27] 3 [false] [t50]) w52 fun t51 w53 =>
          Run Try.prog (sBin .eql 3 false true t51 (Value.int .i64 0)) w53 fun t52 w54 =>
          Run Try.prog (sOp (.pick (.const t47) (.const t52) (.const (Value.bool false))) 4) w54 fun t53 w55 =>
          R (.returned t53) w55) (
          Run Try.prog (sOp (.pick (.const t47) (.const undef) (.const (Value.bool false))) 4) w50 fun t53_2 w56 =>
          R (.returned t53_2) w56)) (
        Run Try.prog (sOp (.pick (.const t42) (.const undef) (.const (Value.bool false))) 4) w46 fun t47_2 w57 =>
        GuardV t47_2 true (
          Run Try.prog (sOp (.fieldAddr 31 (.const t3) 3) 0) w57 fun t49_2 w58 =>
          Run Try.prog (sOp (.load 27 (.const t49_2)) 27) w58 fun t50_2 w59 =>
          Run Try.prog (sBuiltin .len #[27] 3 [false] [t50_2]) w59 fun t51_2 w60 =>
          Run Try.prog (sBin .eql 3 false true t51_2 (Value.int .i64 0)) w60 fun t52_2 w61 =>
          Run Try.prog (sOp (.pick (.const t47_2) (.const t52_2) (.const (Value.bool false))) 4) w61 fun t53_3 w62 =>
          R (.returned t53_3) w62) (
          Run Try.prog (sOp (.pick (.const t47_2) (.const undef) (.const (Value.bool false))) 4) w57 fun t53_4 w63 =>
          R (.returned t53_4) w63))) (
      Run Try.prog (sBin .eql 3 false true t21 (Value.int .i64 3)) w43 fun t55 w64 =>
      CondV t55 (
        (∃ J65 : Value → World → Prop, (
          Run Try.prog (sOp (.fieldAddr 31 (.const t3) 1) 0) w64 fun t56 w66 =>
          Run Try.prog (sOp (.load 3 (.const t56)) 3) w66 fun t57 w67 =>
          Run Try.prog (sBin .neq 3 false true t57 (Value.int .i64 0)) w67 fun t58 w68 =>
          GuardV t58 false (
            Run Try.prog (sOp (.fieldAddr 31 (.const t3) 2) 0) w68 fun t60 w69 =>
            Run Try.prog (sOp (.load 9 (.const t60)) 9) w69 fun t61 w70 =>
            Run Try.prog (sCall (Value.func (.func 164) #[] #[]) [t61]) w70 fun t62 w71 =>
            Run Try.prog (sOp (.unOp .not 4 (.const t62)) 4) w71 fun t63 w72 =>
            Run Try.prog (sOp (.pick (.const t58) (.const (Value.bool true)) (.const t63)) 4) w72 fun t64 w73 =>
            GuardV t64 false (
              Run Try.prog (sOp (.fieldAddr 31 (.const t3) 3) 0) w73 fun t66 w74 =>
              Run Try.prog (sOp (.load 27 (.const t66)) 27) w74 fun t67 w75 =>
              Run Try.prog (sBuiltin .len #[27] 3 [false] [t67]) w75 fun t68 w76 =>
              Run Try.prog (sBin .gtr 3 false true t68 (Value.int .i64 4)) w76 fun t69 w77 =>
              Run Try.prog (sOp (.pick (.const t64) (.const (Value.bool true)) (.const t69)) 4) w77 fun t70 w78 =>
              J65 t70 w78) (
              Run Try.prog (sOp (.pick (.const t64) (.const (Value.bool true)) (.const undef)) 4) w73 fun t70_2 w79 =>
              J65 t70_2 w79)) (
            Run Try.prog (sOp (.pick (.const t58) (.const (Value.bool true)) (.const undef)) 4) w68 fun t64_2 w80 =>
            GuardV t64_2 false (
              Run Try.prog (sOp (.fieldAddr 31 (.const t3) 3) 0) w80 fun t66_2 w81 =>
              Run Try.prog (sOp (.load 27 (.const t66_2)) 27) w81 fun t67_2 w82 =>
              Run Try.prog (sBuiltin .len #[27] 3 [false] [t67_2]) w82 fun t68_2 w83 =>
              Run Try.prog (sBin .gtr 3 false true t68_2 (Value.int .i64 4)) w83 fun t69_2 w84 =>
              Run Try.prog (sOp (.pick (.const t64_2) (.const (Value.bool true)) (.const t69_2)) 4) w84 fun t70_3 w85 =>
              J65 t70_3 w85) (
              Run Try.prog (sOp (.pick (.const t64_2) (.const (Value.bool true)) (.const undef)) 4) w80 fun t70_4 w86 =>
              J65 t70_4 w86))) ∧
        ∀ t70_5 _ _ _ _ _ _ _ _ _ _ _ _ _ _ : Value, ∀ w87 : World, J65 t70_5 w87 →
        CondV t70_5 (
          R (.returned (Value.bool false)) w87) (
          Run Try.prog (sOp (.fieldAddr 31 (.const t3) 3) 0) w87 fun t71 w88 =>
        Run Try.prog (sOp (.load 27 (.const t71)) 27) w88 fun t72 w89 =>
        Run Try.prog (sMakeFunc (.func 165) [] [t4, t5]) w89 fun t73 w90 =>
        Run Try.prog (sCall (Value.func (.func 121) #[] #[]) [t72, t73]) w90 fun t74 w91 =>
        Run Try.prog (sOp (.unOp .not 4 (.const t74)) 4) w91 fun t75 w92 =>
        R (.returned t75) w92))) (
        R (.returned (Value.bool false)) w64)))))
theorem calls_i_scan {p0 p1 p2 : Value} {w : World} {R : Ending → World → Prop} (h : sh_i_scan p0 p1 p2 w R) : Calls Try.prog 146 #[p0, p1, p2] w R :=
  calls_sh (.seq none .leaf (.seq none .leaf (.seq none (.seq (some [19]) .leaf .leaf) (.seq none (.seq none .leaf (.one (.seq none .leaf (.two .leaf (.seq none .leaf (.two .leaf (.seq none .leaf (.two (.seq none (.seq (some [70]) .leaf .leaf) .leaf) .leaf)))))))) .leaf)))) [p0, p1, p2] mixed Try.func146 (by kernel_rfl) (by kernel_rfl) h


/- loop.example/prologserver/spec.l1Word : function 147 -/
def sh_s_l1Word (p0 : Value) (w : World) (R : Ending → World → Prop) : Prop :=
  (∃ (I1 : Value → World → Prop) (m2 : Value → World → Nat), I1 (Value.int .i64 0) w ∧
  ∀ t3 _ _ _ _ _ _ _ _ _ _ _ _ _ _ _ _ _ : Value, ∀ w3 : World, I1 t3 w3 →
  Run Try.prog (sBuiltin .len #[9] 3 [false] [p0]) w3 fun t6_2 w4 =>
  Run Try.prog (sBin .lss 3 false false t3 t6_2) w4 fun t7_2 w5 =>
  CondV t7_2 (
    (∃ J6 : Value → World → Prop, (
    Run Try.prog (sOp (.index 9 (.const p0) (.const t3)) 5) w5 fun t12_2 w7 =>
    Run Try.prog (sBin .lss 5 false true t12_2 (Value.int .u8 97)) w7 fun t13_2 w8 =>
    GuardV t13_2 false (
      Run Try.prog (sOp (.index 9 (.const p0) (.const t3)) 5) w8 fun t17_2 w9 =>
      Run Try.prog (sBin .gtr 5 false true t17_2 (Value.int .u8 122)) w9 fun t18_2 w10 =>
      Run Try.prog (sOp (.pick (.const t13_2) (.const (Value.bool true)) (.const t18_2)) 4) w10 fun t19_2 w11 =>
      J6 t19_2 w11) (
      Run Try.prog (sOp (.pick (.const t13_2) (.const (Value.bool true)) (.const undef)) 4) w8 fun t19_3 w12 =>
      J6 t19_3 w12)) ∧
  ∀ t19_4 _ _ _ _ _ _ _ _ _ : Value, ∀ w13 : World, J6 t19_4 w13 →
  CondV t19_4 (
    R (.returned (Value.bool false)) w13) (
    Run Try.prog (sBin .add 3 false true t3 (Value.int .i64 1)) w13 fun t9_2 w14 =>
  I1 t9_2 w14 ∧ m2 t9_2 w14 < m2 t3 w3))) (
    Run Try.prog (sBuiltin .len #[9] 3 [false] [p0]) w5 fun t21 w15 =>
  Run Try.prog (sBin .geq 3 false true t21 (Value.int .i64 1)) w15 fun t22 w16 =>
  GuardV t22 true (
    Run Try.prog (sBuiltin .len #[9] 3 [false] [p0]) w16 fun t25 w17 =>
    Run Try.prog (sBin .leq 3 false true t25 (Value.int .i64 6)) w17 fun t26 w18 =>
    Run Try.prog (sOp (.pick (.const t22) (.const t26) (.const (Value.bool false))) 4) w18 fun t27 w19 =>
    R (.returned t27) w19) (
    Run Try.prog (sOp (.pick (.const t22) (.const undef) (.const (Value.bool false))) 4) w16 fun t27_2 w20 =>
    R (.returned t27_2) w20)))
theorem calls_s_l1Word {p0 : Value} {w : World} {R : Ending → World → Prop} (h : sh_s_l1Word p0 w R) : Calls Try.prog 147 #[p0] w R :=
  calls_sh (.seq none .leaf (.seq none (.seq none .leaf (.one (.loop [3] (.seq none .leaf (.seq none (.one (.seq (some [19]) .leaf .leaf)) .leaf))))) .leaf)) [p0] mixed Try.func147 (by kernel_rfl) (by kernel_rfl) h


/- loop.example/prologserver/spec.IsBuiltin : function 148 -/
def sh_s_IsBuiltin (p0 p1 : Value) (w : World) (R : Ending → World → Prop) : Prop :=
  (∃ J1 : Value → World → Prop, (
    Run Try.prog (sBin .eql 9 false true p0 (Value.string ⟨#[61]⟩)) w fun t7 w2 =>
    CondV t7 (
      J1 t7 w2) (
      Run Try.prog (sBin .eql 9 false true p0 (Value.string ⟨#[92, 61]⟩)) w2 fun t8 w3 =>
      CondV t8 (
        J1 t8 w3) (
        Run Try.prog (sBin .eql 9 false true p0 (Value.string ⟨#[61, 61]⟩)) w3 fun t9 w4 =>
        CondV t9 (
          J1 t9 w4) (
          Run Try.prog (sBin .eql 9 false true p0 (Value.string ⟨#[60]⟩)) w4 fun t10 w5 =>
          CondV t10 (
            J1 t10 w5) (
            Run Try.prog (sBin .eql 9 false true p0 (Value.string ⟨#[62]⟩)) w5 fun t11 w6 =>
            CondV t11 (
              J1 t11 w6) (
              Run Try.prog (sBin .eql 9 false true p0 (Value.string ⟨#[61, 60]⟩)) w6 fun t12 w7 =>
              CondV t12 (
                J1 t12 w7) (
                Run Try.prog (sBin .eql 9 false true p0 (Value.string ⟨#[62, 61]⟩)) w7 fun t13 w8 =>
                CondV t13 (
                  J1 t13 w8) (
                  Run Try.prog (sBin .eql 9 false true p0 (Value.string ⟨#[61, 58, 61]⟩)) w8 fun t14 w9 =>
                  CondV t14 (
                    J1 t14 w9) (
                    Run Try.prog (sBin .eql 9 false true p0 (Value.string ⟨#[105, 115]⟩)) w9 fun t15 w10 =>
                    J1 t15 w10))))))))) ∧
  ∀ _ _ _ _ _ _ _ _ t6 _ : Value, ∀ w11 : World, J1 t6 w11 →
  CondV t6 (
    Run Try.prog (sBin .eql 3 false true p1 (Value.int .i64 2)) w11 fun t17 w12 =>
    R (.returned t17) w12) (
    (∃ J13 : Value → World → Prop, (
      Run Try.prog (sBin .eql 9 false true p0 (Value.string ⟨#[116, 114, 117, 101]⟩)) w11 fun t19 w14 =>
      CondV t19 (
        J13 t19 w14) (
        Run Try.prog (sBin .eql 9 false true p0 (Value.string ⟨#[102, 97, 105, 108]⟩)) w14 fun t20 w15 =>
        J13 t20 w15)) ∧
    ∀ _ t18 _ : Value, ∀ w16 : World, J13 t18 w16 →
    CondV t18 (
      Run Try.prog (sBin .eql 3 false true p1 (Value.int .i64 0)) w16 fun t22 w17 =>
      R (.returned t22) w17) (
      (∃ J18 : Value → World → Prop, (
        Run Try.prog (sBin .eql 9 false true p0 (Value.string ⟨#[118, 97, 114]⟩)) w16 fun t24 w19 =>
        CondV t24 (
          J18 t24 w19) (
          Run Try.prog (sBin .eql 9 false true p0 (Value.string ⟨#[110, 111, 110, 118, 97, 114]⟩)) w19 fun t25 w20 =>
          CondV t25 (
            J18 t25 w20) (
            Run Try.prog (sBin .eql 9 false true p0 (Value.string ⟨#[97, 116, 111, 109]⟩)) w20 fun t26 w21 =>
            CondV t26 (
              J18 t26 w21) (
              Run Try.prog (sBin .eql 9 false true p0 (Value.string ⟨#[105, 110, 116]⟩)) w21 fun t27 w22 =>
              J18 t27 w22)))) ∧
      ∀ _ _ _ t23 _ : Value, ∀ w23 : World, J18 t23 w23 →
      CondV t23 (
        Run Try.prog (sBin .eql 3 false true p1 (Value.int .i64 1)) w23 fun t29 w24 =>
        R (.returned t29) w24) (
        Run Try.prog (sBin .eql 9 false true p0 (Value.string ⟨#[97, 114, 103]⟩)) w23 fun t31 w25 =>
        CondV t31 (
          Run Try.prog (sBin .eql 3 false true p1 (Value.int .i64 3)) w25 fun t33 w26 =>
          R (.returned t33) w26) (
          R (.returned (Value.bool false)) w25)))))))
theorem calls_s_IsBuiltin {p0 p1 : Value} {w : World} {R : Ending → World → Prop} (h : sh_s_IsBuiltin p0 p1 w R) : Calls Try.prog 148 #[p0, p1] w R :=
  calls_sh (.seq none .leaf (.seq none (.seq none .leaf (.one (.seq (some [6]) .leaf (.two .leaf (.seq (some [18]) .leaf (.two .leaf (.seq (some [23]) .leaf .leaf))))))) .leaf)) [p0, p1] mixed Try.func148 (by kernel_rfl) (by kernel_rfl) h


/- loop.example/prologserver/spec.l2Level : function 149 -/
def sh_s_l2Level (p0 : Value) (w : World) (R : Ending → World → Prop) : Prop :=
  (∃ J1 : Value → World → Prop, (
    Run Try.prog (sBin .eql 9 false true p0 (Value.string ⟨#[61]⟩)) w fun t5 w2 =>
    CondV t5 (
      J1 t5 w2) (
      Run Try.prog (sBin .eql 9 false true p0 (Value.string ⟨#[92, 61]⟩)) w2 fun t6 w3 =>
      CondV t6 (
        J1 t6 w3) (
        Run Try.prog (sBin .eql 9 false true p0 (Value.string ⟨#[61, 61]⟩)) w3 fun t7 w4 =>
        CondV t7 (
          J1 t7 w4) (
          Run Try.prog (sBin .eql 9 false true p0 (Value.string ⟨#[60]⟩)) w4 fun t8 w5 =>
          CondV t8 (
            J1 t8 w5) (
            Run Try.prog (sBin .eql 9 false true p0 (Value.string ⟨#[62]⟩)) w5 fun t9 w6 =>
            CondV t9 (
              J1 t9 w6) (
              Run Try.prog (sBin .eql 9 false true p0 (Value.string ⟨#[61, 60]⟩)) w6 fun t10 w7 =>
              CondV t10 (
                J1 t10 w7) (
                Run Try.prog (sBin .eql 9 false true p0 (Value.string ⟨#[62, 61]⟩)) w7 fun t11 w8 =>
                CondV t11 (
                  J1 t11 w8) (
                  Run Try.prog (sBin .eql 9 false true p0 (Value.string ⟨#[61, 58, 61]⟩)) w8 fun t12 w9 =>
                  CondV t12 (
                    J1 t12 w9) (
                    Run Try.prog (sBin .eql 9 false true p0 (Value.string ⟨#[105, 115]⟩)) w9 fun t13 w10 =>
                    J1 t13 w10))))))))) ∧
  ∀ _ _ _ _ _ _ _ _ t4 _ : Value, ∀ w11 : World, J1 t4 w11 →
  CondV t4 (
    R (.returned (Value.int .i64 3)) w11) (
    (∃ J12 : Value → World → Prop, (
      Run Try.prog (sBin .eql 9 false true p0 (Value.string ⟨#[43]⟩)) w11 fun t15 w13 =>
      CondV t15 (
        J12 t15 w13) (
        Run Try.prog (sBin .eql 9 false true p0 (Value.string ⟨#[45]⟩)) w13 fun t16 w14 =>
        J12 t16 w14)) ∧
    ∀ _ t14 _ : Value, ∀ w15 : World, J12 t14 w15 →
    CondV t14 (
      R (.returned (Value.int .i64 2)) w15) (
      (∃ J16 : Value → World → Prop, (
        Run Try.prog (sBin .eql 9 false true p0 (Value.string ⟨#[42]⟩)) w15 fun t18 w17 =>
        CondV t18 (
          J16 t18 w17) (
          Run Try.prog (sBin .eql 9 false true p0 (Value.string ⟨#[47, 47]⟩)) w17 fun t19 w18 =>
          CondV t19 (
            J16 t19 w18) (
            Run Try.prog (sBin .eql 9 false true p0 (Value.string ⟨#[109, 111, 100]⟩)) w18 fun t20 w19 =>
            J16 t20 w19))) ∧
      ∀ _ _ t17 _ : Value, ∀ w20 : World, J16 t17 w20 →
      CondV t17 (
        R (.returned (Value.int .i64 1)) w20) (
        R (.returned (Value.int .i64 0)) w20))))))
theorem calls_s_l2Level {p0 : Value} {w : World} {R : Ending → World → Prop} (h : sh_s_l2Level p0 w R) : Calls Try.prog 149 #[p0] w R :=
  calls_sh (.seq none .leaf (.seq none (.seq none .leaf (.one (.seq (some [4]) .leaf (.two .leaf (.seq (some [14]) .leaf (.two .leaf (.seq (some [17]) .leaf .leaf))))))) .leaf)) [p0] mixed Try.func149 (by kernel_rfl) (by kernel_rfl) h


/- loop.example/prologserver/impl.isLetters : function 150 -/
def sh_i_isLetters (p0 : Value) (w : World) (R : Ending → World → Prop) : Prop :=
  Run Try.prog (sBuiltin .len #[9] 3 [false] [p0]) w fun t5 w1 =>
  (∃ (I2 : Value → World → Prop) (m3 : Value → World → Nat), I2 (Value.int .i64 0) w1 ∧
  ∀ t6 _ _ _ _ _ _ _ _ _ _ _ _ _ _ _ : Value, ∀ w4 : World, I2 t6 w4 →
  Run Try.prog (sBin .lss 3 false false t6 t5) w4 fun t7_2 w5 =>
  CondV t7_2 (
    (∃ J6 : Value → World → Prop, (
    Run Try.prog (sOp (.index 9 (.const p0) (.const t6)) 5) w5 fun t11_2 w7 =>
    Run Try.prog (sBin .lss 5 false true t11_2 (Value.int .u8 97)) w7 fun t12_2 w8 =>
    GuardV t12_2 false (
      Run Try.prog (sOp (.index 9 (.const p0) (.const t6)) 5) w8 fun t16_2 w9 =>
      Run Try.prog (sBin .gtr 5 false true t16_2 (Value.int .u8 122)) w9 fun t17_2 w10 =>
      Run Try.prog (sOp (.pick (.const t12_2) (.const (Value.bool true)) (.const t17_2)) 4) w10 fun t18_2 w11 =>
      J6 t18_2 w11) (
      Run Try.prog (sOp (.pick (.const t12_2) (.const (Value.bool true)) (.const undef)) 4) w8 fun t18_3 w12 =>
      J6 t18_3 w12)) ∧
  ∀ t18_4 _ _ _ _ _ _ _ _ _ : Value, ∀ w13 : World, J6 t18_4 w13 →
  CondV t18_4 (
    R (.returned (Value.bool false)) w13) (
    Run Try.prog (sBin .add 3 false true t6 (Value.int .i64 1)) w13 fun t19_2 w14 =>
  I2 t19_2 w14 ∧ m3 t19_2 w14 < m3 t6 w4))) (
    Run Try.prog (sBuiltin .len #[9] 3 [false] [p0]) w5 fun t21 w15 =>
  Run Try.prog (sCall (Value.func (.func 76) #[] #[]) [t21, (Value.int .i64 1), (Value.int .i64 6)]) w15 fun t22 w16 =>
  R (.returned t22) w16))
theorem calls_i_isLetters {p0 : Value} {w : World} {R : Ending → World → Prop} (h : sh_i_isLetters p0 w R) : Calls Try.prog 150 #[p0] w R :=
  calls_sh (.seq none .leaf (.seq none (.seq none .leaf (.one (.loop [6] (.seq none .leaf (.seq none .leaf (.seq none (.one (.seq none .leaf (.seq (some [18]) .leaf .leaf))) .leaf)))))) .leaf)) [p0] mixed Try.func150 (by kernel_rfl) (by kernel_rfl) h


/- loop.example/prologserver/impl.isOp : function 151 -/
def sh_i_isOp (p0 : Value) (w : World) (R : Ending → World → Prop) : Prop :=
  Run Try.prog (sCall (Value.func (.func 166) #[] #[]) [p0]) w fun t7 w1 =>
  Run Try.prog (sOp (.extract (.const t7) 0) 3) w1 fun t8 w2 =>
  Run Try.prog (sOp (.extract (.const t7) 1) 4) w2 fun _ w3 =>
  Run Try.prog (sBin .gtr 3 false true t8 (Value.int .i64 0)) w3 fun t11 w4 =>
  R (.returned t11) w4
theorem calls_i_isOp {p0 : Value} {w : World} {R : Ending → World → Prop} (h : sh_i_isOp p0 w R) : Calls Try.prog 151 #[p0] w R :=
  calls_sh .leaf [p0] mixed Try.func151 (by kernel_rfl) (by kernel_rfl) h


/- loop.example/prologserver/impl.isBuilt : function 152 -/
def sh_i_isBuilt (p0 : Value) (w : World) (R : Ending → World → Prop) : Prop :=
  Run Try.prog (sOp (.box 31 (.const p0)) 0) w fun t1 w1 =>
  Run Try.prog (sOp (.fieldAddr 31 (.const t1) 0) 0) w1 fun t3 w2 =>
  Run Try.prog (sOp (.load 3 (.const t3)) 3) w2 fun t4 w3 =>
  Run Try.prog (sBin .eql 3 false true t4 (Value.int .i64 3)) w3 fun t5 w4 =>
  GuardV t5 true (
    Run Try.prog (sOp (.fieldAddr 31 (.const t1) 2) 0) w4 fun t7 w5 =>
    Run Try.prog (sOp (.load 9 (.const t7)) 9) w5 fun t8 w6 =>
    Run Try.prog (sOp (.fieldAddr 31 (.const t1) 3) 0) w6 fun t9 w7 =>
    Run Try.prog (sOp (.load 27 (.const t9)) 27) w7 fun t10 w8 =>
    Run Try.prog (sBuiltin .len #[27] 3 [false] [t10]) w8 fun t11 w9 =>
    Run Try.prog (sCall (Value.func (.func 167) #[] #[]) [t8, t11]) w9 fun t12 w10 =>
    Run Try.prog (sOp (.pick (.const t5) (.const t12) (.const (Value.bool false))) 4) w10 fun t13 w11 =>
    R (.returned t13) w11) (
    Run Try.prog (sOp (.pick (.const t5) (.const undef) (.const (Value.bool false))) 4) w4 fun t13_2 w12 =>
    R (.returned t13_2) w12)
theorem calls_i_isBuilt {p0 : Value} {w : World} {R : Ending → World → Prop} (h : sh_i_isBuilt p0 w R) : Calls Try.prog 152 #[p0] w R :=
  calls_sh .leaf [p0] mixed Try.func152 (by kernel_rfl) (by kernel_rfl) h


/- loop.example/prologserver/impl.isAtom : function 153 -/
def sh_i_isAtom (p0 : Value) (w : World) (R : Ending → World → Prop) : Prop :=
  Run Try.prog (sOp (.box 31 (.const p0)) 0) w fun t1 w1 =>
  Run Try.prog (sOp (.fieldAddr 31 (.const t1) 0) 0) w1 fun t3 w2 =>
  Run Try.prog (sOp (.load 3 (.const t3)) 3) w2 fun t4 w3 =>
  Run Try.prog (sBin .eql 3 false true t4 (Value.int .i64 3)) w3 fun t5 w4 =>
  GuardV t5 true (
    Run Try.prog (sOp (.fieldAddr 31 (.const t1) 3) 0) w4 fun t7 w5 =>
    Run Try.prog (sOp (.load 27 (.const t7)) 27) w5 fun t8 w6 =>
    Run Try.prog (sBuiltin .len #[27] 3 [false] [t8]) w6 fun t9 w7 =>
    Run Try.prog (sBin .eql 3 false true t9 (Value.int .i64 0)) w7 fun t10 w8 =>
    Run Try.prog (sOp (.pick (.const t5) (.const t10) (.const (Value.bool false))) 4) w8 fun t11 w9 =>
    R (.returned t11) w9) (
    Run Try.prog (sOp (.pick (.const t5) (.const undef) (.const (Value.bool false))) 4) w4 fun t11_2 w10 =>
    R (.returned t11_2) w10)
theorem calls_i_isAtom {p0 : Value} {w : World} {R : Ending → World → Prop} (h : sh_i_isAtom p0 w R) : Calls Try.prog 153 #[p0] w R :=
  calls_sh .leaf [p0] mixed Try.func153 (by kernel_rfl) (by kernel_rfl) h


/- loop.example/prologserver/spec.l4Goal : function 154 -/
def sh_s_l4Goal (p0 : Value) (w : World) (R : Ending → World → Prop) : Prop :=
  Run Try.prog (sOp (.box 31 (.const p0)) 0) w fun t1 w1 =>
  Run Try.prog (sOp (.load 31 (.const t1)) 31) w1 fun t3 w2 =>
  Run Try.prog (sCall (Value.func (.func 118) #[] #[]) [t3]) w2 fun t4 w3 =>
  GuardV t4 false (
    Run Try.prog (sOp (.load 31 (.const t1)) 31) w3 fun t6 w4 =>
    Run Try.prog (sCall (Value.func (.func 117) #[] #[]) [t6]) w4 fun t7 w5 =>
    Run Try.prog (sOp (.pick (.const t4) (.const (Value.bool true)) (.const t7)) 4) w5 fun t8 w6 =>
    GuardV t8 false (
      Run Try.prog (sOp (.fieldAddr 31 (.const t1) 0) 0) w6 fun t10 w7 =>
      Run Try.prog (sOp (.load 3 (.const t10)) 3) w7 fun t11 w8 =>
      Run Try.prog (sBin .eql 3 false true t11 (Value.int .i64 3)) w8 fun t12 w9 =>
      GuardV t12 true (
        Run Try.prog (sOp (.fieldAddr 31 (.const t1) 2) 0) w9 fun t14 w10 =>
        Run Try.prog (sOp (.load 9 (.const t14)) 9) w10 fun t15 w11 =>
        Run Try.prog (sOp (.fieldAddr 31 (.const t1) 3) 0) w11 fun t16 w12 =>
        Run Try.prog (sOp (.load 27 (.const t16)) 27) w12 fun t17 w13 =>
        Run Try.prog (sBuiltin .len #[27] 3 [false] [t17]) w13 fun t18 w14 =>
        Run Try.prog (sCall (Value.func (.func 148) #[] #[]) [t15, t18]) w14 fun t19 w15 =>
        GuardV t8 false (
          Run Try.prog (sOp (.pick (.const t12) (.const t19) (.const (Value.bool false))) 4) w15 fun t20 w16 =>
          Run Try.prog (sOp (.pick (.const t8) (.const (Value.bool true)) (.const t20)) 4) w16 fun t21 w17 =>
          R (.returned t21) w17) (
          Run Try.prog (sOp (.pick (.const t8) (.const (Value.bool true)) (.const undef)) 4) w15 fun t21_2 w18 =>
          R (.returned t21_2) w18)) (
        GuardV t8 false (
          Run Try.prog (sOp (.pick (.const t12) (.const undef) (.const (Value.bool false))) 4) w9 fun t20_2 w19 =>
          Run Try.prog (sOp (.pick (.const t8) (.const (Value.bool true)) (.const t20_2)) 4) w19 fun t21_3 w20 =>
          R (.returned t21_3) w20) (
          Run Try.prog (sOp (.pick (.const t8) (.const (Value.bool true)) (.const undef)) 4) w9 fun t21_4 w21 =>
          R (.returned t21_4) w21))) (
      GuardV undef true (
        Run Try.prog (sOp (.fieldAddr 31 (.const t1) 2) 0) w6 fun t14_2 w22 =>
        Run Try.prog (sOp (.load 9 (.const t14_2)) 9) w22 fun t15_2 w23 =>
        Run Try.prog (sOp (.fieldAddr 31 (.const t1) 3) 0) w23 fun t16_2 w24 =>
        Run Try.prog (sOp (.load 27 (.const t16_2)) 27) w24 fun t17_2 w25 =>
        Run Try.prog (sBuiltin .len #[27] 3 [false] [t17_2]) w25 fun t18_2 w26 =>
        Run Try.prog (sCall (Value.func (.func 148) #[] #[]) [t15_2, t18_2]) w26 fun t19_2 w27 =>
        GuardV t8 false (
          Run Try.prog (sOp (.pick (.const undef) (.const t19_2) (.const (Value.bool false))) 4) w27 fun t20_3 w28 =>
          Run Try.prog (sOp (.pick (.const t8) (.const (Value.bool true)) (.const t20_3)) 4) w28 fun t21_5 w29 =>
          R (.returned t21_5) w29) (
          Run Try.prog (sOp (.pick (.const t8) (.const (Value.bool true)) (.const undef)) 4) w27 fun t21_6 w30 =>
          R (.returned t21_6) w30)) (
        GuardV t8 false (
          Run Try.prog (sOp (.pick (.const undef) (.const undef) (.const (Value.bool false))) 4) w6 fun t20_4 w31 =>
          Run Try.prog (sOp (.pick (.const t8) (.const (Value.bool true)) (.const t20_4)) 4) w31 fun t21_7 w32 =>
          R (.returned t21_7) w32) (
          Run Try.prog (sOp (.pick (.const t8) (.const (Value.bool true)) (.const undef)) 4) w6 fun t21_8 w33 =>
          R (.returned t21_8) w33)))) (
    Run Try.prog (sOp (.pick (.const t4) (.const (Value.bool true)) (.const undef)) 4) w3 fun t8_2 w34 =>
    GuardV t8_2 false (
      Run Try.prog (sOp (.fieldAddr 31 (.const t1) 0) 0) w34 fun t10_2 w35 =>
      Run Try.prog (sOp (.load 3 (.const t10_2)) 3) w35 fun t11_2 w36 =>
      Run Try.prog (sBin .eql 3 false true t11_2 (Value.int .i64 3)) w36 fun t12_2 w37 =>
      GuardV t12_2 true (
        Run Try.prog (sOp (.fieldAddr 31 (.const t1) 2) 0) w37 fun t14_3 w38 =>
        Run Try.prog (sOp (.load 9 (.const t14_3)) 9) w38 fun t15_3 w39 =>
        Run Try.prog (sOp (.fieldAddr 31 (.const t1) 3) 0) w39 fun t16_3 w40 =>
        Run Try.prog (sOp (.load 27 (.const t16_3)) 27) w40 fun t17_3 w41 =>
        Run Try.prog (sBuiltin .len #[27] 3 [false] [t17_3]) w41 fun t18_3 w42 =>
        Run Try.prog (sCall (Value.func (.func 148) #[] #[]) [t15_3, t18_3]) w42 fun t19_3 w43 =>
        GuardV t8_2 false (
          Run Try.prog (sOp (.pick (.const t12_2) (.const t19_3) (.const (Value.bool false))) 4) w43 fun t20_5 w44 =>
          Run Try.prog (sOp (.pick (.const t8_2) (.const (Value.bool true)) (.const t20_5)) 4) w44 fun t21_9 w45 =>
          R (.returned t21_9) w45) (
          Run Try.prog (sOp (.pick (.const t8_2) (.const (Value.bool true)) (.const undef)) 4) w43 fun t21_10 w46 =>
          R (.returned t21_10) w46)) (
        GuardV t8_2 false (
          Run Try.prog (sOp (.pick (.const t12_2) (.const undef) (.const (Value.bool false))) 4) w37 fun t20_6 w47 =>
          Run Try.prog (sOp (.pick (.const t8_2) (.const (Value.bool true)) (.const t20_6)) 4) w47 fun t21_11 w48 =>
          R (.returned t21_11) w48) (
          Run Try.prog (sOp (.pick (.const t8_2) (.const (Value.bool true)) (.const undef)) 4) w37 fun t21_12 w49 =>
          R (.returned t21_12) w49))) (
      GuardV undef true (
        Run Try.prog (sOp (.fieldAddr 31 (.const t1) 2) 0) w34 fun t14_4 w50 =>
        Run Try.prog (sOp (.load 9 (.const t14_4)) 9) w50 fun t15_4 w51 =>
        Run Try.prog (sOp (.fieldAddr 31 (.const t1) 3) 0) w51 fun t16_4 w52 =>
        Run Try.prog (sOp (.load 27 (.const t16_4)) 27) w52 fun t17_4 w53 =>
        Run Try.prog (sBuiltin .len #[27] 3 [false] [t17_4]) w53 fun t18_4 w54 =>
        Run Try.prog (sCall (Value.func (.func 148) #[] #[]) [t15_4, t18_4]) w54 fun t19_4 w55 =>
        GuardV t8_2 false (
          Run Try.prog (sOp (.pick (.const undef) (.const t19_4) (.const (Value.bool false))) 4) w55 fun t20_7 w56 =>
          Run Try.prog (sOp (.pick (.const t8_2) (.const (Value.bool true)) (.const t20_7)) 4) w56 fun t21_13 w57 =>
          R (.returned t21_13) w57) (
          Run Try.prog (sOp (.pick (.const t8_2) (.const (Value.bool true)) (.const undef)) 4) w55 fun t21_14 w58 =>
          R (.returned t21_14) w58)) (
        GuardV t8_2 false (
          Run Try.prog (sOp (.pick (.const undef) (.const undef) (.const (Value.bool false))) 4) w34 fun t20_8 w59 =>
          Run Try.prog (sOp (.pick (.const t8_2) (.const (Value.bool true)) (.const t20_8)) 4) w59 fun t21_15 w60 =>
          R (.returned t21_15) w60) (
          Run Try.prog (sOp (.pick (.const t8_2) (.const (Value.bool true)) (.const undef)) 4) w34 fun t21_16 w61 =>
          R (.returned t21_16) w61))))
theorem calls_s_l4Goal {p0 : Value} {w : World} {R : Ending → World → Prop} (h : sh_s_l4Goal p0 w R) : Calls Try.prog 154 #[p0] w R :=
  calls_sh .leaf [p0] mixed Try.func154 (by kernel_rfl) (by kernel_rfl) h


/- loop.example/prologserver/impl.goalsValid$1 : function 155 -/
def sh_i_goalsValid_1 (p0 : Value) (w : World) (R : Ending → World → Prop) : Prop :=
  Run Try.prog (sOp (.box 31 (.const p0)) 0) w fun t1 w1 =>
  Run Try.prog (sOp (.load 31 (.const t1)) 31) w1 fun t3 w2 =>
  Run Try.prog (sCall (Value.func (.func 156) #[] #[]) [t3]) w2 fun t4 w3 =>
  Run Try.prog (sOp (.unOp .not 4 (.const t4)) 4) w3 fun t5 w4 =>
  R (.returned t5) w4
theorem calls_i_goalsValid_1 {p0 : Value} {w : World} {R : Ending → World → Prop} (h : sh_i_goalsValid_1 p0 w R) : Calls Try.prog 155 #[p0] w R :=
  calls_sh .leaf [p0] mixed Try.func155 (by kernel_rfl) (by kernel_rfl) h


/- loop.example/prologserver/impl.GoalValid : function 156 -/
def sh_i_GoalValid (p0 : Value) (w : World) (R : Ending → World → Prop) : Prop :=
  Run Try.prog (sOp (.box 31 (.const p0)) 0) w fun t1 w1 =>
  Run Try.prog (sOp (.load 31 (.const t1)) 31) w1 fun t3 w2 =>
  Run Try.prog (sCall (Value.func (.func 116) #[] #[]) [t3]) w2 fun t4 w3 =>
  GuardV t4 true (
    Run Try.prog (sOp (.load 31 (.const t1)) 31) w3 fun t6 w4 =>
    Run Try.prog (sCall (Value.func (.func 120) #[] #[]) [t6]) w4 fun t7 w5 =>
    GuardV t7 false (
      Run Try.prog (sOp (.load 31 (.const t1)) 31) w5 fun t9 w6 =>
      Run Try.prog (sCall (Value.func (.func 152) #[] #[]) [t9]) w6 fun t10 w7 =>
      GuardV t4 true (
        Run Try.prog (sOp (.pick (.const t7) (.const (Value.bool true)) (.const t10)) 4) w7 fun t11 w8 =>
        GuardV t11 false (
          Run Try.prog (sOp (.load 31 (.const t1)) 31) w8 fun t13 w9 =>
          Run Try.prog (sCall (Value.func (.func 122) #[] #[]) [t13]) w9 fun t14 w10 =>
          GuardV t4 true (
            Run Try.prog (sOp (.pick (.const t11) (.const (Value.bool true)) (.const t14)) 4) w10 fun t15 w11 =>
            Run Try.prog (sOp (.pick (.const t4) (.const t15) (.const (Value.bool false))) 4) w11 fun t16 w12 =>
            R (.returned t16) w12) (
            Run Try.prog (sOp (.pick (.const t4) (.const undef) (.const (Value.bool false))) 4) w10 fun t16_2 w13 =>
            R (.returned t16_2) w13)) (
          GuardV t4 true (
            Run Try.prog (sOp (.pick (.const t11) (.const (Value.bool true)) (.const undef)) 4) w8 fun t15_2 w14 =>
            Run Try.prog (sOp (.pick (.const t4) (.const t15_2) (.const (Value.bool false))) 4) w14 fun t16_3 w15 =>
            R (.returned t16_3) w15) (
            Run Try.prog (sOp (.pick (.const t4) (.const undef) (.const (Value.bool false))) 4) w8 fun t16_4 w16 =>
            R (.returned t16_4) w16))) (
        GuardV undef false (
          Run Try.prog (sOp (.load 31 (.const t1)) 31) w7 fun t13_2 w17 =>
          Run Try.prog (sCall (Value.func (.func 122) #[] #[]) [t13_2]) w17 fun t14_2 w18 =>
          GuardV t4 true (
            Run Try.prog (sOp (.pick (.const undef) (.const (Value.bool true)) (.const t14_2)) 4) w18 fun t15_3 w19 =>
            Run Try.prog (sOp (.pick (.const t4) (.const t15_3) (.const (Value.bool false))) 4) w19 fun t16_5 w20 =>
            R (.returned t16_5) w20) (
            Run Try.prog (sOp (.pick (.const t4) (.const undef) (.const (Value.bool false))) 4) w18 fun t16_6 w21 =>
            R (.returned t16_6) w21)) (
          GuardV t4 true (
            Run Try.prog (sOp (.pick (.const undef) (.const (Value.bool true)) (.const undef)) 4) w7 fun t15_4 w22 =>
            Run Try.prog (sOp (.pick (.const t4) (.const t15_4) (.const (Value.bool false))) 4) w22 fun t16_7 w23 =>
            R (.returned t16_7) w23) (
            Run Try.prog (sOp (.pick (.const t4) (.const undef) (.const (Value.bool false))) 4) w7 fun t16_8 w24 =>
            R (.returned t16_8) w24)))) (
      GuardV t4 true (
        Run Try.prog (sOp (.pick (.const t7) (.const (Value.bool true)) (.const undef)) 4) w5 fun t11_2 w25 =>
        GuardV t11_2 false (
          Run Try.prog (sOp (.load 31 (.const t1)) 31) w25 fun t13_3 w26 =>
          Run Try.prog (sCall (Value.func (.func 122) #[] #[]) [t13_3]) w26 fun t14_3 w27 =>
          GuardV t4 true (
            Run Try.prog (sOp (.pick (.const t11_2) (.const (Value.bool true)) (.const t14_3)) 4) w27 fun t15_5 w28 =>
            Run Try.prog (sOp (.pick (.const t4) (.const t15_5) (.const (Value.bool false))) 4) w28 fun t16_9 w29 =>
            R (.returned t16_9) w29) (
            Run Try.prog (sOp (.pick (.const t4) (.const undef) (.const (Value.bool false))) 4) w27 fun t16_10 w30 =>
            R (.returned t16_10) w30)) (
          GuardV t4 true (
            Run Try.prog (sOp (.pick (.const t11_2) (.const (Value.bool true)) (.const undef)) 4) w25 fun t15_6 w31 =>
            Run Try.prog (sOp (.pick (.const t4) (.const t15_6) (.const (Value.bool false))) 4) w31 fun t16_11 w32 =>
            R (.returned t16_11) w32) (
            Run Try.prog (sOp (.pick (.const t4) (.const undef) (.const (Value.bool false))) 4) w25 fun t16_12 w33 =>
            R (.returned t16_12) w33))) (
        GuardV undef false (
          Run Try.prog (sOp (.load 31 (.const t1)) 31) w5 fun t13_4 w34 =>
          Run Try.prog (sCall (Value.func (.func 122) #[] #[]) [t13_4]) w34 fun t14_4 w35 =>
          GuardV t4 true (
            Run Try.prog (sOp (.pick (.const undef) (.const (Value.bool true)) (.const t14_4)) 4) w35 fun t15_7 w36 =>
            Run Try.prog (sOp (.pick (.const t4) (.const t15_7) (.const (Value.bool false))) 4) w36 fun t16_13 w37 =>
            R (.returned t16_13) w37) (
            Run Try.prog (sOp (.pick (.const t4) (.const undef) (.const (Value.bool false))) 4) w35 fun t16_14 w38 =>
            R (.returned t16_14) w38)) (
          GuardV t4 true (
            Run Try.prog (sOp (.pick (.const undef) (.const (Value.bool true)) (.const undef)) 4) w5 fun t15_8 w39 =>
            Run Try.prog (sOp (.pick (.const t4) (.const t15_8) (.const (Value.bool false))) 4) w39 fun t16_15 w40 =>
            R (.returned t16_15) w40) (
            Run Try.prog (sOp (.pick (.const t4) (.const undef) (.const (Value.bool false))) 4) w5 fun t16_16 w41 =>
            R (.returned t16_16) w41))))) (
    GuardV undef false (
      Run Try.prog (sOp (.load 31 (.const t1)) 31) w3 fun t9_2 w42 =>
      Run Try.prog (sCall (Value.func (.func 152) #[] #[]) [t9_2]) w42 fun t10_2 w43 =>
      GuardV t4 true (
        Run Try.prog (sOp (.pick (.const undef) (.const (Value.bool true)) (.const t10_2)) 4) w43 fun t11_3 w44 =>
        GuardV t11_3 false (
          Run Try.prog (sOp (.load 31 (.const t1)) 31) w44 fun t13_5 w45 =>
          Run Try.prog (sCall (Value.func (.func 122) #[] #[]) [t13_5]) w45 fun t14_5 w46 =>
          GuardV t4 true (
            Run Try.prog (sOp (.pick (.const t11_3) (.const (Value.bool true)) (.const t14_5)) 4) w46 fun t15_9 w47 =>
            Run Try.prog (sOp (.pick (.const t4) (.const t15_9) (.const (Value.bool false))) 4) w47 fun t16_17 w48 =>
            R (.returned t16_17) w48) (
            Run Try.prog (sOp (.pick (.const t4) (.const undef) (.const (Value.bool false))) 4) w46 fun t16_18 w49 =>
            R (.returned t16_18) w49)) (
          GuardV t4 true (
            Run Try.prog (sOp (.pick (.const t11_3) (.const (Value.bool true)) (.const undef)) 4) w44 fun t15_10 w50 =>
            Run Try.prog (sOp (.pick (.const t4) (.const t15_10) (.const (Value.bool false))) 4) w50 fun t16_19 w51 =>
            R (.returned t16_19) w51) (
            Run Try.prog (sOp (.pick (.const t4) (.const undef) (.const (Value.bool false))) 4) w44 fun t16_20 w52 =>
            R (.returned t16_20) w52))) (
        GuardV undef false (
          Run Try.prog (sOp (.load 31 (.const t1)) 31) w43 fun t13_6 w53 =>
          Run Try.prog (sCall (Value.func (.func 122) #[] #[]) [t13_6]) w53 fun t14_6 w54 =>
          GuardV t4 true (
            Run Try.prog (sOp (.pick (.const undef) (.const (Value.bool true)) (.const t14_6)) 4) w54 fun t15_11 w55 =>
            Run Try.prog (sOp (.pick (.const t4) (.const t15_11) (.const (Value.bool false))) 4) w55 fun t16_21 w56 =>
            R (.returned t16_21) w56) (
            Run Try.prog (sOp (.pick (.const t4) (.const undef) (.const (Value.bool false))) 4) w54 fun t16_22 w57 =>
            R (.returned t16_22) w57)) (
          GuardV t4 true (
            Run Try.prog (sOp (.pick (.const undef) (.const (Value.bool true)) (.const undef)) 4) w43 fun t15_12 w58 =>
            Run Try.prog (sOp (.pick (.const t4) (.const t15_12) (.const (Value.bool false))) 4) w58 fun t16_23 w59 =>
            R (.returned t16_23) w59) (
            Run Try.prog (sOp (.pick (.const t4) (.const undef) (.const (Value.bool false))) 4) w43 fun t16_24 w60 =>
            R (.returned t16_24) w60)))) (
      GuardV t4 true (
        Run Try.prog (sOp (.pick (.const undef) (.const (Value.bool true)) (.const undef)) 4) w3 fun t11_4 w61 =>
        GuardV t11_4 false (
          Run Try.prog (sOp (.load 31 (.const t1)) 31) w61 fun t13_7 w62 =>
          Run Try.prog (sCall (Value.func (.func 122) #[] #[]) [t13_7]) w62 fun t14_7 w63 =>
          GuardV t4 true (
            Run Try.prog (sOp (.pick (.const t11_4) (.const (Value.bool true)) (.const t14_7)) 4) w63 fun t15_13 w64 =>
            Run Try.prog (sOp (.pick (.const t4) (.const t15_13) (.const (Value.bool false))) 4) w64 fun t16_25 w65 =>
            R (.returned t16_25) w65) (
            Run Try.prog (sOp (.pick (.const t4) (.const undef) (.const (Value.bool false))) 4) w63 fun t16_26 w66 =>
            R (.returned t16_26) w66)) (
          GuardV t4 true (
            Run Try.prog (sOp (.pick (.const t11_4) (.const (Value.bool true)) (.const undef)) 4) w61 fun t15_14 w67 =>
            Run Try.prog (sOp (.pick (.const t4) (.const t15_14) (.const (Value.bool false))) 4) w67 fun t16_27 w68 =>
            R (.returned t16_27) w68) (
            Run Try.prog (sOp (.pick (.const t4) (.const undef) (.const (Value.bool false))) 4) w61 fun t16_28 w69 =>
            R (.returned t16_28) w69))) (
        GuardV undef false (
          Run Try.prog (sOp (.load 31 (.const t1)) 31) w3 fun t13_8 w70 =>
          Run Try.prog (sCall (Value.func (.func 122) #[] #[]) [t13_8]) w70 fun t14_8 w71 =>
          GuardV t4 true (
            Run Try.prog (sOp (.pick (.const undef) (.const (Value.bool true)) (.const t14_8)) 4) w71 fun t15_15 w72 =>
            Run Try.prog (sOp (.pick (.const t4) (.const t15_15) (.const (Value.bool false))) 4) w72 fun t16_29 w73 =>
            R (.returned t16_29) w73) (
            Run Try.prog (sOp (.pick (.const t4) (.const undef) (.const (Value.bool false))) 4) w71 fun t16_30 w74 =>
            R (.returned t16_30) w74)) (
          GuardV t4 true (
            Run Try.prog (sOp (.pick (.const undef) (.const (Value.bool true)) (.const undef)) 4) w3 fun t15_16 w75 =>
            Run Try.prog (sOp (.pick (.const t4) (.const t15_16) (.const (Value.bool false))) 4) w75 fun t16_31 w76 =>
            R (.returned t16_31) w76) (
            Run Try.prog (sOp (.pick (.const t4) (.const undef) (.const (Value.bool false))) 4) w3 fun t16_32 w77 =>
            R (.returned t16_32) w77)))))
theorem calls_i_GoalValid {p0 : Value} {w : World} {R : Ending → World → Prop} (h : sh_i_GoalValid p0 w R) : Calls Try.prog 156 #[p0] w R :=
  calls_sh .leaf [p0] mixed Try.func156 (by kernel_rfl) (by kernel_rfl) h


/- slices.EqualFunc[[]loop.example/prologserver/impl.Term,[]loop.example/prologserver/impl.Term,loop.example/prologserver/impl.Term,loop.example/prologserver/impl.Term] : function 157 -/
def sh_x_EqualFunc_Term (p0 p1 p2 : Value) (w : World) (R : Ending → World → Prop) : Prop :=
  Run Try.prog (sBuiltin .len #[27] 3 [false] [p0]) w fun t11 w1 =>
  Run Try.prog (sBuiltin .len #[27] 3 [false] [p1]) w1 fun t13 w2 =>
  Run Try.prog (sBin .neq 3 false false t11 t13) w2 fun t14 w3 =>
  CondV t14 (
    R (.returned (Value.bool false)) w3) (
    Run Try.prog (sBuiltin .len #[27] 3 [false] [p0]) w3 fun t16 w4 =>
  (∃ (I5 : Value → World → Prop) (m6 : Value → World → Nat), I5 (Value.int .i64 0) w4 ∧
  ∀ t17 _ _ _ _ _ _ _ _ _ _ _ _ _ _ _ _ _ _ : Value, ∀ w7 : World, I5 t17 w7 →
  Run Try.prog (sBin .lss 3 false false t17 t16) w7 fun t18_2 w8 =>
  CondV t18_2 (
    Run Try.prog (sOp (.indexAddr 27 (.const p0) (.const t17)) 0) w8 fun t20_2 w9 =>
  Run Try.prog (sOp (.load 31 (.const t20_2)) 31) w9 fun t21_2 w10 =>
  Run Try.prog (sOp (.alloc 31) 0) w10 fun t8_2 w11 =>
  Run Try.prog (sOp (.store 31 (.const t8_2) (.const t21_2)) 0) w11 fun _u w12 =>
  Run Try.prog (sOp (.indexAddr 27 (.const p1) (.const t17)) 0) w12 fun t24_2 w13 =>
  Run Try.prog (sOp (.load 31 (.const t24_2)) 31) w13 fun t25_2 w14 =>
  Run Try.prog (sOp (.alloc 31) 0) w14 fun t9_2 w15 =>
  Run Try.prog (sOp (.store 31 (.const t9_2) (.const t25_2)) 0) w15 fun _ w16 =>
  Run Try.prog (sOp (.load 31 (.const t8_2)) 31) w16 fun t27_2 w17 =>
  Run Try.prog (sOp (.load 31 (.const t9_2)) 31) w17 fun t28_2 w18 =>
  Run Try.prog (sCall p2 [t27_2, t28_2]) w18 fun t29_2 w19 =>
  Run Try.prog (sOp (.unOp .not 4 (.const t29_2)) 4) w19 fun t30_2 w20 =>
  CondV t30_2 (
    R (.returned (Value.bool false)) w20) (
    Run Try.prog (sBin .add 3 false true t17 (Value.int .i64 1)) w20 fun t31_2 w21 =>
  I5 t31_2 w21 ∧ m6 t31_2 w21 < m6 t17 w7)) (
    R (.returned (Value.bool true)) w8)))
theorem calls_x_EqualFunc_Term {p0 p1 p2 : Value} {w : World} {R : Ending → World → Prop} (h : sh_x_EqualFunc_Term p0 p1 p2 w R) : Calls Try.prog 157 #[p0, p1, p2] w R :=
  calls_sh (.seq none .leaf (.seq none .leaf (.seq none (.seq none .leaf (.one (.loop [17] .leaf))) .leaf))) [p0, p1, p2] mixed Try.func157 (by kernel_rfl) (by kernel_rfl) h


/- loop.example/prologserver/impl.isFlat$1 : function 158 -/
def sh_i_isFlat_1 (p0 : Value) (w : World) (R : Ending → World → Prop) : Prop :=
  Run Try.prog (sOp (.box 31 (.const p0)) 0) w fun t1 w1 =>
  Run Try.prog (sOp (.fieldAddr 31 (.const t1) 3) 0) w1 fun t3 w2 =>
  Run Try.prog (sOp (.load 27 (.const t3)) 27) w2 fun t4 w3 =>
  Run Try.prog (sBuiltin .len #[27] 3 [false] [t4]) w3 fun t5 w4 =>
  Run Try.prog (sBin .gtr 3 false true t5 (Value.int .i64 0)) w4 fun t6 w5 =>
  R (.returned t6) w5
theorem calls_i_isFlat_1 {p0 : Value} {w : World} {R : Ending → World → Prop} (h : sh_i_isFlat_1 p0 w R) : Calls Try.prog 158 #[p0] w R :=
  calls_sh .leaf [p0] mixed Try.func158 (by kernel_rfl) (by kernel_rfl) h


/- loop.example/prologserver/spec.l1Rename : function 159 -/
def sh_s_l1Rename (p0 p1 : Value) (w : World) (R : Ending → World → Prop) : Prop :=
  Run Try.prog (sOp (.box 31 (.const p0)) 0) w fun t2 w1 =>
  Run Try.prog (sOp (.alloc 31) 0) w1 fun t4 w2 =>
  Run Try.prog (sOp (.fieldAddr 31 (.const t2) 0) 0) w2 fun t8 w3 =>
  Run Try.prog (sOp (.load 3 (.const t8)) 3) w3 fun t9 w4 =>
  Run Try.prog (sOp (.fieldAddr 31 (.const t2) 1) 0) w4 fun t10 w5 =>
  Run Try.prog (sOp (.load 3 (.const t10)) 3) w5 fun t11 w6 =>
  Run Try.prog (sOp (.fieldAddr 31 (.const t2) 2) 0) w6 fun t12 w7 =>
  Run Try.prog (sOp (.load 9 (.const t12)) 9) w7 fun t13 w8 =>
  Run Try.prog (sBuild 31 [(0, t9), (1, t11), (2, t13)]) w8 fun t14 w9 =>
  Run Try.prog (sOp (.alloc 31) 0) w9 fun t5 w10 =>
  Run Try.prog (sOp (.store 31 (.const t5) (.const t14)) 0) w10 fun _u w11 =>
  (∃ (I12 : Value → World → Prop) (m13 : Value → World → Nat), I12 (Value.int .i64 0) w11 ∧
  ∀ t6 _ _ _ _ t32 t31 t30 t29 t28 t27 t26 _ _ _ _ _ _ _ _ _ : Value, ∀ w14 : World, I12 t6 w14 →
  (∃ J15 : Value → World → Prop, (
    Run Try.prog (sBuiltin .len #[84] 3 [false] [p1]) w14 fun t17_2 w16 =>
    Run Try.prog (sBin .lss 3 false false t6 t17_2) w16 fun t18_2 w17 =>
    GuardV t18_2 true (
      Run Try.prog (sOp (.fieldAddr 31 (.const t2) 0) 0) w17 fun t20_2 w18 =>
      Run Try.prog (sOp (.load 3 (.const t20_2)) 3) w18 fun t21_2 w19 =>
      Run Try.prog (sBin .eql 3 false true t21_2 (Value.int .i64 1)) w19 fun t22_2 w20 =>
      Run Try.prog (sOp (.pick (.const t18_2) (.const t22_2) (.const (Value.bool false))) 4) w20 fun t23_2 w21 =>
      J15 t23_2 w21) (
      Run Try.prog (sOp (.pick (.const t18_2) (.const undef) (.const (Value.bool false))) 4) w17 fun t23_3 w22 =>
      J15 t23_3 w22)) ∧
  ∀ t23_4 _ _ _ _ _ _ _ _ : Value, ∀ w23 : World, J15 t23_4 w23 →
  CondV t23_4 (
    (∃ J24 : World → Prop, (
    (∃ A25 : (Nat → Bool) → Value → Value → Value → Value → Value → Value → Value → World → Prop, A25 (fun _ => false) t32 t31 t30 t29 t28 t27 t26 { w23 with drawn := w23.drawn + 1 } ∧ (
      (∀ D26 : Nat → Bool, D26 0 = false → ∀ t32_2 t31_2 t30_2 t29_2 t28_2 t27_2 t26_2 : Value, ∀ w27 : World, A25 D26 t32_2 t31_2 t30_2 t29_2 t28_2 t27_2 t26_2 w27 →
        A25 (setD D26 0) t32_2 t31_2 t30_2 t29_2 t28_2 t27_2 p1 w27) ∧
      (∀ D26 : Nat → Bool, D26 1 = false → ∀ t32_2 t31_2 t30_2 t29_2 t28_2 t27_2 t26_2 : Value, ∀ w28 : World, A25 D26 t32_2 t31_2 t30_2 t29_2 t28_2 t27_2 t26_2 w28 →
        A25 (setD D26 1) t32_2 t31_2 t30_2 t29_2 t28_2 t6 t26_2 w28) ∧
      (∀ D26 : Nat → Bool, D26 2 = false → D26 0 = true → D26 1 = true → ∀ t32_2 t31_2 t30_2 t29_2 t28_2 t27_2 t26_2 : Value, ∀ w29 : World, A25 D26 t32_2 t31_2 t30_2 t29_2 t28_2 t27_2 t26_2 w29 →
        Run Try.prog (sOp (.indexAddr 84 (.const t26_2) (.const t27_2)) 0) w29 fun t28_3 w30 =>
        A25 (setD D26 2) t32_2 t31_2 t30_2 t29_2 t28_3 t27_2 t26_2 w30) ∧
      (∀ D26 : Nat → Bool, D26 3 = false → D26 2 = true → ∀ t32_2 t31_2 t30_2 t29_2 t28_2 t27_2 t26_2 : Value, ∀ w31 : World, A25 D26 t32_2 t31_2 t30_2 t29_2 t28_2 t27_2 t26_2 w31 →
        Run Try.prog (sOp (.load 3 (.const t28_2)) 3) w31 fun t29_3 w32 =>
        A25 (setD D26 3) t32_2 t31_2 t30_2 t29_3 t28_2 t27_2 t26_2 w32) ∧
      (∀ D26 : Nat → Bool, D26 4 = false → ∀ t32_2 t31_2 t30_2 t29_2 t28_2 t27_2 t26_2 : Value, ∀ w33 : World, A25 D26 t32_2 t31_2 t30_2 t29_2 t28_2 t27_2 t26_2 w33 →
        Run Try.prog (sOp (.fieldAddr 31 (.const t2) 1) 0) w33 fun t30_3 w34 =>
        A25 (setD D26 4) t32_2 t31_2 t30_3 t29_2 t28_2 t27_2 t26_2 w34) ∧
      (∀ D26 : Nat → Bool, D26 5 = false → D26 4 = true → ∀ t32_2 t31_2 t30_2 t29_2 t28_2 t27_2 t26_2 : Value, ∀ w35 : World, A25 D26 t32_2 t31_2 t30_2 t29_2 t28_2 t27_2 t26_2 w35 →
        Run Try.prog (sOp (.load 3 (.const t30_2)) 3) w35 fun t31_3 w36 =>
        A25 (setD D26 5) t32_2 t31_3 t30_2 t29_2 t28_2 t27_2 t26_2 w36) ∧
      (∀ D26 : Nat → Bool, D26 6 = false → D26 3 = true → D26 5 = true → ∀ t32_2 t31_2 t30_2 t29_2 t28_2 t27_2 t26_2 : Value, ∀ w37 : World, A25 D26 t32_2 t31_2 t30_2 t29_2 t28_2 t27_2 t26_2 w37 →
        Run Try.prog (sBin .eql 3 false false t29_2 t31_2) w37 fun t32_3 w38 =>
        A25 (setD D26 6) t32_3 t31_2 t30_2 t29_2 t28_2 t27_2 t26_2 w38) ∧
      True) ∧
    ∀ D26 : Nat → Bool, D26 6 = true → D26 5 = true → D26 4 = true → D26 3 = true → D26 2 = true → D26 1 = true → D26 0 = true → ∀ t32_2 t31_2 t30_2 t29_2 t28_2 t27_2 t26_2 : Value, ∀ w39 : World, A25 D26 t32_2 t31_2 t30_2 t29_2 t28_2 t27_2 t26_2 w39 →
    CondV t32_2 (
      Run Try.prog (sOp (.fieldAddr 31 (.const t5) 1) 0) w39 fun t34_2 w40 =>
      Run Try.prog (sOp (.store 3 (.const t34_2) (.const t6)) 0) w40 fun _u w41 =>
      J24 w41) (
      J24 w39))) ∧
  ∀ _ _ _ _ _ _ _ _ _ : Value, ∀ w42 : World, J24 w42 →
  Run Try.prog (sBin .add 3 false true t6 (Value.int .i64 1)) w42 fun t25_2 w43 =>
  I12 t25_2 w43 ∧ m13 t25_2 w43 < m13 t6 w14)) (
    (∃ (I44 : Value → World → Prop) (m45 : Value → World → Nat), I44 (Value.int .i64 0) w23 ∧
  ∀ t7 _ _ t53 t52 t51 t50 t49 t48 t47 t46 t45 t44 t43 t42 _ _ _ _ _ : Value, ∀ w46 : World, I44 t7 w46 →
  Run Try.prog (sOp (.fieldAddr 31 (.const t2) 3) 0) w46 fun t36_2 w47 =>
  Run Try.prog (sOp (.load 27 (.const t36_2)) 27) w47 fun t37_2 w48 =>
  Run Try.prog (sBuiltin .len #[27] 3 [false] [t37_2]) w48 fun t38_2 w49 =>
  Run Try.prog (sBin .lss 3 false false t7 t38_2) w49 fun t39_2 w50 =>
  CondV t39_2 (
    (∃ A51 : (Nat → Bool) → Value → Value → Value → Value → Value → Value → Value → Value → Value → Value → Value → Value → World → Prop, A51 (fun _ => false) t53 t52 t51 t50 t49 t48 t47 t46 t45 t44 t43 t42 { w50 with drawn := w50.drawn + 1 } ∧ (
    (∀ D52 : Nat → Bool, D52 0 = false → ∀ t53_2 t52_2 t51_2 t50_2 t49_2 t48_2 t47_2 t46_2 t45_2 t44_2 t43_2 t42_2 : Value, ∀ w53 : World, A51 D52 t53_2 t52_2 t51_2 t50_2 t49_2 t48_2 t47_2 t46_2 t45_2 t44_2 t43_2 t42_2 w53 →
      Run Try.prog (sOp (.fieldAddr 31 (.const t5) 3) 0) w53 fun t42_3 w54 =>
      A51 (setD D52 0) t53_2 t52_2 t51_2 t50_2 t49_2 t48_2 t47_2 t46_2 t45_2 t44_2 t43_2 t42_3 w54) ∧
    (∀ D52 : Nat → Bool, D52 1 = false → D52 0 = true → ∀ t53_2 t52_2 t51_2 t50_2 t49_2 t48_2 t47_2 t46_2 t45_2 t44_2 t43_2 t42_2 : Value, ∀ w55 : World, A51 D52 t53_2 t52_2 t51_2 t50_2 t49_2 t48_2 t47_2 t46_2 t45_2 t44_2 t43_2 t42_2 w55 →
      Run Try.prog (sOp (.load 27 (.const t42_2)) 27) w55 fun t43_3 w56 =>
      A51 (setD D52 1) t53_2 t52_2 t51_2 t50_2 t49_2 t48_2 t47_2 t46_2 t45_2 t44_2 t43_3 t42_2 w56) ∧
    (∀ D52 : Nat → Bool, D52 2 = false → ∀ t53_2 t52_2 t51_2 t50_2 t49_2 t48_2 t47_2 t46_2 t45_2 t44_2 t43_2 t42_2 : Value, ∀ w57 : World, A51 D52 t53_2 t52_2 t51_2 t50_2 t49_2 t48_2 t47_2 t46_2 t45_2 t44_2 t43_2 t42_2 w57 →
      Run Try.prog (sOp (.fieldAddr 31 (.const t2) 3) 0) w57 fun t44_3 w58 =>
      A51 (setD D52 2) t53_2 t52_2 t51_2 t50_2 t49_2 t48_2 t47_2 t46_2 t45_2 t44_3 t43_2 t42_2 w58) ∧
    (∀ D52 : Nat → Bool, D52 3 = false → D52 2 = true → ∀ t53_2 t52_2 t51_2 t50_2 t49_2 t48_2 t47_2 t46_2 t45_2 t44_2 t43_2 t42_2 : Value, ∀ w59 : World, A51 D52 t53_2 t52_2 t51_2 t50_2 t49_2 t48_2 t47_2 t46_2 t45_2 t44_2 t43_2 t42_2 w59 →
      Run Try.prog (sOp (.load 27 (.const t44_2)) 27) w59 fun t45_3 w60 =>
      A51 (setD D52 3) t53_2 t52_2 t51_2 t50_2 t49_2 t48_2 t47_2 t46_2 t45_3 t44_2 t43_2 t42_2 w60) ∧
    (∀ D52 : Nat → Bool, D52 4 = false → ∀ t53_2 t52_2 t51_2 t50_2 t49_2 t48_2 t47_2 t46_2 t45_2 t44_2 t43_2 t42_2 : Value, ∀ w61 : World, A51 D52 t53_2 t52_2 t51_2 t50_2 t49_2 t48_2 t47_2 t46_2 t45_2 t44_2 t43_2 t42_2 w61 →
      A51 (setD D52 4) t53_2 t52_2 t51_2 t50_2 t49_2 t48_2 t47_2 t7 t45_2 t44_2 t43_2 t42_2 w61) ∧
    (∀ D52 : Nat → Bool, D52 5 = false → D52 3 = true → D52 4 = true → ∀ t53_2 t52_2 t51_2 t50_2 t49_2 t48_2 t47_2 t46_2 t45_2 t44_2 t43_2 t42_2 : Value, ∀ w62 : World, A51 D52 t53_2 t52_2 t51_2 t50_2 t49_2 t48_2 t47_2 t46_2 t45_2 t44_2 t43_2 t42_2 w62 →
      Run Try.prog (sOp (.indexAddr 27 (.const t45_2) (.const t46_2)) 0) w62 fun t47_3 w63 =>
      A51 (setD D52 5) t53_2 t52_2 t51_2 t50_2 t49_2 t48_2 t47_3 t46_2 t45_2 t44_2 t43_2 t42_2 w63) ∧
    (∀ D52 : Nat → Bool, D52 6 = false → D52 5 = true → ∀ t53_2 t52_2 t51_2 t50_2 t49_2 t48_2 t47_2 t46_2 t45_2 t44_2 t43_2 t42_2 : Value, ∀ w64 : World, A51 D52 t53_2 t52_2 t51_2 t50_2 t49_2 t48_2 t47_2 t46_2 t45_2 t44_2 t43_2 t42_2 w64 →
      Run Try.prog (sOp (.load 31 (.const t47_2)) 31) w64 fun t48_3 w65 =>
      A51 (setD D52 6) t53_2 t52_2 t51_2 t50_2 t49_2 t48_3 t47_2 t46_2 t45_2 t44_2 t43_2 t42_2 w65) ∧
    (∀ D52 : Nat → Bool, D52 7 = false → ∀ t53_2 t52_2 t51_2 t50_2 t49_2 t48_2 t47_2 t46_2 t45_2 t44_2 t43_2 t42_2 : Value, ∀ w66 : World, A51 D52 t53_2 t52_2 t51_2 t50_2 t49_2 t48_2 t47_2 t46_2 t45_2 t44_2 t43_2 t42_2 w66 →
      A51 (setD D52 7) t53_2 t52_2 t51_2 t50_2 p1 t48_2 t47_2 t46_2 t45_2 t44_2 t43_2 t42_2 w66) ∧
    (∀ D52 : Nat → Bool, D52 8 = false → D52 6 = true → D52 7 = true → ∀ t53_2 t52_2 t51_2 t50_2 t49_2 t48_2 t47_2 t46_2 t45_2 t44_2 t43_2 t42_2 : Value, ∀ w67 : World, A51 D52 t53_2 t52_2 t51_2 t50_2 t49_2 t48_2 t47_2 t46_2 t45_2 t44_2 t43_2 t42_2 w67 →
      Run Try.prog (sCall (Value.func (.func 159) #[] #[]) [t48_2, t49_2]) w67 fun t50_3 w68 =>
      A51 (setD D52 8) t53_2 t52_2 t51_2 t50_3 t49_2 t48_2 t47_2 t46_2 t45_2 t44_2 t43_2 t42_2 w68) ∧
    (∀ D52 : Nat → Bool, D52 9 = false → D52 8 = true → ∀ t53_2 t52_2 t51_2 t50_2 t49_2 t48_2 t47_2 t46_2 t45_2 t44_2 t43_2 t42_2 : Value, ∀ w69 : World, A51 D52 t53_2 t52_2 t51_2 t50_2 t49_2 t48_2 t47_2 t46_2 t45_2 t44_2 t43_2 t42_2 w69 →
      Run Try.prog (sBuildSlice 27 1 [(0, t50_2)]) w69 fun t51_3 w70 =>
      A51 (setD D52 9) t53_2 t52_2 t51_3 t50_2 t49_2 t48_2 t47_2 t46_2 t45_2 t44_2 t43_2 t42_2 w70) ∧
    (∀ D52 : Nat → Bool, D52 10 = false → D52 1 = true → D52 9 = true → D52 8 = true → ∀ t53_2 t52_2 t51_2 t50_2 t49_2 t48_2 t47_2 t46_2 t45_2 t44_2 t43_2 t42_2 : Value, ∀ w71 : World, A51 D52 t53_2 t52_2 t51_2 t50_2 t49_2 t48_2 t47_2 t46_2 t45_2 t44_2 t43_2 t42_2 w71 →
      Run Try.prog (sBuiltin .append #[27, 27] 27 [false, false] [t43_2, t51_2]) w71 fun t52_3 w72 =>
      A51 (setD D52 10) t53_2 t52_3 t51_2 t50_2 t49_2 t48_2 t47_2 t46_2 t45_2 t44_2 t43_2 t42_2 w72) ∧
    (∀ D52 : Nat → Bool, D52 11 = false → D52 0 = true → D52 1 = true → D52 2 = true → D52 3 = true → D52 4 = true → D52 5 = true → D52 6 = true → D52 7 = true → D52 8 = true → D52 9 = true → D52 10 = true → ∀ t53_2 t52_2 t51_2 t50_2 t49_2 t48_2 t47_2 t46_2 t45_2 t44_2 t43_2 t42_2 : Value, ∀ w73 : World, A51 D52 t53_2 t52_2 t51_2 t50_2 t49_2 t48_2 t47_2 t46_2 t45_2 t44_2 t43_2 t42_2 w73 →
      Run Try.prog (sOp (.fieldAddr 31 (.const t5) 3) 0) w73 fun t53_3 w74 =>
      A51 (setD D52 11) t53_3 t52_2 t51_2 t50_2 t49_2 t48_2 t47_2 t46_2 t45_2 t44_2 t43_2 t42_2 w74) ∧
    (∀ D52 : Nat → Bool, D52 12 = false → D52 11 = true → D52 10 = true → D52 10 = true → D52 0 = true → D52 1 = true → D52 2 = true → D52 3 = true → D52 4 = true → D52 5 = true → D52 6 = true → D52 7 = true → D52 8 = true → D52 9 = true → D52 10 = true → ∀ t53_2 t52_2 t51_2 t50_2 t49_2 t48_2 t47_2 t46_2 t45_2 t44_2 t43_2 t42_2 : Value, ∀ w75 : World, A51 D52 t53_2 t52_2 t51_2 t50_2 t49_2 t48_2 t47_2 t46_2 t45_2 t44_2 t43_2 t42_2 w75 →
      Run Try.prog (sOp (.store 27 (.const t53_2) (.const t52_2)) 0) w75 fun _u w76 =>
      A51 (setD D52 12) t53_2 t52_2 t51_2 t50_2 t49_2 t48_2 t47_2 t46_2 t45_2 t44_2 t43_2 t42_2 w76) ∧
    True) ∧
  ∀ D52 : Nat → Bool, D52 12 = true → D52 11 = true → D52 10 = true → D52 9 = true → D52 8 = true → D52 7 = true → D52 6 = true → D52 5 = true → D52 4 = true → D52 3 = true → D52 2 = true → D52 1 = true → D52 0 = true → ∀ t53_2 t52_2 t51_2 t50_2 t49_2 t48_2 t47_2 t46_2 t45_2 t44_2 t43_2 t42_2 : Value, ∀ w77 : World, A51 D52 t53_2 t52_2 t51_2 t50_2 t49_2 t48_2 t47_2 t46_2 t45_2 t44_2 t43_2 t42_2 w77 →
  Run Try.prog (sBin .add 3 false true t7 (Value.int .i64 1)) w77 fun t41_2 w78 =>
  I44 t41_2 w78 ∧ m45 t41_2 w78 < m45 t7 w46)) (
    Run Try.prog (sOp (.load 31 (.const t5)) 31) w50 fun t54 w79 =>
  Run Try.prog (sOp (.store 31 (.const t4) (.const t54)) 0) w79 fun _ w80 =>
  (LoadV Try.prog 31 t4 w80 fun r0 => R (.returned r0) w80))))))
theorem calls_s_l1Rename {p0 p1 : Value} {w : World} {R : Ending → World → Prop} (h : sh_s_l1Rename p0 p1 w R) : Calls Try.prog 159 #[p0, p1] w R :=
  calls_sh (.seq none .leaf (.seq none .leaf (.seq none (.seq none .leaf (.one (.loop [6] (.seq none (.seq (some [23]) .leaf .leaf) (.seq (some []) .leaf .leaf))))) (.seq none (.seq none .leaf (.one (.loop [7] .leaf))) .leaf)))) [p0, p1] mixed Try.func159 (by kernel_rfl) (by kernel_rfl) h


/- loop.example/prologserver/impl.mapVars : function 160 -/
def sh_i_mapVars (p0 p1 : Value) (w : World) (R : Ending → World → Prop) : Prop :=
  Run Try.prog (sOp (.box 31 (.const p0)) 0) w fun t2 w1 =>
  Run Try.prog (sOp (.alloc 31) 0) w1 fun t4 w2 =>
  Run Try.prog (sOp (.fieldAddr 31 (.const t2) 0) 0) w2 fun t8 w3 =>
  Run Try.prog (sOp (.load 3 (.const t8)) 3) w3 fun t9 w4 =>
  Run Try.prog (sBin .eql 3 false true t9 (Value.int .i64 1)) w4 fun t10 w5 =>
  CondV t10 (
    Run Try.prog (sOp (.fieldAddr 31 (.const t2) 1) 0) w5 fun t12 w6 =>
    Run Try.prog (sOp (.load 3 (.const t12)) 3) w6 fun t13 w7 =>
    Run Try.prog (sCall p1 [t13]) w7 fun t14 w8 =>
    Run Try.prog (sOp (.store 31 (.const t4) (.const t14)) 0) w8 fun _u w9 =>
    (LoadV Try.prog 31 t4 w9 fun r0 => R (.returned r0) w9)) (
    Run Try.prog (sOp (.fieldAddr 31 (.const t2) 3) 0) w5 fun t15 w10 =>
  Run Try.prog (sOp (.load 27 (.const t15)) 27) w10 fun t16 w11 =>
  Run Try.prog (sOp (.fieldAddr 31 (.const t2) 3) 0) w11 fun t17 w12 =>
  Run Try.prog (sOp (.store 27 (.const t17) (.const (Value.slice none 0 0))) 0) w12 fun _u w13 =>
  Run Try.prog (sBuiltin .len #[27] 3 [false] [t16]) w13 fun t19 w14 =>
  (∃ (I15 : Value → World → Prop) (m16 : Value → World → Nat), I15 (Value.int .i64 0) w14 ∧
  ∀ t20 _ t31 t30 t29 t28 t27 t26 t25 t24 _ _ _ _ : Value, ∀ w17 : World, I15 t20 w17 →
  Run Try.prog (sBin .lss 3 false false t20 t19) w17 fun t21_2 w18 =>
  CondV t21_2 (
    Run Try.prog (sOp (.indexAddr 27 (.const t16) (.const t20)) 0) w18 fun t22_2 w19 =>
  Run Try.prog (sOp (.load 31 (.const t22_2)) 31) w19 fun t23_2 w20 =>
  Run Try.prog (sOp (.alloc 31) 0) w20 fun t7_2 w21 =>
  Run Try.prog (sOp (.store 31 (.const t7_2) (.const t23_2)) 0) w21 fun _u w22 =>
  (∃ A23 : (Nat → Bool) → Value → Value → Value → Value → Value → Value → Value → Value → World → Prop, A23 (fun _ => false) t31 t30 t29 t28 t27 t26 t25 t24 { w22 with drawn := w22.drawn + 1 } ∧ (
    (∀ D24 : Nat → Bool, D24 0 = false → ∀ t31_2 t30_2 t29_2 t28_2 t27_2 t26_2 t25_2 t24_2 : Value, ∀ w25 : World, A23 D24 t31_2 t30_2 t29_2 t28_2 t27_2 t26_2 t25_2 t24_2 w25 →
      Run Try.prog (sOp (.fieldAddr 31 (.const t2) 3) 0) w25 fun t24_3 w26 =>
      A23 (setD D24 0) t31_2 t30_2 t29_2 t28_2 t27_2 t26_2 t25_2 t24_3 w26) ∧
    (∀ D24 : Nat → Bool, D24 1 = false → D24 0 = true → ∀ t31_2 t30_2 t29_2 t28_2 t27_2 t26_2 t25_2 t24_2 : Value, ∀ w27 : World, A23 D24 t31_2 t30_2 t29_2 t28_2 t27_2 t26_2 t25_2 t24_2 w27 →
      Run Try.prog (sOp (.load 27 (.const t24_2)) 27) w27 fun t25_3 w28 =>
      A23 (setD D24 1) t31_2 t30_2 t29_2 t28_2 t27_2 t26_2 t25_3 t24_2 w28) ∧
    (∀ D24 : Nat → Bool, D24 2 = false → ∀ t31_2 t30_2 t29_2 t28_2 t27_2 t26_2 t25_2 t24_2 : Value, ∀ w29 : World, A23 D24 t31_2 t30_2 t29_2 t28_2 t27_2 t26_2 t25_2 t24_2 w29 →
      Run Try.prog (sOp (.load 31 (.const t7_2)) 31) w29 fun t26_3 w30 =>
      A23 (setD D24 2) t31_2 t30_2 t29_2 t28_2 t27_2 t26_3 t25_2 t24_2 w30) ∧
    (∀ D24 : Nat → Bool, D24 3 = false → ∀ t31_2 t30_2 t29_2 t28_2 t27_2 t26_2 t25_2 t24_2 : Value, ∀ w31 : World, A23 D24 t31_2 t30_2 t29_2 t28_2 t27_2 t26_2 t25_2 t24_2 w31 →
      A23 (setD D24 3) t31_2 t30_2 t29_2 t28_2 p1 t26_2 t25_2 t24_2 w31) ∧
    (∀ D24 : Nat → Bool, D24 4 = false → D24 2 = true → D24 3 = true → ∀ t31_2 t30_2 t29_2 t28_2 t27_2 t26_2 t25_2 t24_2 : Value, ∀ w32 : World, A23 D24 t31_2 t30_2 t29_2 t28_2 t27_2 t26_2 t25_2 t24_2 w32 →
      Run Try.prog (sCall (Value.func (.func 160) #[] #[]) [t26_2, t27_2]) w32 fun t28_3 w33 =>
      A23 (setD D24 4) t31_2 t30_2 t29_2 t28_3 t27_2 t26_2 t25_2 t24_2 w33) ∧
    (∀ D24 : Nat → Bool, D24 5 = false → D24 4 = true → ∀ t31_2 t30_2 t29_2 t28_2 t27_2 t26_2 t25_2 t24_2 : Value, ∀ w34 : World, A23 D24 t31_2 t30_2 t29_2 t28_2 t27_2 t26_2 t25_2 t24_2 w34 →
      Run Try.prog (sBuildSlice 27 1 [(0, t28_2)]) w34 fun t29_3 w35 =>
      A23 (setD D24 5) t31_2 t30_2 t29_3 t28_2 t27_2 t26_2 t25_2 t24_2 w35) ∧
    (∀ D24 : Nat → Bool, D24 6 = false → D24 1 = true → D24 5 = true → D24 4 = true → ∀ t31_2 t30_2 t29_2 t28_2 t27_2 t26_2 t25_2 t24_2 : Value, ∀ w36 : World, A23 D24 t31_2 t30_2 t29_2 t28_2 t27_2 t26_2 t25_2 t24_2 w36 →
      Run Try.prog (sBuiltin .append #[27, 27] 27 [false, false] [t25_2, t29_2]) w36 fun t30_3 w37 =>
      A23 (setD D24 6) t31_2 t30_3 t29_2 t28_2 t27_2 t26_2 t25_2 t24_2 w37) ∧
    (∀ D24 : Nat → Bool, D24 7 = false → D24 0 = true → D24 1 = true → D24 2 = true → D24 3 = true → D24 4 = true → D24 5 = true → D24 6 = true → ∀ t31_2 t30_2 t29_2 t28_2 t27_2 t26_2 t25_2 t24_2 : Value, ∀ w38 : World, A23 D24 t31_2 t30_2 t29_2 t28_2 t27_2 t26_2 t25_2 t24_2 w38 →
      Run Try.prog (sOp (.fieldAddr 31 (.const t2) 3) 0) w38 fun t31_3 w39 =>
      A23 (setD D24 7) t31_3 t30_2 t29_2 t28_2 t27_2 t26_2 t25_2 t24_2 w39) ∧
    (∀ D24 : Nat → Bool, D24 8 = false → D24 7 = true → D24 6 = true → D24 6 = true → D24 0 = true → D24 1 = true → D24 2 = true → D24 3 = true → D24 4 = true → D24 5 = true → D24 6 = true → ∀ t31_2 t30_2 t29_2 t28_2 t27_2 t26_2 t25_2 t24_2 : Value, ∀ w40 : World, A23 D24 t31_2 t30_2 t29_2 t28_2 t27_2 t26_2 t25_2 t24_2 w40 →
      Run Try.prog (sOp (.store 27 (.const t31_2) (.const t30_2)) 0) w40 fun _u w41 =>
      A23 (setD D24 8) t31_2 t30_2 t29_2 t28_2 t27_2 t26_2 t25_2 t24_2 w41) ∧
    True) ∧
  ∀ D24 : Nat → Bool, D24 8 = true → D24 7 = true → D24 6 = true → D24 5 = true → D24 4 = true → D24 3 = true → D24 2 = true → D24 1 = true → D24 0 = true → ∀ t31_2 t30_2 t29_2 t28_2 t27_2 t26_2 t25_2 t24_2 : Value, ∀ w42 : World, A23 D24 t31_2 t30_2 t29_2 t28_2 t27_2 t26_2 t25_2 t24_2 w42 →
  Run Try.prog (sBin .add 3 false true t20 (Value.int .i64 1)) w42 fun t32_2 w43 =>
  I15 t32_2 w43 ∧ m16 t32_2 w43 < m16 t20 w17)) (
    Run Try.prog (sOp (.load 31 (.const t2)) 31) w18 fun t33 w44 =>
  Run Try.prog (sOp (.store 31 (.const t4) (.const t33)) 0) w44 fun _ w45 =>
  (LoadV Try.prog 31 t4 w45 fun r0 => R (.returned r0) w45))))
theorem calls_i_mapVars {p0 p1 : Value} {w : World} {R : Ending → World → Prop} (h : sh_i_mapVars p0 p1 w R) : Calls Try.prog 160 #[p0, p1] w R :=
  calls_sh (.seq none .leaf (.seq none .leaf (.seq none .leaf (.seq none .leaf (.seq none (.seq none .leaf (.one (.loop [20] .leaf))) .leaf))))) [p0, p1] mixed Try.func160 (by kernel_rfl) (by kernel_rfl) h


/- loop.example/prologserver/impl.renumbered$1 : function 161 -/
def sh_i_renumbered_1 (p0 p1 : Value) (w : World) (R : Ending → World → Prop) : Prop :=
  Run Try.prog (sOp (.alloc 31) 0) w fun t3 w1 =>
  Run Try.prog (sOp (.load 84 (.const p1)) 84) w1 fun t4 w2 =>
  Run Try.prog (sCall (Value.func (.func 123) #[] #[]) [t4, p0]) w2 fun t6 w3 =>
  Run Try.prog (sCall (Value.func (.func 162) #[] #[]) [t6]) w3 fun t7 w4 =>
  Run Try.prog (sOp (.store 31 (.const t3) (.const t7)) 0) w4 fun _ w5 =>
  (LoadV Try.prog 31 t3 w5 fun r0 => R (.returned r0) w5)
theorem calls_i_renumbered_1 {p0 p1 : Value} {w : World} {R : Ending → World → Prop} (h : sh_i_renumbered_1 p0 p1 w R) : Calls Try.prog 161 #[p0, p1] w R :=
  calls_sh .leaf [p0, p1] mixed Try.func161 (by kernel_rfl) (by kernel_rfl) h


/- loop.example/prologserver/impl.variable : function 162 -/
def sh_i_variable (p0 : Value) (w : World) (R : Ending → World → Prop) : Prop :=
  Run Try.prog (sOp (.alloc 31) 0) w fun t2 w1 =>
  Run Try.prog (sBuild 31 [(0, (Value.int .i64 1)), (1, p0)]) w1 fun t4 w2 =>
  Run Try.prog (sOp (.store 31 (.const t2) (.const t4)) 0) w2 fun _ w3 =>
  (LoadV Try.prog 31 t2 w3 fun r0 => R (.returned r0) w3)
theorem calls_i_variable {p0 : Value} {w : World} {R : Ending → World → Prop} (h : sh_i_variable p0 w R) : Calls Try.prog 162 #[p0] w R :=
  calls_sh .leaf [p0] mixed Try.func162 (by kernel_rfl) (by kernel_rfl) h


/- loop.example/prologserver/spec.l1Own : function 163 -/
def sh_s_l1Own (p0 : Value) (w : World) (R : Ending → World → Prop) : Prop :=
  Run Try.prog (sOp (.box 31 (.const p0)) 0) w fun t1 w1 =>
  Run Try.prog (sOp (.fieldAddr 31 (.const t1) 0) 0) w1 fun t3 w2 =>
  Run Try.prog (sOp (.load 3 (.const t3)) 3) w2 fun t4 w3 =>
  Run Try.prog (sBin .eql 3 false true t4 (Value.int .i64 1)) w3 fun t6 w4 =>
  CondV t6 (
    Run Try.prog (sOp (.fieldAddr 31 (.const t1) 1) 0) w4 fun t7 w5 =>
    Run Try.prog (sOp (.load 3 (.const t7)) 3) w5 fun t8 w6 =>
    Run Try.prog (sBin .geq 3 false true t8 (Value.int .i64 0)) w6 fun t9 w7 =>
    GuardV t9 true (
      Run Try.prog (sOp (.fieldAddr 31 (.const t1) 1) 0) w7 fun t11 w8 =>
      Run Try.prog (sOp (.load 3 (.const t11)) 3) w8 fun t12 w9 =>
      Run Try.prog (sBin .leq 3 false true t12 (Value.int .i64 25)) w9 fun t13 w10 =>
      Run Try.prog (sOp (.pick (.const t9) (.const t13) (.const (Value.bool false))) 4) w10 fun t14 w11 =>
      GuardV t14 true (
        Run Try.prog (sOp (.fieldAddr 31 (.const t1) 2) 0) w11 fun t16 w12 =>
        Run Try.prog (sOp (.load 9 (.const t16)) 9) w12 fun t17 w13 =>
        Run Try.prog (sBin .eql 9 false true t17 (Value.string ⟨#[]⟩)) w13 fun t18 w14 =>
        Run Try.prog (sOp (.pick (.const t14) (.const t18) (.const (Value.bool false))) 4) w14 fun t19 w15 =>
        GuardV t19 true (
          Run Try.prog (sOp (.fieldAddr 31 (.const t1) 3) 0) w15 fun t21 w16 =>
          Run Try.prog (sOp (.load 27 (.const t21)) 27) w16 fun t22 w17 =>
          Run Try.prog (sBuiltin .len #[27] 3 [false] [t22]) w17 fun t23 w18 =>
          Run Try.prog (sBin .eql 3 false true t23 (Value.int .i64 0)) w18 fun t24 w19 =>
          Run Try.prog (sOp (.pick (.const t19) (.const t24) (.const (Value.bool false))) 4) w19 fun t25 w20 =>
          R (.returned t25) w20) (
          Run Try.prog (sOp (.pick (.const t19) (.const undef) (.const (Value.bool false))) 4) w15 fun t25_2 w21 =>
          R (.returned t25_2) w21)) (
        Run Try.prog (sOp (.pick (.const t14) (.const undef) (.const (Value.bool false))) 4) w11 fun t19_2 w22 =>
        GuardV t19_2 true (
          Run Try.prog (sOp (.fieldAddr 31 (.const t1) 3) 0) w22 fun t21_2 w23 =>
          Run Try.prog (sOp (.load 27 (.const t21_2)) 27) w23 fun t22_2 w24 =>
          Run Try.prog (sBuiltin .len #[27] 3 [false] [t22_2]) w24 fun t23_2 w25 =>
          Run Try.prog (sBin .eql 3 false true t23_2 (Value.int .i64 0)) w25 fun t24_2 w26 =>
          Run Try.prog (sOp (.pick (.const t19_2) (.const t24_2) (.const (Value.bool false))) 4) w26 fun t25_3 w27 =>
          R (.returned t25_3) w27) (
          Run Try.prog (sOp (.pick (.const t19_2) (.const undef) (.const (Value.bool false))) 4) w22 fun t25_4 w28 =>
          R (.returned t25_4) w28))) (
      Run Try.prog (sOp (.pick (.const t9) (.const undef) (.const (Value.bool false))) 4) w7 fun t14_2 w29 =>
      GuardV t14_2 true (
        Run Try.prog (sOp (.fieldAddr 31 (.const t1) 2) 0) w29 fun t16_2 w30 =>
        Run Try.prog (sOp (.load 9 (.const t16_2)) 9) w30 fun t17_2 w31 =>
        Run Try.prog (sBin .eql 9 false true t17_2 (Value.string ⟨#[]⟩)) w31 fun t18_2 w32 =>
        Run Try.prog (sOp (.pick (.const t14_2) (.const t18_2) (.const (Value.bool false))) 4) w32 fun t19_3 w33 =>
        GuardV t19_3 true (
          Run Try.prog (sOp (.fieldAddr 31 (.const t1) 3) 0) w33 fun t21_3 w34 =>
          Run Try.prog (sOp (.load 27 (.const t21_3)) 27) w34 fun t22_3 w35 =>
          Run Try.prog (sBuiltin .len #[27] 3 [false] [t22_3]) w35 fun t23_3 w36 =>
          Run Try.prog (sBin .eql 3 false true t23_3 (Value.int .i64 0)) w36 fun t24_3 w37 =>
          Run Try.prog (sOp (.pick (.const t19_3) (.const t24_3) (.const (Value.bool false))) 4) w37 fun t25_5 w38 =>
          R (.returned t25_5) w38) (
          Run Try.prog (sOp (.pick (.const t19_3) (.const undef) (.const (Value.bool false))) 4) w33 fun t25_6 w39 =>
          R (.returned t25_6) w39)) (
        Run Try.prog (sOp (.pick (.const t14_2) (.const undef) (.const (Value.bool false))) 4) w29 fun t19_4 w40 =>
        GuardV t19_4 true (
          Run Try.prog (sOp (.fieldAddr 31 (.const t1) 3) 0) w40 fun t21_4 w41 =>
          Run Try.prog (sOp (.load 27 (.const t21_4)) 27) w41 fun t22_4 w42 =>
          Run Try.prog (sBuiltin .len #[27] 3 [false] [t22_4]) w42 fun t23_4 w43 =>
          Run Try.prog (sBin .eql 3 false true t23_4 (Value.int .i64 0)) w43 fun t24_4 w44 =>
          Run Try.prog (sOp (.pick (.const t19_4) (.const t24_4) (.const (Value.bool false))) 4) w44 fun t25_7 w45 =>
          R (.returned t25_7) w45) (
          Run Try.prog (sOp (.pick (.const t19_4) (.const undef) (.const (Value.bool false))) 4) w40 fun t25_8 w46 =>
          R (.returned t25_8) w46)))) (
    Run Try.prog (sBin .eql 3 false true t4 (Value.int .i64 2)) w4 fun t27 w47 =>
    CondV t27 (
      Run Try.prog (sOp (.fieldAddr 31 (.const t1) 1) 0) w47 fun t28 w48 =>
      Run Try.prog (sOp (.load 3 (.const t28)) 3) w48 fun t29 w49 =>
      Run Try.prog (sBin .geq 3 false true t29 (Value.int .i64 (-999))) w49 fun t30 w50 =>
      GuardV t30 true (
        Run Try.prog (sOp (.fieldAddr 31 (.const t1) 1) 0) w50 fun t32 w51 =>
        Run Try.prog (sOp (.load 3 (.const t32)) 3) w51 fun t33 w52 =>
        Run Try.prog (sBin .leq 3 false true t33 (Value.int .i64 999)) w52 fun t34 w53 =>
        Run Try.prog (sOp (.pick (.const t30) (.const t34) (.const (Value.bool false))) 4) w53 fun t35 w54 =>
        GuardV t35 true (
          Run Try.prog (sOp (.fieldAddr 31 (.const t1) 2) 0) w54 fun t37 w55 =>
          Run Try.prog (sOp (.load 9 (.const t37)) 9) w55 fun t38 w56 =>
          Run Try.prog (sBin .eql 9 false true t38 (Value.string ⟨#[]⟩)) w56 fun t39 w57 =>
          Run Try.prog (sOp (.pick (.const t35) (.const t39) (.const (Value.bool false))) 4) w57 fun t40 w58 =>
          GuardV t40 true (
            Run Try.prog (sOp (.fieldAddr 31 (.const t1) 3) 0) w58 fun t42 w59 =>
            Run Try.prog (sOp (.load 27 (.const t42)) 27) w59 fun t43 w60 =>
            Run Try.prog (sBuiltin .len #[27] 3 [false] [t43]) w60 fun t44 w61 =>
            Run Try.prog (sBin .eql 3 false true t44 (Value.int .i64 0)) w61 fun t45 w62 =>
            Run Try.prog (sOp (.pick (.const t40) (.const t45) (.const (Value.bool false))) 4) w62 fun t46 w63 =>
            R (.returned t46) w63) (
            Run Try.prog (sOp (.pick (.const t40) (.const undef) (.const (Value.bool false))) 4) w58 fun t46_2 w64 =>
            R (.returned t46_2) w64)) (
          Run Try.prog (sOp (.pick (.const t35) (.const undef) (.const (Value.bool false))) 4) w54 fun t40_2 w65 =>
          GuardV t40_2 true (
            Run Try.prog (sOp (.fieldAddr 31 (.const t1) 3) 0) w65 fun t42_2 w66 =>
            Run Try.prog (sOp (.load 27 (.const t42_2)) 27) w66 fun t43_2 w67 =>
            Run Try.prog (sBuiltin .len #[27] 3 [false] [t43_2]) w67 fun t44_2 w68 =>
            Run Try.prog (sBin .eql 3 false true t44_2 (Value.int .i64 0)) w68 fun t45_2 w69 =>
            Run Try.prog (sOp (.pick (.const t40_2) (.const t45_2) (.const (Value.bool false))) 4) w69 fun t46_3 w70 =>
            R (.returned t46_3) w70) (
            Run Try.prog (sOp (.pick (.const t40_2) (.const undef) (.const (Value.bool false))) 4) w65 fun t46_4 w71 =>
            R (.returned t46_4) w71))) (
        Run Try.prog (sOp (.pick (.const t30) (.const undef) (.const (Value.bool false))) 4) w50 fun t35_2 w72 =>
        GuardV t35_2 true (
          Run Try.prog (sOp (.fieldAddr 31 (.const t1) 2) 0) w72 fun t37_2 w73 =>
          Run Try.prog (sOp (.load 9 (.const t37_2)) 9) w73 fun t38_2 w74 =>
          Run Try.prog (sBin .eql 9 false true t38_2 (Value.string ⟨#[]⟩)) w74 fun t39_2 w75 =>
          Run Try.prog (sOp (.pick (.const t35_2) (.const t39_2) (.const (Value.bool false))) 4) w75 fun t40_3 w76 =>
          GuardV t40_3 true (
            Run Try.prog (sOp (.fieldAddr 31 (.const t1) 3) 0) w76 fun t42_3 w77 =>
            Run Try.prog (sOp (.load 27 (.const t42_3)) 27) w77 fun t43_3 w78 =>
            Run Try.prog (sBuiltin .len #[27] 3 [false] [t43_3]) w78 fun t44_3 w79 =>
            Run Try.prog (sBin .eql 3 false true t44_3 (Value.int .i64 0)) w79 fun t45_3 w80 =>
            Run Try.prog (sOp (.pick (.const t40_3) (.const t45_3) (.const (Value.bool false))) 4) w80 fun t46_5 w81 =>
            R (.returned t46_5) w81) (
            Run Try.prog (sOp (.pick (.const t40_3) (.const undef) (.const (Value.bool false))) 4) w76 fun t46_6 w82 =>
            R (.returned t46_6) w82)) (
          Run Try.prog (sOp (.pick (.const t35_2) (.const undef) (.const (Value.bool false))) 4) w72 fun t40_4 w83 =>
          GuardV t40_4 true (
            Run Try.prog (sOp (.fieldAddr 31 (.const t1) 3) 0) w83 fun t42_4 w84 =>
            Run Try.prog (sOp (.load 27 (.const t42_4)) 27) w84 fun t43_4 w85 =>
            Run Try.prog (sBuiltin .len #[27] 3 [false] [t43_4]) w85 fun t44_4 w86 =>
            Run Try.prog (sBin .eql 3 false true t44_4 (Value.int .i64 0)) w86 fun t45_4 w87 =>
            Run Try.prog (sOp (.pick (.const t40_4) (.const t45_4) (.const (Value.bool false))) 4) w87 fun t46_7 w88 =>
            R (.returned t46_7) w88) (
            Run Try.prog (sOp (.pick (.const t40_4) (.const undef) (.const (Value.bool false))) 4) w83 fun t46_8 w89 =>
            R (.returned t46_8) w89)))) (
      Run Try.prog (sBin .eql 3 false true t4 (Value.int .i64 3)) w47 fun t48 w90 =>
      CondV t48 (
        Run Try.prog (sOp (.fieldAddr 31 (.const t1) 1) 0) w90 fun t49 w91 =>
        Run Try.prog (sOp (.load 3 (.const t49)) 3) w91 fun t50 w92 =>
        Run Try.prog (sBin .eql 3 false true t50 (Value.int .i64 0)) w92 fun t51 w93 =>
        GuardV t51 true (
          Run Try.prog (sOp (.fieldAddr 31 (.const t1) 2) 0) w93 fun t53 w94 =>
          Run Try.prog (sOp (.load 9 (.const t53)) 9) w94 fun t54 w95 =>
          Run Try.prog (sCall (Value.func (.func 168) #[] #[]) [t54]) w95 fun t55 w96 =>
          Run Try.prog (sOp (.pick (.const t51) (.const t55) (.const (Value.bool false))) 4) w96 fun t56 w97 =>
          GuardV t56 true (
            Run Try.prog (sOp (.fieldAddr 31 (.const t1) 3) 0) w97 fun t58 w98 =>
            Run Try.prog (sOp (.load 27 (.const t58)) 27) w98 fun t59 w99 =>
            Run Try.prog (sBuiltin .len #[27] 3 [false] [t59]) w99 fun t60 w100 =>
            Run Try.prog (sBin .leq 3 false true t60 (Value.int .i64 4)) w100 fun t61 w101 =>
            Run Try.prog (sOp (.pick (.const t56) (.const t61) (.const (Value.bool false))) 4) w101 fun t62 w102 =>
            R (.returned t62) w102) (
            Run Try.prog (sOp (.pick (.const t56) (.const undef) (.const (Value.bool false))) 4) w97 fun t62_2 w103 =>
            R (.returned t62_2) w103)) (
          Run Try.prog (sOp (.pick (.const t51) (.const undef) (.const (Value.bool false))) 4) w93 fun t56_2 w104 =>
          GuardV t56_2 true (
            Run Try.prog (sOp (.fieldAddr 31 (.const t1) 3) 0) w104 fun t58_2 w105 =>
            Run Try.prog (sOp (.load 27 (.const t58_2)) 27) w105 fun t59_2 w106 =>
            Run Try.prog (sBuiltin .len #[27] 3 [false] [t59_2]) w106 fun t60_2 w107 =>
            Run Try.prog (sBin .leq 3 false true t60_2 (Value.int .i64 4)) w107 fun t61_2 w108 =>
            Run Try.prog (sOp (.pick (.const t56_2) (.const t61_2) (.const (Value.bool false))) 4) w108 fun t62_3 w109 =>
            R (.returned t62_3) w109) (
            Run Try.prog (sOp (.pick (.const t56_2) (.const undef) (.const (Value.bool false))) 4) w104 fun t62_4 w110 =>
            R (.returned t62_4) w110))) (
        R (.returned (Value.bool false)) w90)))
theorem calls_s_l1Own {p0 : Value} {w : World} {R : Ending → World → Prop} (h : sh_s_l1Own p0 w R) : Calls Try.prog 163 #[p0] w R :=
  calls_sh .leaf [p0] mixed Try.func163 (by kernel_rfl) (by kernel_rfl) h


/- loop.example/prologserver/impl.NameValid : function 164 -/
def sh_i_NameValid (p0 : Value) (w : World) (R : Ending → World → Prop) : Prop :=
  Run Try.prog (sCall (Value.func (.func 150) #[] #[]) [p0]) w fun t4 w1 =>
  GuardV t4 false (
    Run Try.prog (sCall (Value.func (.func 170) #[] #[]) []) w1 fun t6 w2 =>
    Run Try.prog (sCall (Value.func (.func 169) #[] #[]) [t6, p0]) w2 fun t8 w3 =>
    Run Try.prog (sOp (.pick (.const t4) (.const (Value.bool true)) (.const t8)) 4) w3 fun t9 w4 =>
    R (.returned t9) w4) (
    Run Try.prog (sOp (.pick (.const t4) (.const (Value.bool true)) (.const undef)) 4) w1 fun t9_2 w5 =>
    R (.returned t9_2) w5)
theorem calls_i_NameValid {p0 : Value} {w : World} {R : Ending → World → Prop} (h : sh_i_NameValid p0 w R) : Calls Try.prog 164 #[p0] w R :=
  calls_sh .leaf [p0] mixed Try.func164 (by kernel_rfl) (by kernel_rfl) h


/- loop.example/prologserver/impl.scan$1 : function 165 -/
def sh_i_scan_1 (p0 p1 p2 : Value) (w : World) (R : Ending → World → Prop) : Prop :=
  Run Try.prog (sOp (.box 31 (.const p0)) 0) w fun t3 w1 =>
  Run Try.prog (sOp (.load 31 (.const t3)) 31) w1 fun t5 w2 =>
  Run Try.prog (sOp (.load 3 (.const p1)) 3) w2 fun t6 w3 =>
  Run Try.prog (sBin .add 3 false true t6 (Value.int .i64 1)) w3 fun t7 w4 =>
  Run Try.prog (sOp (.load 119 (.const p2)) 119) w4 fun t8 w5 =>
  Run Try.prog (sCall (Value.func (.func 146) #[] #[]) [t5, t7, t8]) w5 fun t9 w6 =>
  Run Try.prog (sOp (.unOp .not 4 (.const t9)) 4) w6 fun t10 w7 =>
  R (.returned t10) w7
theorem calls_i_scan_1 {p0 p1 p2 : Value} {w : World} {R : Ending → World → Prop} (h : sh_i_scan_1 p0 p1 p2 w R) : Calls Try.prog 165 #[p0, p1, p2] w R :=
  calls_sh .leaf [p0, p1, p2] mixed Try.func165 (by kernel_rfl) (by kernel_rfl) h


/- loop.example/prologserver/impl.OpLevel : function 166 -/
def sh_i_OpLevel (p0 : Value) (w : World) (R : Ending → World → Prop) : Prop :=
  (∃ J1 : Value → World → Prop, (
    Run Try.prog (sBin .eql 9 false true p0 (Value.string ⟨#[61]⟩)) w fun t6 w2 =>
    CondV t6 (
      J1 t6 w2) (
      Run Try.prog (sBin .eql 9 false true p0 (Value.string ⟨#[92, 61]⟩)) w2 fun t7 w3 =>
      CondV t7 (
        J1 t7 w3) (
        Run Try.prog (sBin .eql 9 false true p0 (Value.string ⟨#[61, 61]⟩)) w3 fun t8 w4 =>
        CondV t8 (
          J1 t8 w4) (
          Run Try.prog (sBin .eql 9 false true p0 (Value.string ⟨#[60]⟩)) w4 fun t9 w5 =>
          CondV t9 (
            J1 t9 w5) (
            Run Try.prog (sBin .eql 9 false true p0 (Value.string ⟨#[62]⟩)) w5 fun t10 w6 =>
            CondV t10 (
              J1 t10 w6) (
              Run Try.prog (sBin .eql 9 false true p0 (Value.string ⟨#[61, 60]⟩)) w6 fun t11 w7 =>
              CondV t11 (
                J1 t11 w7) (
                Run Try.prog (sBin .eql 9 false true p0 (Value.string ⟨#[62, 61]⟩)) w7 fun t12 w8 =>
                CondV t12 (
                  J1 t12 w8) (
                  Run Try.prog (sBin .eql 9 false true p0 (Value.string ⟨#[61, 58, 61]⟩)) w8 fun t13 w9 =>
                  CondV t13 (
                    J1 t13 w9) (
                    Run Try.prog (sBin .eql 9 false true p0 (Value.string ⟨#[105, 115]⟩)) w9 fun t14 w10 =>
                    J1 t14 w10))))))))) ∧
  ∀ _ _ _ _ _ _ _ _ t5 _ : Value, ∀ w11 : World, J1 t5 w11 →
  CondV t5 (
    R (.returned (.tuple #[(Value.int .i64 3), (Value.bool false)])) w11) (
    (∃ J12 : Value → World → Prop, (
      Run Try.prog (sBin .eql 9 false true p0 (Value.string ⟨#[43]⟩)) w11 fun t16 w13 =>
      CondV t16 (
        J12 t16 w13) (
        Run Try.prog (sBin .eql 9 false true p0 (Value.string ⟨#[45]⟩)) w13 fun t17 w14 =>
        J12 t17 w14)) ∧
    ∀ _ t15 _ : Value, ∀ w15 : World, J12 t15 w15 →
    CondV t15 (
      R (.returned (.tuple #[(Value.int .i64 2), (Value.bool true)])) w15) (
      (∃ J16 : Value → World → Prop, (
        Run Try.prog (sBin .eql 9 false true p0 (Value.string ⟨#[42]⟩)) w15 fun t19 w17 =>
        CondV t19 (
          J16 t19 w17) (
          Run Try.prog (sBin .eql 9 false true p0 (Value.string ⟨#[47, 47]⟩)) w17 fun t20 w18 =>
          CondV t20 (
            J16 t20 w18) (
            Run Try.prog (sBin .eql 9 false true p0 (Value.string ⟨#[109, 111, 100]⟩)) w18 fun t21 w19 =>
            J16 t21 w19))) ∧
      ∀ _ _ t18 _ : Value, ∀ w20 : World, J16 t18 w20 →
      CondV t18 (
        R (.returned (.tuple #[(Value.int .i64 1), (Value.bool true)])) w20) (
        R (.returned (.tuple #[(Value.int .i64 0), (Value.bool false)])) w20))))))
theorem calls_i_OpLevel {p0 : Value} {w : World} {R : Ending → World → Prop} (h : sh_i_OpLevel p0 w R) : Calls Try.prog 166 #[p0] w R :=
  calls_sh (.seq none .leaf (.seq none (.seq none .leaf (.one (.seq (some [5]) .leaf (.two .leaf (.seq (some [15]) .leaf (.two .leaf (.seq (some [18]) .leaf .leaf))))))) .leaf)) [p0] mixed Try.func166 (by kernel_rfl) (by kernel_rfl) h


/- loop.example/prologserver/impl.IsBuiltin : function 167 -/
def sh_i_IsBuiltin (p0 p1 : Value) (w : World) (R : Ending → World → Prop) : Prop :=
  (∃ J1 : Value → World → Prop, (
    Run Try.prog (sBin .eql 9 false true p0 (Value.string ⟨#[61]⟩)) w fun t7 w2 =>
    CondV t7 (
      J1 t7 w2) (
      Run Try.prog (sBin .eql 9 false true p0 (Value.string ⟨#[92, 61]⟩)) w2 fun t8 w3 =>
      CondV t8 (
        J1 t8 w3) (
        Run Try.prog (sBin .eql 9 false true p0 (Value.string ⟨#[61, 61]⟩)) w3 fun t9 w4 =>
        CondV t9 (
          J1 t9 w4) (
          Run Try.prog (sBin .eql 9 false true p0 (Value.string ⟨#[60]⟩)) w4 fun t10 w5 =>
          CondV t10 (
            J1 t10 w5) (
            Run Try.prog (sBin .eql 9 false true p0 (Value.string ⟨#[62]⟩)) w5 fun t11 w6 =>
            CondV t11 (
              J1 t11 w6) (
              Run Try.prog (sBin .eql 9 false true p0 (Value.string ⟨#[61, 60]⟩)) w6 fun t12 w7 =>
              CondV t12 (
                J1 t12 w7) (
                Run Try.prog (sBin .eql 9 false true p0 (Value.string ⟨#[62, 61]⟩)) w7 fun t13 w8 =>
                CondV t13 (
                  J1 t13 w8) (
                  Run Try.prog (sBin .eql 9 false true p0 (Value.string ⟨#[61, 58, 61]⟩)) w8 fun t14 w9 =>
                  CondV t14 (
                    J1 t14 w9) (
                    Run Try.prog (sBin .eql 9 false true p0 (Value.string ⟨#[105, 115]⟩)) w9 fun t15 w10 =>
                    J1 t15 w10))))))))) ∧
  ∀ _ _ _ _ _ _ _ _ t6 _ : Value, ∀ w11 : World, J1 t6 w11 →
  CondV t6 (
    Run Try.prog (sBin .eql 3 false true p1 (Value.int .i64 2)) w11 fun t17 w12 =>
    R (.returned t17) w12) (
    (∃ J13 : Value → World → Prop, (
      Run Try.prog (sBin .eql 9 false true p0 (Value.string ⟨#[116, 114, 117, 101]⟩)) w11 fun t19 w14 =>
      CondV t19 (
        J13 t19 w14) (
        Run Try.prog (sBin .eql 9 false true p0 (Value.string ⟨#[102, 97, 105, 108]⟩)) w14 fun t20 w15 =>
        J13 t20 w15)) ∧
    ∀ _ t18 _ : Value, ∀ w16 : World, J13 t18 w16 →
    CondV t18 (
      Run Try.prog (sBin .eql 3 false true p1 (Value.int .i64 0)) w16 fun t22 w17 =>
      R (.returned t22) w17) (
      (∃ J18 : Value → World → Prop, (
        Run Try.prog (sBin .eql 9 false true p0 (Value.string ⟨#[118, 97, 114]⟩)) w16 fun t24 w19 =>
        CondV t24 (
          J18 t24 w19) (
          Run Try.prog (sBin .eql 9 false true p0 (Value.string ⟨#[110, 111, 110, 118, 97, 114]⟩)) w19 fun t25 w20 =>
          CondV t25 (
            J18 t25 w20) (
            Run Try.prog (sBin .eql 9 false true p0 (Value.string ⟨#[97, 116, 111, 109]⟩)) w20 fun t26 w21 =>
            CondV t26 (
              J18 t26 w21) (
              Run Try.prog (sBin .eql 9 false true p0 (Value.string ⟨#[105, 110, 116]⟩)) w21 fun t27 w22 =>
              J18 t27 w22)))) ∧
      ∀ _ _ _ t23 _ : Value, ∀ w23 : World, J18 t23 w23 →
      CondV t23 (
        Run Try.prog (sBin .eql 3 false true p1 (Value.int .i64 1)) w23 fun t29 w24 =>
        R (.returned t29) w24) (
        Run Try.prog (sBin .eql 9 false true p0 (Value.string ⟨#[97, 114, 103]⟩)) w23 fun t31 w25 =>
        CondV t31 (
          Run Try.prog (sBin .eql 3 false true p1 (Value.int .i64 3)) w25 fun t33 w26 =>
          R (.returned t33) w26) (
          R (.returned (Value.bool false)) w25)))))))
theorem calls_i_IsBuiltin {p0 p1 : Value} {w : World} {R : Ending → World → Prop} (h : sh_i_IsBuiltin p0 p1 w R) : Calls Try.prog 167 #[p0, p1] w R :=
  calls_sh (.seq none .leaf (.seq none (.seq none .leaf (.one (.seq (some [6]) .leaf (.two .leaf (.seq (some [18]) .leaf (.two .leaf (.seq (some [23]) .leaf .leaf))))))) .leaf)) [p0, p1] mixed Try.func167 (by kernel_rfl) (by kernel_rfl) h


/- loop.example/prologserver/spec.NameValid : function 168 -/
def sh_s_NameValid (p0 : Value) (w : World) (R : Ending → World → Prop) : Prop :=
  Run Try.prog (sCall (Value.func (.func 147) #[] #[]) [p0]) w fun t4 w1 =>
  GuardV t4 false (
    Run Try.prog (sCall (Value.func (.func 172) #[] #[]) []) w1 fun t6 w2 =>
    Run Try.prog (sCall (Value.func (.func 171) #[] #[]) [t6, p0]) w2 fun t8 w3 =>
    Run Try.prog (sOp (.pick (.const t4) (.const (Value.bool true)) (.const t8)) 4) w3 fun t9 w4 =>
    R (.returned t9) w4) (
    Run Try.prog (sOp (.pick (.const t4) (.const (Value.bool true)) (.const undef)) 4) w1 fun t9_2 w5 =>
    R (.returned t9_2) w5)
theorem calls_s_NameValid {p0 : Value} {w : World} {R : Ending → World → Prop} (h : sh_s_NameValid p0 w R) : Calls Try.prog 168 #[p0] w R :=
  calls_sh .leaf [p0] mixed Try.func168 (by kernel_rfl) (by kernel_rfl) h


/- slices.Contains[[]string,string] : function 169 -/
def sh_x_Contains_string (p0 p1 : Value) (w : World) (R : Ending → World → Prop) : Prop :=
  Run Try.prog (sCall (Value.func (.func 173) #[] #[]) [p0, p1]) w fun t7 w1 =>
  Run Try.prog (sBin .geq 3 false true t7 (Value.int .i64 0)) w1 fun t8 w2 =>
  R (.returned t8) w2
theorem calls_x_Contains_string {p0 p1 : Value} {w : World} {R : Ending → World → Prop} (h : sh_x_Contains_string p0 p1 w R) : Calls Try.prog 169 #[p0, p1] w R :=
  calls_sh .leaf [p0, p1] mixed Try.func169 (by kernel_rfl) (by kernel_rfl) h


/- loop.example/prologserver/impl.symbols : function 170 -/
def sh_i_symbols (w : World) (R : Ending → World → Prop) : Prop :=
  Run Try.prog (sBuildSlice 130 15 [(0, (Value.string ⟨#[43]⟩)), (1, (Value.string ⟨#[45]⟩)), (2, (Value.string ⟨#[42]⟩)), (3, (Value.string ⟨#[47, 47]⟩)), (4, (Value.string ⟨#[61]⟩)), (5, (Value.string ⟨#[92, 61]⟩)), (6, (Value.string ⟨#[61, 61]⟩)), (7, (Value.string ⟨#[60]⟩)), (8, (Value.string ⟨#[62]⟩)), (9, (Value.string ⟨#[61, 60]⟩)), (10, (Value.string ⟨#[62, 61]⟩)), (11, (Value.string ⟨#[61, 58, 61]⟩)), (12, (Value.string ⟨#[46]⟩)), (13, (Value.string ⟨#[91, 93]⟩)), (14, (Value.string ⟨#[33]⟩))]) w fun t1 w1 =>
  R (.returned t1) w1
theorem calls_i_symbols {w : World} {R : Ending → World → Prop} (h : sh_i_symbols w R) : Calls Try.prog 170 #[] w R :=
  calls_sh .leaf [] mixed Try.func170 (by kernel_rfl) (by kernel_rfl) h


/- loop.example/prologserver/spec.l1Has : function 171 -/
def sh_s_l1Has (p0 p1 : Value) (w : World) (R : Ending → World → Prop) : Prop :=
  (∃ (I1 : Value → World → Prop) (m2 : Value → World → Nat), I1 (Value.int .i64 0) w ∧
  ∀ t5 _ _ _ _ _ _ _ _ _ _ _ _ _ : Value, ∀ w3 : World, I1 t5 w3 →
  Run Try.prog (sBuiltin .len #[130] 3 [false] [p0]) w3 fun t8_2 w4 =>
  Run Try.prog (sBin .lss 3 false false t5 t8_2) w4 fun t9_2 w5 =>
  CondV t9_2 (
    Run Try.prog (sOp (.indexAddr 130 (.const p0) (.const t5)) 0) w5 fun t14_2 w6 =>
  Run Try.prog (sOp (.load 9 (.const t14_2)) 9) w6 fun t15_2 w7 =>
  Run Try.prog (sBin .eql 9 false false t15_2 p1) w7 fun t17_2 w8 =>
  CondV t17_2 (
    R (.returned (Value.bool true)) w8) (
    Run Try.prog (sBin .add 3 false true t5 (Value.int .i64 1)) w8 fun t11_2 w9 =>
  I1 t11_2 w9 ∧ m2 t11_2 w9 < m2 t5 w3)) (
    R (.returned (Value.bool false)) w5))
theorem calls_s_l1Has {p0 p1 : Value} {w : World} {R : Ending → World → Prop} (h : sh_s_l1Has p0 p1 w R) : Calls Try.prog 171 #[p0, p1] w R :=
  calls_sh (.seq none .leaf (.seq none (.seq none .leaf (.one (.loop [5] .leaf))) .leaf)) [p0, p1] mixed Try.func171 (by kernel_rfl) (by kernel_rfl) h


/- loop.example/prologserver/spec.l1Signs : function 172 -/
def sh_s_l1Signs (w : World) (R : Ending → World → Prop) : Prop :=
  Run Try.prog (sBuildSlice 130 15 [(0, (Value.string ⟨#[43]⟩)), (1, (Value.string ⟨#[45]⟩)), (2, (Value.string ⟨#[42]⟩)), (3, (Value.string ⟨#[47, 47]⟩)), (4, (Value.string ⟨#[61]⟩)), (5, (Value.string ⟨#[92, 61]⟩)), (6, (Value.string ⟨#[61, 61]⟩)), (7, (Value.string ⟨#[60]⟩)), (8, (Value.string ⟨#[62]⟩)), (9, (Value.string ⟨#[61, 60]⟩)), (10, (Value.string ⟨#[62, 61]⟩)), (11, (Value.string ⟨#[61, 58, 61]⟩)), (12, (Value.string ⟨#[46]⟩)), (13, (Value.string ⟨#[91, 93]⟩)), (14, (Value.string ⟨#[33]⟩))]) w fun t1 w1 =>
  R (.returned t1) w1
theorem calls_s_l1Signs {w : World} {R : Ending → World → Prop} (h : sh_s_l1Signs w R) : Calls Try.prog 172 #[] w R :=
  calls_sh .leaf [] mixed Try.func172 (by kernel_rfl) (by kernel_rfl) h


/- slices.Index[[]string,string] : function 173 -/
def sh_x_Index_string (p0 p1 : Value) (w : World) (R : Ending → World → Prop) : Prop :=
  Run Try.prog (sBuiltin .len #[130] 3 [false] [p0]) w fun t7 w1 =>
  (∃ (I2 : Value → World → Prop) (m3 : Value → World → Nat), I2 (Value.int .i64 0) w1 ∧
  ∀ t8 _ _ _ _ _ _ _ _ _ _ _ _ : Value, ∀ w4 : World, I2 t8 w4 →
  Run Try.prog (sBin .lss 3 false false t8 t7) w4 fun t9_2 w5 =>
  CondV t9_2 (
    Run Try.prog (sOp (.indexAddr 130 (.const p0) (.const t8)) 0) w5 fun t14_2 w6 =>
  Run Try.prog (sOp (.load 9 (.const t14_2)) 9) w6 fun t15_2 w7 =>
  Run Try.prog (sBin .eql 9 false false p1 t15_2) w7 fun t16_2 w8 =>
  CondV t16_2 (
    R (.returned t8) w8) (
    Run Try.prog (sBin .add 3 false true t8 (Value.int .i64 1)) w8 fun t18_2 w9 =>
  I2 t18_2 w9 ∧ m3 t18_2 w9 < m3 t8 w4)) (
    R (.returned (Value.int .i64 (-1))) w5))
theorem calls_x_Index_string {p0 p1 : Value} {w : World} {R : Ending → World → Prop} (h : sh_x_Index_string p0 p1 w R) : Calls Try.prog 173 #[p0, p1] w R :=
  calls_sh (.seq none .leaf (.seq none (.seq none .leaf (.one (.loop [8] .leaf))) .leaf)) [p0, p1] mixed Try.func173 (by kernel_rfl) (by kernel_rfl) h

end Go.Proofs.Ytnoieadimkgjcaa

/- Made by program: the functions in a shallow form; each form gives Calls. -/
import Derived.Test.YtgdibnmabnimaaaVcCalls
import Derived.Test.YtgdibnmabnimaaaProg
import Derived.Test.YtgdibnmabnimaaaZMch0
import Derived.KernelRfl
set_option maxRecDepth 100000
namespace Go.Proofs.Ytgdibnmabnimaaa
open Go
/- loop.example/prologserver/impl.isPlain : function 69 -/
def sh_i_isPlain (p0 : Value) (w : World) (R : Ending → World → Prop) : Prop :=
  Run Try.prog (sOp (.box 44 (.const p0)) 0) w fun t1 w1 =>
  Run Try.prog (sOp (.fieldAddr 44 (.const t1) 0) 0) w1 fun t3 w2 =>
  Run Try.prog (sOp (.load 3 (.const t3)) 3) w2 fun t4 w3 =>
  Run Try.prog (sBin .eql 3 false true t4 (Value.int .i64 3)) w3 fun t5 w4 =>
  GuardV t5 true (
    Run Try.prog (sOp (.fieldAddr 44 (.const t1) 2) 0) w4 fun t7 w5 =>
    Run Try.prog (sOp (.load 9 (.const t7)) 9) w5 fun t8 w6 =>
    Run Try.prog (sCall (Value.func (.func 86) #[] #[]) [t8]) w6 fun t9 w7 =>
    Run Try.prog (sOp (.pick (.const t5) (.const t9) (.const (Value.bool false))) 4) w7 fun t10 w8 =>
    GuardV t10 true (
      Run Try.prog (sOp (.fieldAddr 44 (.const t1) 2) 0) w8 fun t12 w9 =>
      Run Try.prog (sOp (.load 9 (.const t12)) 9) w9 fun t13 w10 =>
      Run Try.prog (sCall (Value.func (.func 87) #[] #[]) [t13]) w10 fun t14 w11 =>
      Run Try.prog (sOp (.unOp .not 4 (.const t14)) 4) w11 fun t15 w12 =>
      Run Try.prog (sOp (.pick (.const t10) (.const t15) (.const (Value.bool false))) 4) w12 fun t16 w13 =>
      GuardV t16 true (
        Run Try.prog (sOp (.load 44 (.const t1)) 44) w13 fun t18 w14 =>
        Run Try.prog (sCall (Value.func (.func 88) #[] #[]) [t18]) w14 fun t19 w15 =>
        Run Try.prog (sOp (.unOp .not 4 (.const t19)) 4) w15 fun t20 w16 =>
        Run Try.prog (sOp (.pick (.const t16) (.const t20) (.const (Value.bool false))) 4) w16 fun t21 w17 =>
        R (.returned t21) w17) (
        Run Try.prog (sOp (.pick (.const t16) (.const undef) (.const (Value.bool false))) 4) w13 fun t21_2 w18 =>
        R (.returned t21_2) w18)) (
      Run Try.prog (sOp (.pick (.const t10) (.const undef) (.const (Value.bool false))) 4) w8 fun t16_2 w19 =>
      GuardV t16_2 true (
        Run Try.prog (sOp (.load 44 (.const t1)) 44) w19 fun t18_2 w20 =>
        Run Try.prog (sCall (Value.func (.func 88) #[] #[]) [t18_2]) w20 fun t19_2 w21 =>
        Run Try.prog (sOp (.unOp .not 4 (.const t19_2)) 4) w21 fun t20_2 w22 =>
        Run Try.prog (sOp (.pick (.const t16_2) (.const t20_2) (.const (Value.bool false))) 4) w22 fun t21_3 w23 =>
        R (.returned t21_3) w23) (
        Run Try.prog (sOp (.pick (.const t16_2) (.const undef) (.const (Value.bool false))) 4) w19 fun t21_4 w24 =>
        R (.returned t21_4) w24))) (
    Run Try.prog (sOp (.pick (.const t5) (.const undef) (.const (Value.bool false))) 4) w4 fun t10_2 w25 =>
    GuardV t10_2 true (
      Run Try.prog (sOp (.fieldAddr 44 (.const t1) 2) 0) w25 fun t12_2 w26 =>
      Run Try.prog (sOp (.load 9 (.const t12_2)) 9) w26 fun t13_2 w27 =>
      Run Try.prog (sCall (Value.func (.func 87) #[] #[]) [t13_2]) w27 fun t14_2 w28 =>
      Run Try.prog (sOp (.unOp .not 4 (.const t14_2)) 4) w28 fun t15_2 w29 =>
      Run Try.prog (sOp (.pick (.const t10_2) (.const t15_2) (.const (Value.bool false))) 4) w29 fun t16_3 w30 =>
      GuardV t16_3 true (
        Run Try.prog (sOp (.load 44 (.const t1)) 44) w30 fun t18_3 w31 =>
        Run Try.prog (sCall (Value.func (.func 88) #[] #[]) [t18_3]) w31 fun t19_3 w32 =>
        Run Try.prog (sOp (.unOp .not 4 (.const t19_3)) 4) w32 fun t20_3 w33 =>
        Run Try.prog (sOp (.pick (.const t16_3) (.const t20_3) (.const (Value.bool false))) 4) w33 fun t21_5 w34 =>
        R (.returned t21_5) w34) (
        Run Try.prog (sOp (.pick (.const t16_3) (.const undef) (.const (Value.bool false))) 4) w30 fun t21_6 w35 =>
        R (.returned t21_6) w35)) (
      Run Try.prog (sOp (.pick (.const t10_2) (.const undef) (.const (Value.bool false))) 4) w25 fun t16_4 w36 =>
      GuardV t16_4 true (
        Run Try.prog (sOp (.load 44 (.const t1)) 44) w36 fun t18_4 w37 =>
        Run Try.prog (sCall (Value.func (.func 88) #[] #[]) [t18_4]) w37 fun t19_4 w38 =>
        Run Try.prog (sOp (.unOp .not 4 (.const t19_4)) 4) w38 fun t20_4 w39 =>
        Run Try.prog (sOp (.pick (.const t16_4) (.const t20_4) (.const (Value.bool false))) 4) w39 fun t21_7 w40 =>
        R (.returned t21_7) w40) (
        Run Try.prog (sOp (.pick (.const t16_4) (.const undef) (.const (Value.bool false))) 4) w36 fun t21_8 w41 =>
        R (.returned t21_8) w41)))
theorem calls_i_isPlain {p0 : Value} {w : World} {R : Ending → World → Prop} (h : sh_i_isPlain p0 w R) : Calls Try.prog 69 #[p0] w R :=
  calls_sh .leaf [p0] mixed Try.func69 (by kernel_rfl) (by kernel_rfl) h


/- loop.example/prologserver/impl.isFlat$1 : function 70 -/
def sh_i_isFlat_1 (p0 : Value) (w : World) (R : Ending → World → Prop) : Prop :=
  Run Try.prog (sOp (.box 44 (.const p0)) 0) w fun t1 w1 =>
  Run Try.prog (sOp (.fieldAddr 44 (.const t1) 3) 0) w1 fun t3 w2 =>
  Run Try.prog (sOp (.load 29 (.const t3)) 29) w2 fun t4 w3 =>
  Run Try.prog (sBuiltin .len #[29] 3 [false] [t4]) w3 fun t5 w4 =>
  Run Try.prog (sBin .gtr 3 false true t5 (Value.int .i64 0)) w4 fun t6 w5 =>
  R (.returned t6) w5
theorem calls_i_isFlat_1 {p0 : Value} {w : World} {R : Ending → World → Prop} (h : sh_i_isFlat_1 p0 w R) : Calls Try.prog 70 #[p0] w R :=
  calls_sh .leaf [p0] mixed Try.func70 (by kernel_rfl) (by kernel_rfl) h


/- loop.example/prologserver/spec.GoalValid : function 72 -/
def sh_s_GoalValid (p0 : Value) (w : World) (R : Ending → World → Prop) : Prop :=
  Run Try.prog (sOp (.box 44 (.const p0)) 0) w fun t1 w1 =>
  Run Try.prog (sOp (.load 44 (.const t1)) 44) w1 fun t3 w2 =>
  Run Try.prog (sCall (Value.func (.func 32) #[] #[]) [t3]) w2 fun t4 w3 =>
  GuardV t4 true (
    Run Try.prog (sOp (.load 44 (.const t1)) 44) w3 fun t6 w4 =>
    Run Try.prog (sCall (Value.func (.func 89) #[] #[]) [t6]) w4 fun t7 w5 =>
    Run Try.prog (sOp (.pick (.const t4) (.const t7) (.const (Value.bool false))) 4) w5 fun t8 w6 =>
    R (.returned t8) w6) (
    Run Try.prog (sOp (.pick (.const t4) (.const undef) (.const (Value.bool false))) 4) w3 fun t8_2 w7 =>
    R (.returned t8_2) w7)
theorem calls_s_GoalValid {p0 : Value} {w : World} {R : Ending → World → Prop} (h : sh_s_GoalValid p0 w R) : Calls Try.prog 72 #[p0] w R :=
  calls_sh .leaf [p0] mixed Try.func72 (by kernel_rfl) (by kernel_rfl) h


/- loop.example/prologserver/spec.l1Own : function 73 -/
def sh_s_l1Own (p0 : Value) (w : World) (R : Ending → World → Prop) : Prop :=
  Run Try.prog (sOp (.box 44 (.const p0)) 0) w fun t1 w1 =>
  Run Try.prog (sOp (.fieldAddr 44 (.const t1) 0) 0) w1 fun t3 w2 =>
  Run Try.prog (sOp (.load 3 (.const t3)) 3) w2 fun t4 w3 =>
  Run Try.prog (sBin .eql 3 false true t4 (Value.int .i64 1)) w3 fun t6 w4 =>
  CondV t6 (
    Run Try.prog (sOp (.fieldAddr 44 (.const t1) 1) 0) w4 fun t7 w5 =>
    Run Try.prog (sOp (.load 3 (.const t7)) 3) w5 fun t8 w6 =>
    Run Try.prog (sBin .geq 3 false true t8 (Value.int .i64 0)) w6 fun t9 w7 =>
    GuardV t9 true (
      Run Try.prog (sOp (.fieldAddr 44 (.const t1) 1) 0) w7 fun t11 w8 =>
      Run Try.prog (sOp (.load 3 (.const t11)) 3) w8 fun t12 w9 =>
      Run Try.prog (sBin .leq 3 false true t12 (Value.int .i64 25)) w9 fun t13 w10 =>
      Run Try.prog (sOp (.pick (.const t9) (.const t13) (.const (Value.bool false))) 4) w10 fun t14 w11 =>
      GuardV t14 true (
        Run Try.prog (sOp (.fieldAddr 44 (.const t1) 2) 0) w11 fun t16 w12 =>
        Run Try.prog (sOp (.load 9 (.const t16)) 9) w12 fun t17 w13 =>
        Run Try.prog (sBin .eql 9 false true t17 (Value.string ⟨#[]⟩)) w13 fun t18 w14 =>
        Run Try.prog (sOp (.pick (.const t14) (.const t18) (.const (Value.bool false))) 4) w14 fun t19 w15 =>
        GuardV t19 true (
          Run Try.prog (sOp (.fieldAddr 44 (.const t1) 3) 0) w15 fun t21 w16 =>
          Run Try.prog (sOp (.load 29 (.const t21)) 29) w16 fun t22 w17 =>
          Run Try.prog (sBuiltin .len #[29] 3 [false] [t22]) w17 fun t23 w18 =>
          Run Try.prog (sBin .eql 3 false true t23 (Value.int .i64 0)) w18 fun t24 w19 =>
          Run Try.prog (sOp (.pick (.const t19) (.const t24) (.const (Value.bool false))) 4) w19 fun t25 w20 =>
          R (.returned t25) w20) (
          Run Try.prog (sOp (.pick (.const t19) (.const undef) (.const (Value.bool false))) 4) w15 fun t25_2 w21 =>
          R (.returned t25_2) w21)) (
        Run Try.prog (sOp (.pick (.const t14) (.const undef) (.const (Value.bool false))) 4) w11 fun t19_2 w22 =>
        GuardV t19_2 true (
          Run Try.prog (sOp (.fieldAddr 44 (.const t1) 3) 0) w22 fun t21_2 w23 =>
          Run Try.prog (sOp (.load 29 (.const t21_2)) 29) w23 fun t22_2 w24 =>
          Run Try.prog (sBuiltin .len #[29] 3 [false] [t22_2]) w24 fun t23_2 w25 =>
          Run Try.prog (sBin .eql 3 false true t23_2 (Value.int .i64 0)) w25 fun t24_2 w26 =>
          Run Try.prog (sOp (.pick (.const t19_2) (.const t24_2) (.const (Value.bool false))) 4) w26 fun t25_3 w27 =>
          R (.returned t25_3) w27) (
          Run Try.prog (sOp (.pick (.const t19_2) (.const undef) (.const (Value.bool false))) 4) w22 fun t25_4 w28 =>
          R (.returned t25_4) w28))) (
      Run Try.prog (sOp (.pick (.const t9) (.const undef) (.const (Value.bool false))) 4) w7 fun t14_2 w29 =>
      GuardV t14_2 true (
        Run Try.prog (sOp (.fieldAddr 44 (.const t1) 2) 0) w29 fun t16_2 w30 =>
        Run Try.prog (sOp (.load 9 (.const t16_2)) 9) w30 fun t17_2 w31 =>
        Run Try.prog (sBin .eql 9 false true t17_2 (Value.string ⟨#[]⟩)) w31 fun t18_2 w32 =>
        Run Try.prog (sOp (.pick (.const t14_2) (.const t18_2) (.const (Value.bool false))) 4) w32 fun t19_3 w33 =>
        GuardV t19_3 true (
          Run Try.prog (sOp (.fieldAddr 44 (.const t1) 3) 0) w33 fun t21_3 w34 =>
          Run Try.prog (sOp (.load 29 (.const t21_3)) 29) w34 fun t22_3 w35 =>
          Run Try.prog (sBuiltin .len #[29] 3 [false] [t22_3]) w35 fun t23_3 w36 =>
          Run Try.prog (sBin .eql 3 false true t23_3 (Value.int .i64 0)) w36 fun t24_3 w37 =>
          Run Try.prog (sOp (.pick (.const t19_3) (.const t24_3) (.const (Value.bool false))) 4) w37 fun t25_5 w38 =>
          R (.returned t25_5) w38) (
          Run Try.prog (sOp (.pick (.const t19_3) (.const undef) (.const (Value.bool false))) 4) w33 fun t25_6 w39 =>
          R (.returned t25_6) w39)) (
        Run Try.prog (sOp (.pick (.const t14_2) (.const undef) (.const (Value.bool false))) 4) w29 fun t19_4 w40 =>
        GuardV t19_4 true (
          Run Try.prog (sOp (.fieldAddr 44 (.const t1) 3) 0) w40 fun t21_4 w41 =>
          Run Try.prog (sOp (.load 29 (.const t21_4)) 29) w41 fun t22_4 w42 =>
          Run Try.prog (sBuiltin .len #[29] 3 [false] [t22_4]) w42 fun t23_4 w43 =>
          Run Try.prog (sBin .eql 3 false true t23_4 (Value.int .i64 0)) w43 fun t24_4 w44 =>
          Run Try.prog (sOp (.pick (.const t19_4) (.const t24_4) (.const (Value.bool false))) 4) w44 fun t25_7 w45 =>
          R (.returned t25_7) w45) (
          Run Try.prog (sOp (.pick (.const t19_4) (.const undef) (.const (Value.bool false))) 4) w40 fun t25_8 w46 =>
          R (.returned t25_8) w46)))) (
    Run Try.prog (sBin .eql 3 false true t4 (Value.int .i64 2)) w4 fun t27 w47 =>
    CondV t27 (
      Run Try.prog (sOp (.fieldAddr 44 (.const t1) 1) 0) w47 fun t28 w48 =>
      Run Try.prog (sOp (.load 3 (.const t28)) 3) w48 fun t29 w49 =>
      Run Try.prog (sBin .geq 3 false true t29 (Value.int .i64 (-999))) w49 fun t30 w50 =>
      GuardV t30 true (
        Run Try.prog (sOp (.fieldAddr 44 (.const t1) 1) 0) w50 fun t32 w51 =>
        Run Try.prog (sOp (.load 3 (.const t32)) 3) w51 fun t33 w52 =>
        Run Try.prog (sBin .leq 3 false true t33 (Value.int .i64 999)) w52 fun t34 w53 =>
        Run Try.prog (sOp (.pick (.const t30) (.const t34) (.const (Value.bool false))) 4) w53 fun t35 w54 =>
        GuardV t35 true (
          Run Try.prog (sOp (.fieldAddr 44 (.const t1) 2) 0) w54 fun t37 w55 =>
          Run Try.prog (sOp (.load 9 (.const t37)) 9) w55 fun t38 w56 =>
          Run Try.prog (sBin .eql 9 false true t38 (Value.string ⟨#[]⟩)) w56 fun t39 w57 =>
          Run Try.prog (sOp (.pick (.const t35) (.const t39) (.const (Value.bool false))) 4) w57 fun t40 w58 =>
          GuardV t40 true (
            Run Try.prog (sOp (.fieldAddr 44 (.const t1) 3) 0) w58 fun t42 w59 =>
            Run Try.prog (sOp (.load 29 (.const t42)) 29) w59 fun t43 w60 =>
            Run Try.prog (sBuiltin .len #[29] 3 [false] [t43]) w60 fun t44 w61 =>
            Run Try.prog (sBin .eql 3 false true t44 (Value.int .i64 0)) w61 fun t45 w62 =>
            Run Try.prog (sOp (.pick (.const t40) (.const t45) (.const (Value.bool false))) 4) w62 fun t46 w63 =>
            R (.returned t46) w63) (
            Run Try.prog (sOp (.pick (.const t40) (.const undef) (.const (Value.bool false))) 4) w58 fun t46_2 w64 =>
            R (.returned t46_2) w64)) (
          Run Try.prog (sOp (.pick (.const t35) (.const undef) (.const (Value.bool false))) 4) w54 fun t40_2 w65 =>
          GuardV t40_2 true (
            Run Try.prog (sOp (.fieldAddr 44 (.const t1) 3) 0) w65 fun t42_2 w66 =>
            Run Try.prog (sOp (.load 29 (.const t42_2)) 29) w66 fun t43_2 w67 =>
            Run Try.prog (sBuiltin .len #[29] 3 [false] [t43_2]) w67 fun t44_2 w68 =>
            Run Try.prog (sBin .eql 3 false true t44_2 (Value.int .i64 0)) w68 fun t45_2 w69 =>
            Run Try.prog (sOp (.pick (.const t40_2) (.const t45_2) (.const (Value.bool false))) 4) w69 fun t46_3 w70 =>
            R (.returned t46_3) w70) (
            Run Try.prog (sOp (.pick (.const t40_2) (.const undef) (.const (Value.bool false))) 4) w65 fun t46_4 w71 =>
            R (.returned t46_4) w71))) (
        Run Try.prog (sOp (.pick (.const t30) (.const undef) (.const (Value.bool false))) 4) w50 fun t35_2 w72 =>
        GuardV t35_2 true (
          Run Try.prog (sOp (.fieldAddr 44 (.const t1) 2) 0) w72 fun t37_2 w73 =>
          Run Try.prog (sOp (.load 9 (.const t37_2)) 9) w73 fun t38_2 w74 =>
          Run Try.prog (sBin .eql 9 false true t38_2 (Value.string ⟨#[]⟩)) w74 fun t39_2 w75 =>
          Run Try.prog (sOp (.pick (.const t35_2) (.const t39_2) (.const (Value.bool false))) 4) w75 fun t40_3 w76 =>
          GuardV t40_3 true (
            Run Try.prog (sOp (.fieldAddr 44 (.const t1) 3) 0) w76 fun t42_3 w77 =>
            Run Try.prog (sOp (.load 29 (.const t42_3)) 29) w77 fun t43_3 w78 =>
            Run Try.prog (sBuiltin .len #[29] 3 [false] [t43_3]) w78 fun t44_3 w79 =>
            Run Try.prog (sBin .eql 3 false true t44_3 (Value.int .i64 0)) w79 fun t45_3 w80 =>
            Run Try.prog (sOp (.pick (.const t40_3) (.const t45_3) (.const (Value.bool false))) 4) w80 fun t46_5 w81 =>
            R (.returned t46_5) w81) (
            Run Try.prog (sOp (.pick (.const t40_3) (.const undef) (.const (Value.bool false))) 4) w76 fun t46_6 w82 =>
            R (.returned t46_6) w82)) (
          Run Try.prog (sOp (.pick (.const t35_2) (.const undef) (.const (Value.bool false))) 4) w72 fun t40_4 w83 =>
          GuardV t40_4 true (
            Run Try.prog (sOp (.fieldAddr 44 (.const t1) 3) 0) w83 fun t42_4 w84 =>
            Run Try.prog (sOp (.load 29 (.const t42_4)) 29) w84 fun t43_4 w85 =>
            Run Try.prog (sBuiltin .len #[29] 3 [false] [t43_4]) w85 fun t44_4 w86 =>
            Run Try.prog (sBin .eql 3 false true t44_4 (Value.int .i64 0)) w86 fun t45_4 w87 =>
            Run Try.prog (sOp (.pick (.const t40_4) (.const t45_4) (.const (Value.bool false))) 4) w87 fun t46_7 w88 =>
            R (.returned t46_7) w88) (
            Run Try.prog (sOp (.pick (.const t40_4) (.const undef) (.const (Value.bool false))) 4) w83 fun t46_8 w89 =>
            R (.returned t46_8) w89)))) (
      Run Try.prog (sBin .eql 3 false true t4 (Value.int .i64 3)) w47 fun t48 w90 =>
      CondV t48 (
        Run Try.prog (sOp (.fieldAddr 44 (.const t1) 1) 0) w90 fun t49 w91 =>
        Run Try.prog (sOp (.load 3 (.const t49)) 3) w91 fun t50 w92 =>
        Run Try.prog (sBin .eql 3 false true t50 (Value.int .i64 0)) w92 fun t51 w93 =>
        GuardV t51 true (
          Run Try.prog (sOp (.fieldAddr 44 (.const t1) 2) 0) w93 fun t53 w94 =>
          Run Try.prog (sOp (.load 9 (.const t53)) 9) w94 fun t54 w95 =>
          Run Try.prog (sCall (Value.func (.func 90) #[] #[]) [t54]) w95 fun t55 w96 =>
          Run Try.prog (sOp (.pick (.const t51) (.const t55) (.const (Value.bool false))) 4) w96 fun t56 w97 =>
          GuardV t56 true (
            Run Try.prog (sOp (.fieldAddr 44 (.const t1) 3) 0) w97 fun t58 w98 =>
            Run Try.prog (sOp (.load 29 (.const t58)) 29) w98 fun t59 w99 =>
            Run Try.prog (sBuiltin .len #[29] 3 [false] [t59]) w99 fun t60 w100 =>
            Run Try.prog (sBin .leq 3 false true t60 (Value.int .i64 4)) w100 fun t61 w101 =>
            Run Try.prog (sOp (.pick (.const t56) (.const t61) (.const (Value.bool false))) 4) w101 fun t62 w102 =>
            R (.returned t62) w102) (
            Run Try.prog (sOp (.pick (.const t56) (.const undef) (.const (Value.bool false))) 4) w97 fun t62_2 w103 =>
            R (.returned t62_2) w103)) (
          Run Try.prog (sOp (.pick (.const t51) (.const undef) (.const (Value.bool false))) 4) w93 fun t56_2 w104 =>
          GuardV t56_2 true (
            Run Try.prog (sOp (.fieldAddr 44 (.const t1) 3) 0) w104 fun t58_2 w105 =>
            Run Try.prog (sOp (.load 29 (.const t58_2)) 29) w105 fun t59_2 w106 =>
            Run Try.prog (sBuiltin .len #[29] 3 [false] [t59_2]) w106 fun t60_2 w107 =>
            Run Try.prog (sBin .leq 3 false true t60_2 (Value.int .i64 4)) w107 fun t61_2 w108 =>
            Run Try.prog (sOp (.pick (.const t56_2) (.const t61_2) (.const (Value.bool false))) 4) w108 fun t62_3 w109 =>
            R (.returned t62_3) w109) (
            Run Try.prog (sOp (.pick (.const t56_2) (.const undef) (.const (Value.bool false))) 4) w104 fun t62_4 w110 =>
            R (.returned t62_4) w110))) (
        R (.returned (Value.bool false)) w90)))
theorem calls_s_l1Own {p0 : Value} {w : World} {R : Ending → World → Prop} (h : sh_s_l1Own p0 w R) : Calls Try.prog 73 #[p0] w R :=
  calls_sh .leaf [p0] mixed Try.func73 (by kernel_rfl) (by kernel_rfl) h


/- loop.example/prologserver/spec.l1Word : function 74 -/
def sh_s_l1Word (p0 : Value) (w : World) (R : Ending → World → Prop) : Prop :=
  (∃ (I1 : Value → World → Prop) (m2 : Value → World → Nat), I1 (Value.int .i64 0) w ∧
  ∀ t3 _ _ _ _ _ _ _ _ _ _ _ _ _ _ _ _ _ : Value, ∀ w3 : World, I1 t3 w3 →
  Run Try.prog (sBuiltin .len #[9] 3 [false] [p0]) w3 fun t6_2 w4 =>
  Run Try.prog (sBin .lss 3 false false t3 t6_2) w4 fun t7_2 w5 =>
  CondV t7_2 (
    (∃ J6 : Value → World → Prop, (
    Run Try.prog (sOp (.index 9 (.const p0) (.const t3)) 5) w5 fun t12_2 w7 =>
    Run Try.prog (sBin .lss 5 false true t12_2 (Value.int .u8 97)) w7 fun t13_2 w8 =>
    GuardV t13_2 false (
      Run Try.prog (sOp (.index 9 (.const p0) (.const t3)) 5) w8 fun t17_2 w9 =>
      Run Try.prog (sBin .gtr 5 false true t17_2 (Value.int .u8 122)) w9 fun t18_2 w10 =>
      Run Try.prog (sOp (.pick (.const t13_2) (.const (Value.bool true)) (.const t18_2)) 4) w10 fun t19_2 w11 =>
      J6 t19_2 w11) (
      Run Try.prog (sOp (.pick (.const t13_2) (.const (Value.bool true)) (.const undef)) 4) w8 fun t19_3 w12 =>
      J6 t19_3 w12)) ∧
  ∀ t19_4 _ _ _ _ _ _ _ _ _ : Value, ∀ w13 : World, J6 t19_4 w13 →
  CondV t19_4 (
    R (.returned (Value.bool false)) w13) (
    Run Try.prog (sBin .add 3 false true t3 (Value.int .i64 1)) w13 fun t9_2 w14 =>
  I1 t9_2 w14 ∧ m2 t9_2 w14 < m2 t3 w3))) (
    Run Try.prog (sBuiltin .len #[9] 3 [false] [p0]) w5 fun t21 w15 =>
  Run Try.prog (sBin .geq 3 false true t21 (Value.int .i64 1)) w15 fun t22 w16 =>
  GuardV t22 true (
    Run Try.prog (sBuiltin .len #[9] 3 [false] [p0]) w16 fun t25 w17 =>
    Run Try.prog (sBin .leq 3 false true t25 (Value.int .i64 6)) w17 fun t26 w18 =>
    Run Try.prog (sOp (.pick (.const t22) (.const t26) (.const (Value.bool false))) 4) w18 fun t27 w19 =>
    R (.returned t27) w19) (
    Run Try.prog (sOp (.pick (.const t22) (.const undef) (.const (Value.bool false))) 4) w16 fun t27_2 w20 =>
    R (.returned t27_2) w20)))
theorem calls_s_l1Word {p0 : Value} {w : World} {R : Ending → World → Prop} (h : sh_s_l1Word p0 w R) : Calls Try.prog 74 #[p0] w R :=
  calls_sh (.seq none .leaf (.seq none (.seq none .leaf (.one (.loop [3] (.seq none .leaf (.seq none (.one (.seq (some [19]) .leaf .leaf)) .leaf))))) .leaf)) [p0] mixed Try.func74 (by kernel_rfl) (by kernel_rfl) h


/- loop.example/prologserver/spec.IsBuiltin : function 75 -/
def sh_s_IsBuiltin (p0 p1 : Value) (w : World) (R : Ending → World → Prop) : Prop :=
  (∃ J1 : Value → World → Prop, (
    Run Try.prog (sBin .eql 9 false true p0 (Value.string ⟨#[61]⟩)) w fun t7 w2 =>
    CondV t7 (
      J1 t7 w2) (
      Run Try.prog (sBin .eql 9 false true p0 (Value.string ⟨#[92, 61]⟩)) w2 fun t8 w3 =>
      CondV t8 (
        J1 t8 w3) (
        Run Try.prog (sBin .eql 9 false true p0 (Value.string ⟨#[61, 61]⟩)) w3 fun t9 w4 =>
        CondV t9 (
          J1 t9 w4) (
          Run Try.prog (sBin .eql 9 false true p0 (Value.string ⟨#[60]⟩)) w4 fun t10 w5 =>
          CondV t10 (
            J1 t10 w5) (
            Run Try.prog (sBin .eql 9 false true p0 (Value.string ⟨#[62]⟩)) w5 fun t11 w6 =>
            CondV t11 (
              J1 t11 w6) (
              Run Try.prog (sBin .eql 9 false true p0 (Value.string ⟨#[61, 60]⟩)) w6 fun t12 w7 =>
              CondV t12 (
                J1 t12 w7) (
                Run Try.prog (sBin .eql 9 false true p0 (Value.string ⟨#[62, 61]⟩)) w7 fun t13 w8 =>
                CondV t13 (
                  J1 t13 w8) (
                  Run Try.prog (sBin .eql 9 false true p0 (Value.string ⟨#[61, 58, 61]⟩)) w8 fun t14 w9 =>
                  CondV t14 (
                    J1 t14 w9) (
                    Run Try.prog (sBin .eql 9 false true p0 (Value.string ⟨#[105, 115]⟩)) w9 fun t15 w10 =>
                    J1 t15 w10))))))))) ∧
  ∀ _ _ _ _ _ _ _ _ t6 _ : Value, ∀ w11 : World, J1 t6 w11 →
  CondV t6 (
    Run Try.prog (sBin .eql 3 false true p1 (Value.int .i64 2)) w11 fun t17 w12 =>
    R (.returned t17) w12) (
    (∃ J13 : Value → World → Prop, (
      Run Try.prog (sBin .eql 9 false true p0 (Value.string ⟨#[116, 114, 117, 101]⟩)) w11 fun t19 w14 =>
      CondV t19 (
        J13 t19 w14) (
        Run Try.prog (sBin .eql 9 false true p0 (Value.string ⟨#[102, 97, 105, 108]⟩)) w14 fun t20 w15 =>
        J13 t20 w15)) ∧
    ∀ _ t18 _ : Value, ∀ w16 : World, J13 t18 w16 →
    CondV t18 (
      Run Try.prog (sBin .eql 3 false true p1 (Value.int .i64 0)) w16 fun t22 w17 =>
      R (.returned t22) w17) (
      (∃ J18 : Value → World → Prop, (
        Run Try.prog (sBin .eql 9 false true p0 (Value.string ⟨#[118, 97, 114]⟩)) w16 fun t24 w19 =>
        CondV t24 (
          J18 t24 w19) (
          Run Try.prog (sBin .eql 9 false true p0 (Value.string ⟨#[110, 111, 110, 118, 97, 114]⟩)) w19 fun t25 w20 =>
          CondV t25 (
            J18 t25 w20) (
            Run Try.prog (sBin .eql 9 false true p0 (Value.string ⟨#[97, 116, 111, 109]⟩)) w20 fun t26 w21 =>
            CondV t26 (
              J18 t26 w21) (
              Run Try.prog (sBin .eql 9 false true p0 (Value.string ⟨#[105, 110, 116]⟩)) w21 fun t27 w22 =>
              J18 t27 w22)))) ∧
      ∀ _ _ _ t23 _ : Value, ∀ w23 : World, J18 t23 w23 →
      CondV t23 (
        Run Try.prog (sBin .eql 3 false true p1 (Value.int .i64 1)) w23 fun t29 w24 =>
        R (.returned t29) w24) (
        Run Try.prog (sBin .eql 9 false true p0 (Value.string ⟨#[97, 114, 103]⟩)) w23 fun t31 w25 =>
        CondV t31 (
          Run Try.prog (sBin .eql 3 false true p1 (Value.int .i64 3)) w25 fun t33 w26 =>
          R (.returned t33) w26) (
          R (.returned (Value.bool false)) w25)))))))
theorem calls_s_IsBuiltin {p0 p1 : Value} {w : World} {R : Ending → World → Prop} (h : sh_s_IsBuiltin p0 p1 w R) : Calls Try.prog 75 #[p0, p1] w R :=
  calls_sh (.seq none .leaf (.seq none (.seq none .leaf (.one (.seq (some [6]) .leaf (.two .leaf (.seq (some [18]) .leaf (.two .leaf (.seq (some [23]) .leaf .leaf))))))) .leaf)) [p0, p1] mixed Try.func75 (by kernel_rfl) (by kernel_rfl) h


/- loop.example/prologserver/spec.l2Level : function 76 -/
def sh_s_l2Level (p0 : Value) (w : World) (R : Ending → World → Prop) : Prop :=
  (∃ J1 : Value → World → Prop, (
    Run Try.prog (sBin .eql 9 false true p0 (Value.string ⟨#[61]⟩)) w fun t5 w2 =>
    CondV t5 (
      J1 t5 w2) (
      Run Try.prog (sBin .eql 9 false true p0 (Value.string ⟨#[92, 61]⟩)) w2 fun t6 w3 =>
      CondV t6 (
        J1 t6 w3) (
        Run Try.prog (sBin .eql 9 false true p0 (Value.string ⟨#[61, 61]⟩)) w3 fun t7 w4 =>
        CondV t7 (
          J1 t7 w4) (
          Run Try.prog (sBin .eql 9 false true p0 (Value.string ⟨#[60]⟩)) w4 fun t8 w5 =>
          CondV t8 (
            J1 t8 w5) (
            Run Try.prog (sBin .eql 9 false true p0 (Value.string ⟨#[62]⟩)) w5 fun t9 w6 =>
            CondV t9 (
              J1 t9 w6) (
              Run Try.prog (sBin .eql 9 false true p0 (Value.string ⟨#[61, 60]⟩)) w6 fun t10 w7 =>
              CondV t10 (
                J1 t10 w7) (
                Run Try.prog (sBin .eql 9 false true p0 (Value.string ⟨#[62, 61]⟩)) w7 fun t11 w8 =>
                CondV t11 (
                  J1 t11 w8) (
                  Run Try.prog (sBin .eql 9 false true p0 (Value.string ⟨#[61, 58, 61]⟩)) w8 fun t12 w9 =>
                  CondV t12 (
                    J1 t12 w9) (
                    Run Try.prog (sBin .eql 9 false true p0 (Value.string ⟨#[105, 115]⟩)) w9 fun t13 w10 =>
                    J1 t13 w10))))))))) ∧
  ∀ _ _ _ _ _ _ _ _ t4 _ : Value, ∀ w11 : World, J1 t4 w11 →
  CondV t4 (
    R (.returned (Value.int .i64 3)) w11) (
    (∃ J12 : Value → World → Prop, (
      Run Try.prog (sBin .eql 9 false true p0 (Value.string ⟨#[43]⟩)) w11 fun t15 w13 =>
      CondV t15 (
        J12 t15 w13) (
        Run Try.prog (sBin .eql 9 false true p0 (Value.string ⟨#[45]⟩)) w13 fun t16 w14 =>
        J12 t16 w14)) ∧
    ∀ _ t14 _ : Value, ∀ w15 : World, J12 t14 w15 →
    CondV t14 (
      R (.returned (Value.int .i64 2)) w15) (
      (∃ J16 : Value → World → Prop, (
        Run Try.prog (sBin .eql 9 false true p0 (Value.string ⟨#[42]⟩)) w15 fun t18 w17 =>
        CondV t18 (
          J16 t18 w17) (
          Run Try.prog (sBin .eql 9 false true p0 (Value.string ⟨#[47, 47]⟩)) w17 fun t19 w18 =>
          CondV t19 (
            J16 t19 w18) (
            Run Try.prog (sBin .eql 9 false true p0 (Value.string ⟨#[109, 111, 100]⟩)) w18 fun t20 w19 =>
            J16 t20 w19))) ∧
      ∀ _ _ t17 _ : Value, ∀ w20 : World, J16 t17 w20 →
      CondV t17 (
        R (.returned (Value.int .i64 1)) w20) (
        R (.returned (Value.int .i64 0)) w20))))))
theorem calls_s_l2Level {p0 : Value} {w : World} {R : Ending → World → Prop} (h : sh_s_l2Level p0 w R) : Calls Try.prog 76 #[p0] w R :=
  calls_sh (.seq none .leaf (.seq none (.seq none .leaf (.one (.seq (some [4]) .leaf (.two .leaf (.seq (some [14]) .leaf (.two .leaf (.seq (some [17]) .leaf .leaf))))))) .leaf)) [p0] mixed Try.func76 (by kernel_rfl) (by kernel_rfl) h


/- loop.example/prologserver/spec.l1Rank : function 77 -/
def sh_s_l1Rank (p0 : Value) (w : World) (R : Ending → World → Prop) : Prop :=
  Run Try.prog (sOp (.box 44 (.const p0)) 0) w fun t1 w1 =>
  (∃ J2 : Value → World → Prop, (
    Run Try.prog (sOp (.fieldAddr 44 (.const t1) 0) 0) w1 fun t3 w3 =>
    Run Try.prog (sOp (.load 3 (.const t3)) 3) w3 fun t4 w4 =>
    Run Try.prog (sBin .eql 3 false true t4 (Value.int .i64 3)) w4 fun t5 w5 =>
    GuardV t5 true (
      Run Try.prog (sOp (.fieldAddr 44 (.const t1) 3) 0) w5 fun t7 w6 =>
      Run Try.prog (sOp (.load 29 (.const t7)) 29) w6 fun t8 w7 =>
      Run Try.prog (sBuiltin .len #[29] 3 [false] [t8]) w7 fun t9 w8 =>
      Run Try.prog (sBin .gtr 3 false true t9 (Value.int .i64 0)) w8 fun t10 w9 =>
      Run Try.prog (sOp (.pick (.const t5) (.const t10) (.const (Value.bool false))) 4) w9 fun t11 w10 =>
      J2 t11 w10) (
      Run Try.prog (sOp (.pick (.const t5) (.const undef) (.const (Value.bool false))) 4) w5 fun t11_2 w11 =>
      J2 t11_2 w11)) ∧
  ∀ t11_3 _ _ _ _ _ _ _ _ : Value, ∀ w12 : World, J2 t11_3 w12 →
  CondV t11_3 (
    R (.returned (Value.int .i64 4)) w12) (
    Run Try.prog (sOp (.fieldAddr 44 (.const t1) 0) 0) w12 fun t12 w13 =>
  Run Try.prog (sOp (.load 3 (.const t12)) 3) w13 fun t13 w14 =>
  R (.returned t13) w14))
theorem calls_s_l1Rank {p0 : Value} {w : World} {R : Ending → World → Prop} (h : sh_s_l1Rank p0 w R) : Calls Try.prog 77 #[p0] w R :=
  calls_sh (.seq none .leaf (.seq none (.seq (some [11]) .leaf .leaf) .leaf)) [p0] mixed Try.func77 (by kernel_rfl) (by kernel_rfl) h


/- loop.example/prologserver/spec.l1Less : function 78 -/
def sh_s_l1Less (p0 p1 : Value) (w : World) (R : Ending → World → Prop) : Prop :=
  Run Try.prog (sBin .lss 3 false false p0 p1) w fun t7 w1 =>
  CondV t7 (
    R (.returned (Value.int .i64 (-1))) w1) (
    Run Try.prog (sBin .gtr 3 false false p0 p1) w1 fun t10 w2 =>
  CondV t10 (
    R (.returned (Value.int .i64 1)) w2) (
    R (.returned (Value.int .i64 0)) w2))
theorem calls_s_l1Less {p0 p1 : Value} {w : World} {R : Ending → World → Prop} (h : sh_s_l1Less p0 p1 w R) : Calls Try.prog 78 #[p0, p1] w R :=
  calls_sh .leaf [p0, p1] mixed Try.func78 (by kernel_rfl) (by kernel_rfl) h


/- loop.example/prologserver/spec.l1Before : function 79 -/
def sh_s_l1Before (p0 p1 : Value) (w : World) (R : Ending → World → Prop) : Prop :=
  Run Try.prog (sBin .lss 9 false false p0 p1) w fun t7 w1 =>
  CondV t7 (
    R (.returned (Value.int .i64 (-1))) w1) (
    Run Try.prog (sBin .gtr 9 false false p0 p1) w1 fun t10 w2 =>
  CondV t10 (
    R (.returned (Value.int .i64 1)) w2) (
    R (.returned (Value.int .i64 0)) w2))
theorem calls_s_l1Before {p0 p1 : Value} {w : World} {R : Ending → World → Prop} (h : sh_s_l1Before p0 p1 w R) : Calls Try.prog 79 #[p0, p1] w R :=
  calls_sh .leaf [p0, p1] mixed Try.func79 (by kernel_rfl) (by kernel_rfl) h


/- loop.example/prologserver/impl.goalsValid : function 80 -/
def sh_i_goalsValid (p0 : Value) (w : World) (R : Ending → World → Prop) : Prop :=
  Run Try.prog (sBuiltin .len #[29] 3 [false] [p0]) w fun t4 w1 =>
  Run Try.prog (sBin .leq 3 false true t4 (Value.int .i64 6)) w1 fun t5 w2 =>
  GuardV t5 true (
    Run Try.prog (sCall (Value.func (.func 21) #[] #[]) [p0, (Value.func (.func 91) #[] #[])]) w2 fun t8 w3 =>
    Run Try.prog (sOp (.unOp .not 4 (.const t8)) 4) w3 fun t9 w4 =>
    Run Try.prog (sOp (.pick (.const t5) (.const t9) (.const (Value.bool false))) 4) w4 fun t10 w5 =>
    R (.returned t10) w5) (
    Run Try.prog (sOp (.pick (.const t5) (.const undef) (.const (Value.bool false))) 4) w2 fun t10_2 w6 =>
    R (.returned t10_2) w6)
theorem calls_i_goalsValid {p0 : Value} {w : World} {R : Ending → World → Prop} (h : sh_i_goalsValid p0 w R) : Calls Try.prog 80 #[p0] w R :=
  calls_sh .leaf [p0] mixed Try.func80 (by kernel_rfl) (by kernel_rfl) h


/- slices.IndexFunc[[]int,int] : function 81 -/
def sh_x_IndexFunc_int (p0 p1 : Value) (w : World) (R : Ending → World → Prop) : Prop :=
  Run Try.prog (sBuiltin .len #[58] 3 [false] [p0]) w fun t7 w1 =>
  (∃ (I2 : Value → World → Prop) (m3 : Value → World → Nat), I2 (Value.int .i64 0) w1 ∧
  ∀ t8 _ _ _ _ _ _ _ _ _ _ _ _ : Value, ∀ w4 : World, I2 t8 w4 →
  Run Try.prog (sBin .lss 3 false false t8 t7) w4 fun t9_2 w5 =>
  CondV t9_2 (
    Run Try.prog (sOp (.indexAddr 58 (.const p0) (.const t8)) 0) w5 fun t14_2 w6 =>
  Run Try.prog (sOp (.load 3 (.const t14_2)) 3) w6 fun t15_2 w7 =>
  Run Try.prog (sCall p1 [t15_2]) w7 fun t16_2 w8 =>
  CondV t16_2 (
    R (.returned t8) w8) (
    Run Try.prog (sBin .add 3 false true t8 (Value.int .i64 1)) w8 fun t18_2 w9 =>
  I2 t18_2 w9 ∧ m3 t18_2 w9 < m3 t8 w4)) (
    R (.returned (Value.int .i64 (-1))) w5))
theorem calls_x_IndexFunc_int {p0 p1 : Value} {w : World} {R : Ending → World → Prop} (h : sh_x_IndexFunc_int p0 p1 w R) : Calls Try.prog 81 #[p0, p1] w R :=
  calls_sh (.seq none .leaf (.seq none (.seq none .leaf (.one (.loop [8] .leaf))) .leaf)) [p0, p1] mixed Try.func81 (by kernel_rfl) (by kernel_rfl) h


/- slices.Index[[]int,int] : function 82 -/
def sh_x_Index_int (p0 p1 : Value) (w : World) (R : Ending → World → Prop) : Prop :=
  Run Try.prog (sBuiltin .len #[58] 3 [false] [p0]) w fun t7 w1 =>
  (∃ (I2 : Value → World → Prop) (m3 : Value → World → Nat), I2 (Value.int .i64 0) w1 ∧
  ∀ t8 _ _ _ _ _ _ _ _ _ _ _ _ : Value, ∀ w4 : World, I2 t8 w4 →
  Run Try.prog (sBin .lss 3 false false t8 t7) w4 fun t9_2 w5 =>
  CondV t9_2 (
    Run Try.prog (sOp (.indexAddr 58 (.const p0) (.const t8)) 0) w5 fun t14_2 w6 =>
  Run Try.prog (sOp (.load 3 (.const t14_2)) 3) w6 fun t15_2 w7 =>
  Run Try.prog (sBin .eql 3 false false p1 t15_2) w7 fun t16_2 w8 =>
  CondV t16_2 (
    R (.returned t8) w8) (
    Run Try.prog (sBin .add 3 false true t8 (Value.int .i64 1)) w8 fun t18_2 w9 =>
  I2 t18_2 w9 ∧ m3 t18_2 w9 < m3 t8 w4)) (
    R (.returned (Value.int .i64 (-1))) w5))
theorem calls_x_Index_int {p0 p1 : Value} {w : World} {R : Ending → World → Prop} (h : sh_x_Index_int p0 p1 w R) : Calls Try.prog 82 #[p0, p1] w R :=
  calls_sh (.seq none .leaf (.seq none (.seq none .leaf (.one (.loop [8] .leaf))) .leaf)) [p0, p1] mixed Try.func82 (by kernel_rfl) (by kernel_rfl) h


/- loop.example/prologserver/impl.within : function 83 -/
def sh_i_within (p0 p1 p2 : Value) (w : World) (R : Ending → World → Prop) : Prop :=
  Run Try.prog (sBin .leq 3 false false p1 p0) w fun t9 w1 =>
  GuardV t9 true (
    Run Try.prog (sBin .leq 3 false false p0 p2) w1 fun t13 w2 =>
    Run Try.prog (sOp (.pick (.const t9) (.const t13) (.const (Value.bool false))) 4) w2 fun t14 w3 =>
    R (.returned t14) w3) (
    Run Try.prog (sOp (.pick (.const t9) (.const undef) (.const (Value.bool false))) 4) w1 fun t14_2 w4 =>
    R (.returned t14_2) w4)
theorem calls_i_within {p0 p1 p2 : Value} {w : World} {R : Ending → World → Prop} (h : sh_i_within p0 p1 p2 w R) : Calls Try.prog 83 #[p0, p1, p2] w R :=
  calls_sh .leaf [p0, p1, p2] mixed Try.func83 (by kernel_rfl) (by kernel_rfl) h


/- loop.example/prologserver/impl.NameValid : function 84 -/
def sh_i_NameValid (p0 : Value) (w : World) (R : Ending → World → Prop) : Prop :=
  Run Try.prog (sCall (Value.func (.func 86) #[] #[]) [p0]) w fun t4 w1 =>
  GuardV t4 false (
    Run Try.prog (sCall (Value.func (.func 94) #[] #[]) []) w1 fun t6 w2 =>
    Run Try.prog (sCall (Value.func (.func 93) #[] #[]) [t6, p0]) w2 fun t8 w3 =>
    Run Try.prog (sOp (.pick (.const t4) (.const (Value.bool true)) (.const t8)) 4) w3 fun t9 w4 =>
    R (.returned t9) w4) (
    Run Try.prog (sOp (.pick (.const t4) (.const (Value.bool true)) (.const undef)) 4) w1 fun t9_2 w5 =>
    R (.returned t9_2) w5)
theorem calls_i_NameValid {p0 : Value} {w : World} {R : Ending → World → Prop} (h : sh_i_NameValid p0 w R) : Calls Try.prog 84 #[p0] w R :=
  calls_sh .leaf [p0] mixed Try.func84 (by kernel_rfl) (by kernel_rfl) h


/- loop.example/prologserver/impl.scan$1 : function 85 -/
def sh_i_scan_1 (p0 p1 p2 : Value) (w : World) (R : Ending → World → Prop) : Prop :=
  Run Try.prog (sOp (.box 44 (.const p0)) 0) w fun t3 w1 =>
  Run Try.prog (sOp (.load 44 (.const t3)) 44) w1 fun t5 w2 =>
  Run Try.prog (sOp (.load 3 (.const p1)) 3) w2 fun t6 w3 =>
  Run Try.prog (sBin .add 3 false true t6 (Value.int .i64 1)) w3 fun t7 w4 =>
  Run Try.prog (sOp (.load 83 (.const p2)) 83) w4 fun t8 w5 =>
  Run Try.prog (sCall (Value.func (.func 68) #[] #[]) [t5, t7, t8]) w5 fun t9 w6 =>
  Run Try.prog (sOp (.unOp .not 4 (.const t9)) 4) w6 fun t10 w7 =>
  R (.returned t10) w7
theorem calls_i_scan_1 {p0 p1 p2 : Value} {w : World} {R : Ending → World → Prop} (h : sh_i_scan_1 p0 p1 p2 w R) : Calls Try.prog 85 #[p0, p1, p2] w R :=
  calls_sh .leaf [p0, p1, p2] mixed Try.func85 (by kernel_rfl) (by kernel_rfl) h


/- loop.example/prologserver/impl.isLetters : function 86 -/
def sh_i_isLetters (p0 : Value) (w : World) (R : Ending → World → Prop) : Prop :=
  Run Try.prog (sBuiltin .len #[9] 3 [false] [p0]) w fun t5 w1 =>
  (∃ (I2 : Value → World → Prop) (m3 : Value → World → Nat), I2 (Value.int .i64 0) w1 ∧
  ∀ t6 _ _ _ _ _ _ _ _ _ _ _ _ _ _ _ : Value, ∀ w4 : World, I2 t6 w4 →
  Run Try.prog (sBin .lss 3 false false t6 t5) w4 fun t7_2 w5 =>
  CondV t7_2 (
    (∃ J6 : Value → World → Prop, (
    Run Try.prog (sOp (.index 9 (.const p0) (.const t6)) 5) w5 fun t11_2 w7 =>
    Run Try.prog (sBin .lss 5 false true t11_2 (Value.int .u8 97)) w7 fun t12_2 w8 =>
    GuardV t12_2 false (
      Run Try.prog (sOp (.index 9 (.const p0) (.const t6)) 5) w8 fun t16_2 w9 =>
      Run Try.prog (sBin .gtr 5 false true t16_2 (Value.int .u8 122)) w9 fun t17_2 w10 =>
      Run Try.prog (sOp (.pick (.const t12_2) (.const (Value.bool true)) (.const t17_2)) 4) w10 fun t18_2 w11 =>
      J6 t18_2 w11) (
      Run Try.prog (sOp (.pick (.const t12_2) (.const (Value.bool true)) (.const undef)) 4) w8 fun t18_3 w12 =>
      J6 t18_3 w12)) ∧
  ∀ t18_4 _ _ _ _ _ _ _ _ _ : Value, ∀ w13 : World, J6 t18_4 w13 →
  CondV t18_4 (
    R (.returned (Value.bool false)) w13) (
    Run Try.prog (sBin .add 3 false true t6 (Value.int .i64 1)) w13 fun t19_2 w14 =>
  I2 t19_2 w14 ∧ m3 t19_2 w14 < m3 t6 w4))) (
    Run Try.prog (sBuiltin .len #[9] 3 [false] [p0]) w5 fun t21 w15 =>
  Run Try.prog (sCall (Value.func (.func 83) #[] #[]) [t21, (Value.int .i64 1), (Value.int .i64 6)]) w15 fun t22 w16 =>
  R (.returned t22) w16))
theorem calls_i_isLetters {p0 : Value} {w : World} {R : Ending → World → Prop} (h : sh_i_isLetters p0 w R) : Calls Try.prog 86 #[p0] w R :=
  calls_sh (.seq none .leaf (.seq none (.seq none .leaf (.one (.loop [6] (.seq none .leaf (.seq none .leaf (.seq none (.one (.seq none .leaf (.seq (some [18]) .leaf .leaf))) .leaf)))))) .leaf)) [p0] mixed Try.func86 (by kernel_rfl) (by kernel_rfl) h


/- loop.example/prologserver/impl.isOp : function 87 -/
def sh_i_isOp (p0 : Value) (w : World) (R : Ending → World → Prop) : Prop :=
  Run Try.prog (sCall (Value.func (.func 95) #[] #[]) [p0]) w fun t7 w1 =>
  Run Try.prog (sOp (.extract (.const t7) 0) 3) w1 fun t8 w2 =>
  Run Try.prog (sOp (.extract (.const t7) 1) 4) w2 fun _ w3 =>
  Run Try.prog (sBin .gtr 3 false true t8 (Value.int .i64 0)) w3 fun t11 w4 =>
  R (.returned t11) w4
theorem calls_i_isOp {p0 : Value} {w : World} {R : Ending → World → Prop} (h : sh_i_isOp p0 w R) : Calls Try.prog 87 #[p0] w R :=
  calls_sh .leaf [p0] mixed Try.func87 (by kernel_rfl) (by kernel_rfl) h


/- loop.example/prologserver/impl.isBuilt : function 88 -/
def sh_i_isBuilt (p0 : Value) (w : World) (R : Ending → World → Prop) : Prop :=
  Run Try.prog (sOp (.box 44 (.const p0)) 0) w fun t1 w1 =>
  Run Try.prog (sOp (.fieldAddr 44 (.const t1) 0) 0) w1 fun t3 w2 =>
  Run Try.prog (sOp (.load 3 (.const t3)) 3) w2 fun t4 w3 =>
  Run Try.prog (sBin .eql 3 false true t4 (Value.int .i64 3)) w3 fun t5 w4 =>
  GuardV t5 true (
    Run Try.prog (sOp (.fieldAddr 44 (.const t1) 2) 0) w4 fun t7 w5 =>
    Run Try.prog (sOp (.load 9 (.const t7)) 9) w5 fun t8 w6 =>
    Run Try.prog (sOp (.fieldAddr 44 (.const t1) 3) 0) w6 fun t9 w7 =>
    Run Try.prog (sOp (.load 29 (.const t9)) 29) w7 fun t10 w8 =>
    Run Try.prog (sBuiltin .len #[29] 3 [false] [t10]) w8 fun t11 w9 =>
    Run Try.prog (sCall (Value.func (.func 96) #[] #[]) [t8, t11]) w9 fun t12 w10 =>
    Run Try.prog (sOp (.pick (.const t5) (.const t12) (.const (Value.bool false))) 4) w10 fun t13 w11 =>
    R (.returned t13) w11) (
    Run Try.prog (sOp (.pick (.const t5) (.const undef) (.const (Value.bool false))) 4) w4 fun t13_2 w12 =>
    R (.returned t13_2) w12)
theorem calls_i_isBuilt {p0 : Value} {w : World} {R : Ending → World → Prop} (h : sh_i_isBuilt p0 w R) : Calls Try.prog 88 #[p0] w R :=
  calls_sh .leaf [p0] mixed Try.func88 (by kernel_rfl) (by kernel_rfl) h


/- loop.example/prologserver/spec.l4Goal : function 89 -/
def sh_s_l4Goal (p0 : Value) (w : World) (R : Ending → World → Prop) : Prop :=
  Run Try.prog (sOp (.box 44 (.const p0)) 0) w fun t1 w1 =>
  Run Try.prog (sOp (.load 44 (.const t1)) 44) w1 fun t3 w2 =>
  Run Try.prog (sCall (Value.func (.func 97) #[] #[]) [t3]) w2 fun t4 w3 =>
  GuardV t4 false (
    Run Try.prog (sOp (.load 44 (.const t1)) 44) w3 fun t6 w4 =>
    Run Try.prog (sCall (Value.func (.func 56) #[] #[]) [t6]) w4 fun t7 w5 =>
    Run Try.prog (sOp (.pick (.const t4) (.const (Value.bool true)) (.const t7)) 4) w5 fun t8 w6 =>
    GuardV t8 false (
      Run Try.prog (sOp (.fieldAddr 44 (.const t1) 0) 0) w6 fun t10 w7 =>
      Run Try.prog (sOp (.load 3 (.const t10)) 3) w7 fun t11 w8 =>
      Run Try.prog (sBin .eql 3 false true t11 (Value.int .i64 3)) w8 fun t12 w9 =>
      GuardV t12 true (
        Run Try.prog (sOp (.fieldAddr 44 (.const t1) 2) 0) w9 fun t14 w10 =>
        Run Try.prog (sOp (.load 9 (.const t14)) 9) w10 fun t15 w11 =>
        Run Try.prog (sOp (.fieldAddr 44 (.const t1) 3) 0) w11 fun t16 w12 =>
        Run Try.prog (sOp (.load 29 (.const t16)) 29) w12 fun t17 w13 =>
        Run Try.prog (sBuiltin .len #[29] 3 [false] [t17]) w13 fun t18 w14 =>
        Run Try.prog (sCall (Value.func (.func 75) #[] #[]) [t15, t18]) w14 fun t19 w15 =>
        GuardV t8 false (
          Run Try.prog (sOp (.pick (.const t12) (.const t19) (.const (Value.bool false))) 4) w15 fun t20 w16 =>
          Run Try.prog (sOp (.pick (.const t8) (.const (Value.bool true)) (.const t20)) 4) w16 fun t21 w17 =>
          R (.returned t21) w17) (
          Run Try.prog (sOp (.pick (.const t8) (.const (Value.bool true)) (.const undef)) 4) w15 fun t21_2 w18 =>
          R (.returned t21_2) w18)) (
        GuardV t8 false (
          Run Try.prog (sOp (.pick (.const t12) (.const undef) (.const (Value.bool false))) 4) w9 fun t20_2 w19 =>
          Run Try.prog (sOp (.pick (.const t8) (.const (Value.bool true)) (.const t20_2)) 4) w19 fun t21_3 w20 =>
          R (.returned t21_3) w20) (
          Run Try.prog (sOp (.pick (.const t8) (.const (Value.bool true)) (.const undef)) 4) w9 fun t21_4 w21 =>
          R (.returned t21_4) w21))) (
      GuardV undef true (
        Run Try.prog (sOp (.fieldAddr 44 (.const t1) 2) 0) w6 fun t14_2 w22 =>
        Run Try.prog (sOp (.load 9 (.const t14_2)) 9) w22 fun t15_2 w23 =>
        Run Try.prog (sOp (.fieldAddr 44 (.const t1) 3) 0) w23 fun t16_2 w24 =>
        Run Try.prog (sOp (.load 29 (.const t16_2)) 29) w24 fun t17_2 w25 =>
        Run Try.prog (sBuiltin .len #[29] 3 [false] [t17_2]) w25 fun t18_2 w26 =>
        Run Try.prog (sCall (Value.func (.func 75) #[] #[]) [t15_2, t18_2]) w26 fun t19_2 w27 =>
        GuardV t8 false (
          Run Try.prog (sOp (.pick (.const undef) (.const t19_2) (.const (Value.bool false))) 4) w27 fun t20_3 w28 =>
          Run Try.prog (sOp (.pick (.const t8) (.const (Value.bool true)) (.const t20_3)) 4) w28 fun t21_5 w29 =>
          R (.returned t21_5) w29) (
          Run Try.prog (sOp (.pick (.const t8) (.const (Value.bool true)) (.const undef)) 4) w27 fun t21_6 w30 =>
          R (.returned t21_6) w30)) (
        GuardV t8 false (
          Run Try.prog (sOp (.pick (.const undef) (.const undef) (.const (Value.bool false))) 4) w6 fun t20_4 w31 =>
          Run Try.prog (sOp (.pick (.const t8) (.const (Value.bool true)) (.const t20_4)) 4) w31 fun t21_7 w32 =>
          R (.returned t21_7) w32) (
          Run Try.prog (sOp (.pick (.const t8) (.const (Value.bool true)) (.const undef)) 4) w6 fun t21_8 w33 =>
          R (.returned t21_8) w33)))) (
    Run Try.prog (sOp (.pick (.const t4) (.const (Value.bool true)) (.const undef)) 4) w3 fun t8_2 w34 =>
    GuardV t8_2 false (
      Run Try.prog (sOp (.fieldAddr 44 (.const t1) 0) 0) w34 fun t10_2 w35 =>
      Run Try.prog (sOp (.load 3 (.const t10_2)) 3) w35 fun t11_2 w36 =>
      Run Try.prog (sBin .eql 3 false true t11_2 (Value.int .i64 3)) w36 fun t12_2 w37 =>
      GuardV t12_2 true (
        Run Try.prog (sOp (.fieldAddr 44 (.const t1) 2) 0) w37 fun t14_3 w38 =>
        Run Try.prog (sOp (.load 9 (.const t14_3)) 9) w38 fun t15_3 w39 =>
        Run Try.prog (sOp (.fieldAddr 44 (.const t1) 3) 0) w39 fun t16_3 w40 =>
        Run Try.prog (sOp (.load 29 (.const t16_3)) 29) w40 fun t17_3 w41 =>
        Run Try.prog (sBuiltin .len #[29] 3 [false] [t17_3]) w41 fun t18_3 w42 =>
        Run Try.prog (sCall (Value.func (.func 75) #[] #[]) [t15_3, t18_3]) w42 fun t19_3 w43 =>
        GuardV t8_2 false (
          Run Try.prog (sOp (.pick (.const t12_2) (.const t19_3) (.const (Value.bool false))) 4) w43 fun t20_5 w44 =>
          Run Try.prog (sOp (.pick (.const t8_2) (.const (Value.bool true)) (.const t20_5)) 4) w44 fun t21_9 w45 =>
          R (.returned t21_9) w45) (
          Run Try.prog (sOp (.pick (.const t8_2) (.const (Value.bool true)) (.const undef)) 4) w43 fun t21_10 w46 =>
          R (.returned t21_10) w46)) (
        GuardV t8_2 false (
          Run Try.prog (sOp (.pick (.const t12_2) (.const undef) (.const (Value.bool false))) 4) w37 fun t20_6 w47 =>
          Run Try.prog (sOp (.pick (.const t8_2) (.const (Value.bool true)) (.const t20_6)) 4) w47 fun t21_11 w48 =>
          R (.returned t21_11) w48) (
          Run Try.prog (sOp (.pick (.const t8_2) (.const (Value.bool true)) (.const undef)) 4) w37 fun t21_12 w49 =>
          R (.returned t21_12) w49))) (
      GuardV undef true (
        Run Try.prog (sOp (.fieldAddr 44 (.const t1) 2) 0) w34 fun t14_4 w50 =>
        Run Try.prog (sOp (.load 9 (.const t14_4)) 9) w50 fun t15_4 w51 =>
        Run Try.prog (sOp (.fieldAddr 44 (.const t1) 3) 0) w51 fun t16_4 w52 =>
        Run Try.prog (sOp (.load 29 (.const t16_4)) 29) w52 fun t17_4 w53 =>
        Run Try.prog (sBuiltin .len #[29] 3 [false] [t17_4]) w53 fun t18_4 w54 =>
        Run Try.prog (sCall (Value.func (.func 75) #[] #[]) [t15_4, t18_4]) w54 fun t19_4 w55 =>
        GuardV t8_2 false (
          Run Try.prog (sOp (.pick (.const undef) (.const t19_4) (.const (Value.bool false))) 4) w55 fun t20_7 w56 =>
          Run Try.prog (sOp (.pick (.const t8_2) (.const (Value.bool true)) (.const t20_7)) 4) w56 fun t21_13 w57 =>
          R (.returned t21_13) w57) (
          Run Try.prog (sOp (.pick (.const t8_2) (.const (Value.bool true)) (.const undef)) 4) w55 fun t21_14 w58 =>
          R (.returned t21_14) w58)) (
        GuardV t8_2 false (
          Run Try.prog (sOp (.pick (.const undef) (.const undef) (.const (Value.bool false))) 4) w34 fun t20_8 w59 =>
          Run Try.prog (sOp (.pick (.const t8_2) (.const (Value.bool true)) (.const t20_8)) 4) w59 fun t21_15 w60 =>
          R (.returned t21_15) w60) (
          Run Try.prog (sOp (.pick (.const t8_2) (.const (Value.bool true)) (.const undef)) 4) w34 fun t21_16 w61 =>
          R (.returned t21_16) w61))))
theorem calls_s_l4Goal {p0 : Value} {w : World} {R : Ending → World → Prop} (h : sh_s_l4Goal p0 w R) : Calls Try.prog 89 #[p0] w R :=
  calls_sh .leaf [p0] mixed Try.func89 (by kernel_rfl) (by kernel_rfl) h


/- loop.example/prologserver/spec.NameValid : function 90 -/
def sh_s_NameValid (p0 : Value) (w : World) (R : Ending → World → Prop) : Prop :=
  Run Try.prog (sCall (Value.func (.func 74) #[] #[]) [p0]) w fun t4 w1 =>
  GuardV t4 false (
    Run Try.prog (sCall (Value.func (.func 99) #[] #[]) []) w1 fun t6 w2 =>
    Run Try.prog (sCall (Value.func (.func 98) #[] #[]) [t6, p0]) w2 fun t8 w3 =>
    Run Try.prog (sOp (.pick (.const t4) (.const (Value.bool true)) (.const t8)) 4) w3 fun t9 w4 =>
    R (.returned t9) w4) (
    Run Try.prog (sOp (.pick (.const t4) (.const (Value.bool true)) (.const undef)) 4) w1 fun t9_2 w5 =>
    R (.returned t9_2) w5)
theorem calls_s_NameValid {p0 : Value} {w : World} {R : Ending → World → Prop} (h : sh_s_NameValid p0 w R) : Calls Try.prog 90 #[p0] w R :=
  calls_sh .leaf [p0] mixed Try.func90 (by kernel_rfl) (by kernel_rfl) h


/- loop.example/prologserver/impl.goalsValid$1 : function 91 -/
def sh_i_goalsValid_1 (p0 : Value) (w : World) (R : Ending → World → Prop) : Prop :=
  Run Try.prog (sOp (.box 44 (.const p0)) 0) w fun t1 w1 =>
  Run Try.prog (sOp (.load 44 (.const t1)) 44) w1 fun t3 w2 =>
  Run Try.prog (sCall (Value.func (.func 92) #[] #[]) [t3]) w2 fun t4 w3 =>
  Run Try.prog (sOp (.unOp .not 4 (.const t4)) 4) w3 fun t5 w4 =>
  R (.returned t5) w4
theorem calls_i_goalsValid_1 {p0 : Value} {w : World} {R : Ending → World → Prop} (h : sh_i_goalsValid_1 p0 w R) : Calls Try.prog 91 #[p0] w R :=
  calls_sh .leaf [p0] mixed Try.func91 (by kernel_rfl) (by kernel_rfl) h


/- loop.example/prologserver/impl.GoalValid : function 92 -/
def sh_i_GoalValid (p0 : Value) (w : World) (R : Ending → World → Prop) : Prop :=
  Run Try.prog (sOp (.box 44 (.const p0)) 0) w fun t1 w1 =>
  Run Try.prog (sOp (.load 44 (.const t1)) 44) w1 fun t3 w2 =>
  Run Try.prog (sCall (Value.func (.func 44) #[] #[]) [t3]) w2 fun t4 w3 =>
  GuardV t4 true (
    Run Try.prog (sOp (.load 44 (.const t1)) 44) w3 fun t6 w4 =>
    Run Try.prog (sCall (Value.func (.func 69) #[] #[]) [t6]) w4 fun t7 w5 =>
    GuardV t7 false (
      Run Try.prog (sOp (.load 44 (.const t1)) 44) w5 fun t9 w6 =>
      Run Try.prog (sCall (Value.func (.func 88) #[] #[]) [t9]) w6 fun t10 w7 =>
      GuardV t4 true (
        Run Try.prog (sOp (.pick (.const t7) (.const (Value.bool true)) (.const t10)) 4) w7 fun t11 w8 =>
        GuardV t11 false (
          Run Try.prog (sOp (.load 44 (.const t1)) 44) w8 fun t13 w9 =>
          Run Try.prog (sCall (Value.func (.func 100) #[] #[]) [t13]) w9 fun t14 w10 =>
          GuardV t4 true (
            Run Try.prog (sOp (.pick (.const t11) (.const (Value.bool true)) (.const t14)) 4) w10 fun t15 w11 =>
            Run Try.prog (sOp (.pick (.const t4) (.const t15) (.const (Value.bool false))) 4) w11 fun t16 w12 =>
            R (.returned t16) w12) (
            Run Try.prog (sOp (.pick (.const t4) (.const undef) (.const (Value.bool false))) 4) w10 fun t16_2 w13 =>
            R (.returned t16_2) w13)) (
          GuardV t4 true (
            Run Try.prog (sOp (.pick (.const t11) (.const (Value.bool true)) (.const undef)) 4) w8 fun t15_2 w14 =>
            Run Try.prog (sOp (.pick (.const t4) (.const t15_2) (.const (Value.bool false))) 4) w14 fun t16_3 w15 =>
            R (.returned t16_3) w15) (
            Run Try.prog (sOp (.pick (.const t4) (.const undef) (.const (Value.bool false))) 4) w8 fun t16_4 w16 =>
            R (.returned t16_4) w16))) (
        GuardV undef false (
          Run Try.prog (sOp (.load 44 (.const t1)) 44) w7 fun t13_2 w17 =>
          Run Try.prog (sCall (Value.func (.func 100) #[] #[]) [t13_2]) w17 fun t14_2 w18 =>
          GuardV t4 true (
            Run Try.prog (sOp (.pick (.const undef) (.const (Value.bool true)) (.const t14_2)) 4) w18 fun t15_3 w19 =>
            Run Try.prog (sOp (.pick (.const t4) (.const t15_3) (.const (Value.bool false))) 4) w19 fun t16_5 w20 =>
            R (.returned t16_5) w20) (
            Run Try.prog (sOp (.pick (.const t4) (.const undef) (.const (Value.bool false))) 4) w18 fun t16_6 w21 =>
            R (.returned t16_6) w21)) (
          GuardV t4 true (
            Run Try.prog (sOp (.pick (.const undef) (.const (Value.bool true)) (.const undef)) 4) w7 fun t15_4 w22 =>
            Run Try.prog (sOp (.pick (.const t4) (.const t15_4) (.const (Value.bool false))) 4) w22 fun t16_7 w23 =>
            R (.returned t16_7) w23) (
            Run Try.prog (sOp (.pick (.const t4) (.const undef) (.const (Value.bool false))) 4) w7 fun t16_8 w24 =>
            R (.returned t16_8) w24)))) (
      GuardV t4 true (
        Run Try.prog (sOp (.pick (.const t7) (.const (Value.bool true)) (.const undef)) 4) w5 fun t11_2 w25 =>
        GuardV t11_2 false (
          Run Try.prog (sOp (.load 44 (.const t1)) 44) w25 fun t13_3 w26 =>
          Run Try.prog (sCall (Value.func (.func 100) #[] #[]) [t13_3]) w26 fun t14_3 w27 =>
          GuardV t4 true (
            Run Try.prog (sOp (.pick (.const t11_2) (.const (Value.bool true)) (.const t14_3)) 4) w27 fun t15_5 w28 =>
            Run Try.prog (sOp (.pick (.const t4) (.const t15_5) (.const (Value.bool false))) 4) w28 fun t16_9 w29 =>
            R (.returned t16_9) w29) (
            Run Try.prog (sOp (.pick (.const t4) (.const undef) (.const (Value.bool false))) 4) w27 fun t16_10 w30 =>
            R (.returned t16_10) w30)) (
          GuardV t4 true (
            Run Try.prog (sOp (.pick (.const t11_2) (.const (Value.bool true)) (.const undef)) 4) w25 fun t15_6 w31 =>
            Run Try.prog (sOp (.pick (.const t4) (.const t15_6) (.const (Value.bool false))) 4) w31 fun t16_11 w32 =>
            R (.returned t16_11) w32) (
            Run Try.prog (sOp (.pick (.const t4) (.const undef) (.const (Value.bool false))) 4) w25 fun t16_12 w33 =>
            R (.returned t16_12) w33))) (
        GuardV undef false (
          Run Try.prog (sOp (.load 44 (.const t1)) 44) w5 fun t13_4 w34 =>
          Run Try.prog (sCall (Value.func (.func 100) #[] #[]) [t13_4]) w34 fun t14_4 w35 =>
          GuardV t4 true (
            Run Try.prog (sOp (.pick (.const undef) (.const (Value.bool true)) (.const t14_4)) 4) w35 fun t15_7 w36 =>
            Run Try.prog (sOp (.pick (.const t4) (.const t15_7) (.const (Value.bool false))) 4) w36 fun t16_13 w37 =>
            R (.returned t16_13) w37) (
            Run Try.prog (sOp (.pick (.const t4) (.const undef) (.const (Value.bool false))) 4) w35 fun t16_14 w38 =>
            R (.returned t16_14) w38)) (
          GuardV t4 true (
            Run Try.prog (sOp (.pick (.const undef) (.const (Value.bool true)) (.const undef)) 4) w5 fun t15_8 w39 =>
            Run Try.prog (sOp (.pick (.const t4) (.const t15_8) (.const (Value.bool false))) 4) w39 fun t16_15 w40 =>
            R (.returned t16_15) w40) (
            Run Try.prog (sOp (.pick (.const t4) (.const undef) (.const (Value.bool false))) 4) w5 fun t16_16 w41 =>
            R (.returned t16_16) w41))))) (
    GuardV undef false (
      Run Try.prog (sOp (.load 44 (.const t1)) 44) w3 fun t9_2 w42 =>
      Run Try.prog (sCall (Value.func (.func 88) #[] #[]) [t9_2]) w42 fun t10_2 w43 =>
      GuardV t4 true (
        Run Try.prog (sOp (.pick (.const undef) (.const (Value.bool true)) (.const t10_2)) 4) w43 fun t11_3 w44 =>
        GuardV t11_3 false (
          Run Try.prog (sOp (.load 44 (.const t1)) 44) w44 fun t13_5 w45 =>
          Run Try.prog (sCall (Value.func (.func 100) #[] #[]) [t13_5]) w45 fun t14_5 w46 =>
          GuardV t4 true (
            Run Try.prog (sOp (.pick (.const t11_3) (.const (Value.bool true)) (.const t14_5)) 4) w46 fun t15_9 w47 =>
            Run Try.prog (sOp (.pick (.const t4) (.const t15_9) (.const (Value.bool false))) 4) w47 fun t16_17 w48 =>
            R (.returned t16_17) w48) (
            Run Try.prog (sOp (.pick (.const t4) (.const undef) (.const (Value.bool false))) 4) w46 fun t16_18 w49 =>
            R (.returned t16_18) w49)) (
          GuardV t4 true (
            Run Try.prog (sOp (.pick (.const t11_3) (.const (Value.bool true)) (.const undef)) 4) w44 fun t15_10 w50 =>
            Run Try.prog (sOp (.pick (.const t4) (.const t15_10) (.const (Value.bool false))) 4) w50 fun t16_19 w51 =>
            R (.returned t16_19) w51) (
            Run Try.prog (sOp (.pick (.const t4) (.const undef) (.const (Value.bool false))) 4) w44 fun t16_20 w52 =>
            R (.returned t16_20) w52))) (
        GuardV undef false (
          Run Try.prog (sOp (.load 44 (.const t1)) 44) w43 fun t13_6 w53 =>
          Run Try.prog (sCall (Value.func (.func 100) #[] #[]) [t13_6]) w53 fun t14_6 w54 =>
          GuardV t4 true (
            Run Try.prog (sOp (.pick (.const undef) (.const (Value.bool true)) (.const t14_6)) 4) w54 fun t15_11 w55 =>
            Run Try.prog (sOp (.pick (.const t4) (.const t15_11) (.const (Value.bool false))) 4) w55 fun t16_21 w56 =>
            R (.returned t16_21) w56) (
            Run Try.prog (sOp (.pick (.const t4) (.const undef) (.const (Value.bool false))) 4) w54 fun t16_22 w57 =>
            R (.returned t16_22) w57)) (
          GuardV t4 true (
            Run Try.prog (sOp (.pick (.const undef) (.const (Value.bool true)) (.const undef)) 4) w43 fun t15_12 w58 =>
            Run Try.prog (sOp (.pick (.const t4) (.const t15_12) (.const (Value.bool false))) 4) w58 fun t16_23 w59 =>
            R (.returned t16_23) w59) (
            Run Try.prog (sOp (.pick (.const t4) (.const undef) (.const (Value.bool false))) 4) w43 fun t16_24 w60 =>
            R (.returned t16_24) w60)))) (
      GuardV t4 true (
        Run Try.prog (sOp (.pick (.const undef) (.const (Value.bool true)) (.const undef)) 4) w3 fun t11_4 w61 =>
        GuardV t11_4 false (
          Run Try.prog (sOp (.load 44 (.const t1)) 44) w61 fun t13_7 w62 =>
          Run Try.prog (sCall (Value.func (.func 100) #[] #[]) [t13_7]) w62 fun t14_7 w63 =>
          GuardV t4 true (
            Run Try.prog (sOp (.pick (.const t11_4) (.const (Value.bool true)) (.const t14_7)) 4) w63 fun t15_13 w64 =>
            Run Try.prog (sOp (.pick (.const t4) (.const t15_13) (.const (Value.bool false))) 4) w64 fun t16_25 w65 =>
            R (.returned t16_25) w65) (
            Run Try.prog (sOp (.pick (.const t4) (.const undef) (.const (Value.bool false))) 4) w63 fun t16_26 w66 =>
            R (.returned t16_26) w66)) (
          GuardV t4 true (
            Run Try.prog (sOp (.pick (.const t11_4) (.const (Value.bool true)) (.const undef)) 4) w61 fun t15_14 w67 =>
            Run Try.prog (sOp (.pick (.const t4) (.const t15_14) (.const (Value.bool false))) 4) w67 fun t16_27 w68 =>
            R (.returned t16_27) w68) (
            Run Try.prog (sOp (.pick (.const t4) (.const undef) (.const (Value.bool false))) 4) w61 fun t16_28 w69 =>
            R (.returned t16_28) w69))) (
        GuardV undef false (
          Run Try.prog (sOp (.load 44 (.const t1)) 44) w3 fun t13_8 w70 =>
          Run Try.prog (sCall (Value.func (.func 100) #[] #[]) [t13_8]) w70 fun t14_8 w71 =>
          GuardV t4 true (
            Run Try.prog (sOp (.pick (.const undef) (.const (Value.bool true)) (.const t14_8)) 4) w71 fun t15_15 w72 =>
            Run Try.prog (sOp (.pick (.const t4) (.const t15_15) (.const (Value.bool false))) 4) w72 fun t16_29 w73 =>
            R (.returned t16_29) w73) (
            Run Try.prog (sOp (.pick (.const t4) (.const undef) (.const (Value.bool false))) 4) w71 fun t16_30 w74 =>
            R (.returned t16_30) w74)) (
          GuardV t4 true (
            Run Try.prog (sOp (.pick (.const undef) (.const (Value.bool true)) (.const undef)) 4) w3 fun t15_16 w75 =>
            Run Try.prog (sOp (.pick (.const t4) (.const t15_16) (.const (Value.bool false))) 4) w75 fun t16_31 w76 =>
            R (.returned t16_31) w76) (
            Run Try.prog (sOp (.pick (.const t4) (.const undef) (.const (Value.bool false))) 4) w3 fun t16_32 w77 =>
            R (.returned t16_32) w77)))))
theorem calls_i_GoalValid {p0 : Value} {w : World} {R : Ending → World → Prop} (h : sh_i_GoalValid p0 w R) : Calls Try.prog 92 #[p0] w R :=
  calls_sh .leaf [p0] mixed Try.func92 (by kernel_rfl) (by kernel_rfl) h


/- slices.Contains[[]string,string] : function 93 -/
def sh_x_Contains_string (p0 p1 : Value) (w : World) (R : Ending → World → Prop) : Prop :=
  Run Try.prog (sCall (Value.func (.func 101) #[] #[]) [p0, p1]) w fun t7 w1 =>
  Run Try.prog (sBin .geq 3 false true t7 (Value.int .i64 0)) w1 fun t8 w2 =>
  R (.returned t8) w2
theorem calls_x_Contains_string {p0 p1 : Value} {w : World} {R : Ending → World → Prop} (h : sh_x_Contains_string p0 p1 w R) : Calls Try.prog 93 #[p0, p1] w R :=
  calls_sh .leaf [p0, p1] mixed Try.func93 (by kernel_rfl) (by kernel_rfl) h


/- loop.example/prologserver/impl.symbols : function 94 -/
def sh_i_symbols (w : World) (R : Ending → World → Prop) : Prop :=
  Run Try.prog (sBuildSlice 96 15 [(0, (Value.string ⟨#[43]⟩)), (1, (Value.string ⟨#[45]⟩)), (2, (Value.string ⟨#[42]⟩)), (3, (Value.string ⟨#[47, 47]⟩)), (4, (Value.string ⟨#[61]⟩)), (5, (Value.string ⟨#[92, 61]⟩)), (6, (Value.string ⟨#[61, 61]⟩)), (7, (Value.string ⟨#[60]⟩)), (8, (Value.string ⟨#[62]⟩)), (9, (Value.string ⟨#[61, 60]⟩)), (10, (Value.string ⟨#[62, 61]⟩)), (11, (Value.string ⟨#[61, 58, 61]⟩)), (12, (Value.string ⟨#[46]⟩)), (13, (Value.string ⟨#[91, 93]⟩)), (14, (Value.string ⟨#[33]⟩))]) w fun t1 w1 =>
  R (.returned t1) w1
theorem calls_i_symbols {w : World} {R : Ending → World → Prop} (h : sh_i_symbols w R) : Calls Try.prog 94 #[] w R :=
  calls_sh .leaf [] mixed Try.func94 (by kernel_rfl) (by kernel_rfl) h


/- loop.example/prologserver/impl.OpLevel : function 95 -/
def sh_i_OpLevel (p0 : Value) (w : World) (R : Ending → World → Prop) : Prop :=
  (∃ J1 : Value → World → Prop, (
    Run Try.prog (sBin .eql 9 false true p0 (Value.string ⟨#[61]⟩)) w fun t6 w2 =>
    CondV t6 (
      J1 t6 w2) (
      Run Try.prog (sBin .eql 9 false true p0 (Value.string ⟨#[92, 61]⟩)) w2 fun t7 w3 =>
      CondV t7 (
        J1 t7 w3) (
        Run Try.prog (sBin .eql 9 false true p0 (Value.string ⟨#[61, 61]⟩)) w3 fun t8 w4 =>
        CondV t8 (
          J1 t8 w4) (
          Run Try.prog (sBin .eql 9 false true p0 (Value.string ⟨#[60]⟩)) w4 fun t9 w5 =>
          CondV t9 (
            J1 t9 w5) (
            Run Try.prog (sBin .eql 9 false true p0 (Value.string ⟨#[62]⟩)) w5 fun t10 w6 =>
            CondV t10 (
              J1 t10 w6) (
              Run Try.prog (sBin .eql 9 false true p0 (Value.string ⟨#[61, 60]⟩)) w6 fun t11 w7 =>
              CondV t11 (
                J1 t11 w7) (
                Run Try.prog (sBin .eql 9 false true p0 (Value.string ⟨#[62, 61]⟩)) w7 fun t12 w8 =>
                CondV t12 (
                  J1 t12 w8) (
                  Run Try.prog (sBin .eql 9 false true p0 (Value.string ⟨#[61, 58, 61]⟩)) w8 fun t13 w9 =>
                  CondV t13 (
                    J1 t13 w9) (
                    Run Try.prog (sBin .eql 9 false true p0 (Value.string ⟨#[105, 115]⟩)) w9 fun t14 w10 =>
                    J1 t14 w10))))))))) ∧
  ∀ _ _ _ _ _ _ _ _ t5 _ : Value, ∀ w11 : World, J1 t5 w11 →
  CondV t5 (
    R (.returned (.tuple #[(Value.int .i64 3), (Value.bool false)])) w11) (
    (∃ J12 : Value → World → Prop, (
      Run Try.prog (sBin .eql 9 false true p0 (Value.string ⟨#[43]⟩)) w11 fun t16 w13 =>
      CondV t16 (
        J12 t16 w13) (
        Run Try.prog (sBin .eql 9 false true p0 (Value.string ⟨#[45]⟩)) w13 fun t17 w14 =>
        J12 t17 w14)) ∧
    ∀ _ t15 _ : Value, ∀ w15 : World, J12 t15 w15 →
    CondV t15 (
      R (.returned (.tuple #[(Value.int .i64 2), (Value.bool true)])) w15) (
      (∃ J16 : Value → World → Prop, (
        Run Try.prog (sBin .eql 9 false true p0 (Value.string ⟨#[42]⟩)) w15 fun t19 w17 =>
        CondV t19 (
          J16 t19 w17) (
          Run Try.prog (sBin .eql 9 false true p0 (Value.string ⟨#[47, 47]⟩)) w17 fun t20 w18 =>
          CondV t20 (
            J16 t20 w18) (
            Run Try.prog (sBin .eql 9 false true p0 (Value.string ⟨#[109, 111, 100]⟩)) w18 fun t21 w19 =>
            J16 t21 w19))) ∧
      ∀ _ _ t18 _ : Value, ∀ w20 : World, J16 t18 w20 →
      CondV t18 (
        R (.returned (.tuple #[(Value.int .i64 1), (Value.bool true)])) w20) (
        R (.returned (.tuple #[(Value.int .i64 0), (Value.bool false)])) w20))))))
theorem calls_i_OpLevel {p0 : Value} {w : World} {R : Ending → World → Prop} (h : sh_i_OpLevel p0 w R) : Calls Try.prog 95 #[p0] w R :=
  calls_sh (.seq none .leaf (.seq none (.seq none .leaf (.one (.seq (some [5]) .leaf (.two .leaf (.seq (some [15]) .leaf (.two .leaf (.seq (some [18]) .leaf .leaf))))))) .leaf)) [p0] mixed Try.func95 (by kernel_rfl) (by kernel_rfl) h


/- loop.example/prologserver/impl.IsBuiltin : function 96 -/
def sh_i_IsBuiltin (p0 p1 : Value) (w : World) (R : Ending → World → Prop) : Prop :=
  (∃ J1 : Value → World → Prop, (
    Run Try.prog (sBin .eql 9 false true p0 (Value.string ⟨#[61]⟩)) w fun t7 w2 =>
    CondV t7 (
      J1 t7 w2) (
      Run Try.prog (sBin .eql 9 false true p0 (Value.string ⟨#[92, 61]⟩)) w2 fun t8 w3 =>
      CondV t8 (
        J1 t8 w3) (
        Run Try.prog (sBin .eql 9 false true p0 (Value.string ⟨#[61, 61]⟩)) w3 fun t9 w4 =>
        CondV t9 (
          J1 t9 w4) (
          Run Try.prog (sBin .eql 9 false true p0 (Value.string ⟨#[60]⟩)) w4 fun t10 w5 =>
          CondV t10 (
            J1 t10 w5) (
            Run Try.prog (sBin .eql 9 false true p0 (Value.string ⟨#[62]⟩)) w5 fun t11 w6 =>
            CondV t11 (
              J1 t11 w6) (
              Run Try.prog (sBin .eql 9 false true p0 (Value.string ⟨#[61, 60]⟩)) w6 fun t12 w7 =>
              CondV t12 (
                J1 t12 w7) (
                Run Try.prog (sBin .eql 9 false true p0 (Value.string ⟨#[62, 61]⟩)) w7 fun t13 w8 =>
                CondV t13 (
                  J1 t13 w8) (
                  Run Try.prog (sBin .eql 9 false true p0 (Value.string ⟨#[61, 58, 61]⟩)) w8 fun t14 w9 =>
                  CondV t14 (
                    J1 t14 w9) (
                    Run Try.prog (sBin .eql 9 false true p0 (Value.string ⟨#[105, 115]⟩)) w9 fun t15 w10 =>
                    J1 t15 w10))))))))) ∧
  ∀ _ _ _ _ _ _ _ _ t6 _ : Value, ∀ w11 : World, J1 t6 w11 →
  CondV t6 (
    Run Try.prog (sBin .eql 3 false true p1 (Value.int .i64 2)) w11 fun t17 w12 =>
    R (.returned t17) w12) (
    (∃ J13 : Value → World → Prop, (
      Run Try.prog (sBin .eql 9 false true p0 (Value.string ⟨#[116, 114, 117, 101]⟩)) w11 fun t19 w14 =>
      CondV t19 (
        J13 t19 w14) (
        Run Try.prog (sBin .eql 9 false true p0 (Value.string ⟨#[102, 97, 105, 108]⟩)) w14 fun t20 w15 =>
        J13 t20 w15)) ∧
    ∀ _ t18 _ : Value, ∀ w16 : World, J13 t18 w16 →
    CondV t18 (
      Run Try.prog (sBin .eql 3 false true p1 (Value.int .i64 0)) w16 fun t22 w17 =>
      R (.returned t22) w17) (
      (∃ J18 : Value → World → Prop, (
        Run Try.prog (sBin .eql 9 false true p0 (Value.string ⟨#[118, 97, 114]⟩)) w16 fun t24 w19 =>
        CondV t24 (
          J18 t24 w19) (
          Run Try.prog (sBin .eql 9 false true p0 (Value.string ⟨#[110, 111, 110, 118, 97, 114]⟩)) w19 fun t25 w20 =>
          CondV t25 (
            J18 t25 w20) (
            Run Try.prog (sBin .eql 9 false true p0 (Value.string ⟨#[97, 116, 111, 109]⟩)) w20 fun t26 w21 =>
            CondV t26 (
              J18 t26 w21) (
              Run Try.prog (sBin .eql 9 false true p0 (Value.string ⟨#[105, 110, 116]⟩)) w21 fun t27 w22 =>
              J18 t27 w22)))) ∧
      ∀ _ _ _ t23 _ : Value, ∀ w23 : World, J18 t23 w23 →
      CondV t23 (
        Run Try.prog (sBin .eql 3 false true p1 (Value.int .i64 1)) w23 fun t29 w24 =>
        R (.returned t29) w24) (
        Run Try.prog (sBin .eql 9 false true p0 (Value.string ⟨#[97, 114, 103]⟩)) w23 fun t31 w25 =>
        CondV t31 (
          Run Try.prog (sBin .eql 3 false true p1 (Value.int .i64 3)) w25 fun t33 w26 =>
          R (.returned t33) w26) (
          R (.returned (Value.bool false)) w25)))))))
theorem calls_i_IsBuiltin {p0 p1 : Value} {w : World} {R : Ending → World → Prop} (h : sh_i_IsBuiltin p0 p1 w R) : Calls Try.prog 96 #[p0, p1] w R :=
  calls_sh (.seq none .leaf (.seq none (.seq none .leaf (.one (.seq (some [6]) .leaf (.two .leaf (.seq (some [18]) .leaf (.two .leaf (.seq (some [23]) .leaf .leaf))))))) .leaf)) [p0, p1] mixed Try.func96 (by kernel_rfl) (by kernel_rfl) h


/- loop.example/prologserver/spec.l4Cut : function 97 -/
def sh_s_l4Cut (p0 : Value) (w : World) (R : Ending → World → Prop) : Prop :=
  Run Try.prog (sOp (.box 44 (.const p0)) 0) w fun t1 w1 =>
  Run Try.prog (sOp (.fieldAddr 44 (.const t1) 0) 0) w1 fun t3 w2 =>
  Run Try.prog (sOp (.load 3 (.const t3)) 3) w2 fun t4 w3 =>
  Run Try.prog (sBin .eql 3 false true t4 (Value.int .i64 3)) w3 fun t5 w4 =>
  GuardV t5 true (
    Run Try.prog (sOp (.fieldAddr 44 (.const t1) 2) 0) w4 fun t7 w5 =>
    Run Try.prog (sOp (.load 9 (.const t7)) 9) w5 fun t8 w6 =>
    Run Try.prog (sBin .eql 9 false true t8 (Value.string ⟨#[33]⟩)) w6 fun t9 w7 =>
    Run Try.prog (sOp (.pick (.const t5) (.const t9) (.const (Value.bool false))) 4) w7 fun t10 w8 =>
    GuardV t10 true (
      Run Try.prog (sOp (.fieldAddr 44 (.const t1) 3) 0) w8 fun t12 w9 =>
      Run Try.prog (sOp (.load 29 (.const t12)) 29) w9 fun t13 w10 =>
      Run Try.prog (sBuiltin .len #[29] 3 [false] [t13]) w10 fun t14 w11 =>
      Run Try.prog (sBin .eql 3 false true t14 (Value.int .i64 0)) w11 fun t15 w12 =>
      Run Try.prog (sOp (.pick (.const t10) (.const t15) (.const (Value.bool false))) 4) w12 fun t16 w13 =>
      R (.returned t16) w13) (
      Run Try.prog (sOp (.pick (.const t10) (.const undef) (.const (Value.bool false))) 4) w8 fun t16_2 w14 =>
      R (.returned t16_2) w14)) (
    Run Try.prog (sOp (.pick (.const t5) (.const undef) (.const (Value.bool false))) 4) w4 fun t10_2 w15 =>
    GuardV t10_2 true (
      Run Try.prog (sOp (.fieldAddr 44 (.const t1) 3) 0) w15 fun t12_2 w16 =>
      Run Try.prog (sOp (.load 29 (.const t12_2)) 29) w16 fun t13_2 w17 =>
      Run Try.prog (sBuiltin .len #[29] 3 [false] [t13_2]) w17 fun t14_2 w18 =>
      Run Try.prog (sBin .eql 3 false true t14_2 (Value.int .i64 0)) w18 fun t15_2 w19 =>
      Run Try.prog (sOp (.pick (.const t10_2) (.const t15_2) (.const (Value.bool false))) 4) w19 fun t16_3 w20 =>
      R (.returned t16_3) w20) (
      Run Try.prog (sOp (.pick (.const t10_2) (.const undef) (.const (Value.bool false))) 4) w15 fun t16_4 w21 =>
      R (.returned t16_4) w21))
theorem calls_s_l4Cut {p0 : Value} {w : World} {R : Ending → World → Prop} (h : sh_s_l4Cut p0 w R) : Calls Try.prog 97 #[p0] w R :=
  calls_sh .leaf [p0] mixed Try.func97 (by kernel_rfl) (by kernel_rfl) h


/- loop.example/prologserver/spec.l1Has : function 98 -/
def sh_s_l1Has (p0 p1 : Value) (w : World) (R : Ending → World → Prop) : Prop :=
  (∃ (I1 : Value → World → Prop) (m2 : Value → World → Nat), I1 (Value.int .i64 0) w ∧
  ∀ t5 _ _ _ _ _ _ _ _ _ _ _ _ _ : Value, ∀ w3 : World, I1 t5 w3 →
  Run Try.prog (sBuiltin .len #[96] 3 [false] [p0]) w3 fun t8_2 w4 =>
  Run Try.prog (sBin .lss 3 false false t5 t8_2) w4 fun t9_2 w5 =>
  CondV t9_2 (
    Run Try.prog (sOp (.indexAddr 96 (.const p0) (.const t5)) 0) w5 fun t14_2 w6 =>
  Run Try.prog (sOp (.load 9 (.const t14_2)) 9) w6 fun t15_2 w7 =>
  Run Try.prog (sBin .eql 9 false false t15_2 p1) w7 fun t17_2 w8 =>
  CondV t17_2 (
    R (.returned (Value.bool true)) w8) (
    Run Try.prog (sBin .add 3 false true t5 (Value.int .i64 1)) w8 fun t11_2 w9 =>
  I1 t11_2 w9 ∧ m2 t11_2 w9 < m2 t5 w3)) (
    R (.returned (Value.bool false)) w5))
theorem calls_s_l1Has {p0 p1 : Value} {w : World} {R : Ending → World → Prop} (h : sh_s_l1Has p0 p1 w R) : Calls Try.prog 98 #[p0, p1] w R :=
  calls_sh (.seq none .leaf (.seq none (.seq none .leaf (.one (.loop [5] .leaf))) .leaf)) [p0, p1] mixed Try.func98 (by kernel_rfl) (by kernel_rfl) h


/- loop.example/prologserver/spec.l1Signs : function 99 -/
def sh_s_l1Signs (w : World) (R : Ending → World → Prop) : Prop :=
  Run Try.prog (sBuildSlice 96 15 [(0, (Value.string ⟨#[43]⟩)), (1, (Value.string ⟨#[45]⟩)), (2, (Value.string ⟨#[42]⟩)), (3, (Value.string ⟨#[47, 47]⟩)), (4, (Value.string ⟨#[61]⟩)), (5, (Value.string ⟨#[92, 61]⟩)), (6, (Value.string ⟨#[61, 61]⟩)), (7, (Value.string ⟨#[60]⟩)), (8, (Value.string ⟨#[62]⟩)), (9, (Value.string ⟨#[61, 60]⟩)), (10, (Value.string ⟨#[62, 61]⟩)), (11, (Value.string ⟨#[61, 58, 61]⟩)), (12, (Value.string ⟨#[46]⟩)), (13, (Value.string ⟨#[91, 93]⟩)), (14, (Value.string ⟨#[33]⟩))]) w fun t1 w1 =>
  R (.returned t1) w1
theorem calls_s_l1Signs {w : World} {R : Ending → World → Prop} (h : sh_s_l1Signs w R) : Calls Try.prog 99 #[] w R :=
  calls_sh .leaf [] mixed Try.func99 (by kernel_rfl) (by kernel_rfl) h


/- loop.example/prologserver/impl.isCut : function 100 -/
def sh_i_isCut (p0 : Value) (w : World) (R : Ending → World → Prop) : Prop :=
  Run Try.prog (sOp (.box 44 (.const p0)) 0) w fun t1 w1 =>
  Run Try.prog (sOp (.load 44 (.const t1)) 44) w1 fun t3 w2 =>
  Run Try.prog (sCall (Value.func (.func 102) #[] #[]) [t3]) w2 fun t4 w3 =>
  GuardV t4 true (
    Run Try.prog (sOp (.fieldAddr 44 (.const t1) 2) 0) w3 fun t6 w4 =>
    Run Try.prog (sOp (.load 9 (.const t6)) 9) w4 fun t7 w5 =>
    Run Try.prog (sBin .eql 9 false true t7 (Value.string ⟨#[33]⟩)) w5 fun t8 w6 =>
    Run Try.prog (sOp (.pick (.const t4) (.const t8) (.const (Value.bool false))) 4) w6 fun t9 w7 =>
    R (.returned t9) w7) (
    Run Try.prog (sOp (.pick (.const t4) (.const undef) (.const (Value.bool false))) 4) w3 fun t9_2 w8 =>
    R (.returned t9_2) w8)
theorem calls_i_isCut {p0 : Value} {w : World} {R : Ending → World → Prop} (h : sh_i_isCut p0 w R) : Calls Try.prog 100 #[p0] w R :=
  calls_sh .leaf [p0] mixed Try.func100 (by kernel_rfl) (by kernel_rfl) h


/- slices.Index[[]string,string] : function 101 -/
def sh_x_Index_string (p0 p1 : Value) (w : World) (R : Ending → World → Prop) : Prop :=
  Run Try.prog (sBuiltin .len #[96] 3 [false] [p0]) w fun t7 w1 =>
  (∃ (I2 : Value → World → Prop) (m3 : Value → World → Nat), I2 (Value.int .i64 0) w1 ∧
  ∀ t8 _ _ _ _ _ _ _ _ _ _ _ _ : Value, ∀ w4 : World, I2 t8 w4 →
  Run Try.prog (sBin .lss 3 false false t8 t7) w4 fun t9_2 w5 =>
  CondV t9_2 (
    Run Try.prog (sOp (.indexAddr 96 (.const p0) (.const t8)) 0) w5 fun t14_2 w6 =>
  Run Try.prog (sOp (.load 9 (.const t14_2)) 9) w6 fun t15_2 w7 =>
  Run Try.prog (sBin .eql 9 false false p1 t15_2) w7 fun t16_2 w8 =>
  CondV t16_2 (
    R (.returned t8) w8) (
    Run Try.prog (sBin .add 3 false true t8 (Value.int .i64 1)) w8 fun t18_2 w9 =>
  I2 t18_2 w9 ∧ m3 t18_2 w9 < m3 t8 w4)) (
    R (.returned (Value.int .i64 (-1))) w5))
theorem calls_x_Index_string {p0 p1 : Value} {w : World} {R : Ending → World → Prop} (h : sh_x_Index_string p0 p1 w R) : Calls Try.prog 101 #[p0, p1] w R :=
  calls_sh (.seq none .leaf (.seq none (.seq none .leaf (.one (.loop [8] .leaf))) .leaf)) [p0, p1] mixed Try.func101 (by kernel_rfl) (by kernel_rfl) h


/- loop.example/prologserver/impl.isAtom : function 102 -/
def sh_i_isAtom (p0 : Value) (w : World) (R : Ending → World → Prop) : Prop :=
  Run Try.prog (sOp (.box 44 (.const p0)) 0) w fun t1 w1 =>
  Run Try.prog (sOp (.fieldAddr 44 (.const t1) 0) 0) w1 fun t3 w2 =>
  Run Try.prog (sOp (.load 3 (.const t3)) 3) w2 fun t4 w3 =>
  Run Try.prog (sBin .eql 3 false true t4 (Value.int .i64 3)) w3 fun t5 w4 =>
  GuardV t5 true (
    Run Try.prog (sOp (.fieldAddr 44 (.const t1) 3) 0) w4 fun t7 w5 =>
    Run Try.prog (sOp (.load 29 (.const t7)) 29) w5 fun t8 w6 =>
    Run Try.prog (sBuiltin .len #[29] 3 [false] [t8]) w6 fun t9 w7 =>
    Run Try.prog (sBin .eql 3 false true t9 (Value.int .i64 0)) w7 fun t10 w8 =>
    Run Try.prog (sOp (.pick (.const t5) (.const t10) (.const (Value.bool false))) 4) w8 fun t11 w9 =>
    R (.returned t11) w9) (
    Run Try.prog (sOp (.pick (.const t5) (.const undef) (.const (Value.bool false))) 4) w4 fun t11_2 w10 =>
    R (.returned t11_2) w10)
theorem calls_i_isAtom {p0 : Value} {w : World} {R : Ending → World → Prop} (h : sh_i_isAtom p0 w R) : Calls Try.prog 102 #[p0] w R :=
  calls_sh .leaf [p0] mixed Try.func102 (by kernel_rfl) (by kernel_rfl) h

end Go.Proofs.Ytgdibnmabnimaaa

/- Made by program: the functions in a shallow form; each form gives Calls. -/
import Derived.Test.YtaaihodhhacapaaVcCalls
import Derived.Test.YtaaihodhhacapaaProg
import Derived.KernelRfl
set_option maxRecDepth 100000
namespace Go.Proofs.Ytaaihodhhacapaa
open Go
theorem mixed : Try.prog.follows .mixedOrders = true := by kernel_rfl
/- loop.example/prologserver/laws.FnExactResolvent : function 3 -/
def sh_l_FnExactResolvent (p0 p1 : Value) (w : World) (R : Ending → World → Prop) : Prop :=
  Run Try.prog (sOp (.box 26 (.const p0)) 0) w fun t2 w1 =>
  Run Try.prog (sOp (.box 26 (.const p1)) 0) w1 fun t3 w2 =>
  Run Try.prog (sOp (.load 26 (.const t2)) 26) w2 fun t17 w3 =>
  Run Try.prog (sCall (Value.func (.func 4) #[] #[]) [t17, (Value.int .i64 1048576)]) w3 fun t19 w4 =>
  Run Try.prog (sBin .lss 3 false true t19 (Value.int .i64 0)) w4 fun t21 w5 =>
  CondV t21 (
    R (.returned (Value.bool true)) w5) (
    Run Try.prog (sOp (.load 26 (.const t3)) 26) w5 fun t22 w6 =>
  Run Try.prog (sCall (Value.func (.func 4) #[] #[]) [t22, t19]) w6 fun t24 w7 =>
  Run Try.prog (sBin .lss 3 false true t24 (Value.int .i64 0)) w7 fun t26 w8 =>
  CondV t26 (
    R (.returned (Value.bool true)) w8) (
    (∃ A9 : (Nat → Bool) → Value → Value → Value → Value → Value → Value → Value → Value → Value → Value → World → Prop, A9 (fun _ => false) undef undef undef undef undef undef undef undef undef undef { w8 with drawn := w8.drawn + 1 } ∧ (
    (∀ D10 : Nat → Bool, D10 0 = false → ∀ t7 t6 t34 t33 t27 t32 t31 t30 t29 t28 : Value, ∀ w11 : World, A9 D10 t7 t6 t34 t33 t27 t32 t31 t30 t29 t28 w11 →
      Run Try.prog (sOp (.load 26 (.const t2)) 26) w11 fun t28_2 w12 =>
      A9 (setD D10 0) t7 t6 t34 t33 t27 t32 t31 t30 t29 t28_2 w12) ∧
    (∀ D10 : Nat → Bool, D10 1 = false → D10 0 = true → ∀ t7 t6 t34 t33 t27 t32 t31 t30 t29 t28 : Value, ∀ w13 : World, A9 D10 t7 t6 t34 t33 t27 t32 t31 t30 t29 t28 w13 →
      Run Try.prog (sCall (Value.func (.func 6) #[] #[]) [t28]) w13 fun t29_2 w14 =>
      A9 (setD D10 1) t7 t6 t34 t33 t27 t32 t31 t30 t29_2 t28 w14) ∧
    (∀ D10 : Nat → Bool, D10 2 = false → ∀ t7 t6 t34 t33 t27 t32 t31 t30 t29 t28 : Value, ∀ w15 : World, A9 D10 t7 t6 t34 t33 t27 t32 t31 t30 t29 t28 w15 →
      Run Try.prog (sOp (.load 26 (.const t3)) 26) w15 fun t30_2 w16 =>
      A9 (setD D10 2) t7 t6 t34 t33 t27 t32 t31 t30_2 t29 t28 w16) ∧
    (∀ D10 : Nat → Bool, D10 3 = false → D10 2 = true → D10 1 = true → ∀ t7 t6 t34 t33 t27 t32 t31 t30 t29 t28 : Value, ∀ w17 : World, A9 D10 t7 t6 t34 t33 t27 t32 t31 t30 t29 t28 w17 →
      Run Try.prog (sCall (Value.func (.func 6) #[] #[]) [t30]) w17 fun t31_2 w18 =>
      A9 (setD D10 3) t7 t6 t34 t33 t27 t32 t31_2 t30 t29 t28 w18) ∧
    (∀ D10 : Nat → Bool, D10 4 = false → D10 1 = true → D10 3 = true → D10 3 = true → ∀ t7 t6 t34 t33 t27 t32 t31 t30 t29 t28 : Value, ∀ w19 : World, A9 D10 t7 t6 t34 t33 t27 t32 t31 t30 t29 t28 w19 →
      Run Try.prog (sCall (Value.func (.func 5) #[] #[]) [t29, t31]) w19 fun t32_2 w20 =>
      A9 (setD D10 4) t7 t6 t34 t33 t27 t32_2 t31 t30 t29 t28 w20) ∧
    (∀ D10 : Nat → Bool, D10 5 = false → D10 4 = true → ∀ t7 t6 t34 t33 t27 t32 t31 t30 t29 t28 : Value, ∀ w21 : World, A9 D10 t7 t6 t34 t33 t27 t32 t31 t30 t29 t28 w21 →
      A9 (setD D10 5) t7 t6 t34 t33 t32 t32 t31 t30 t29 t28 w21) ∧
    (∀ D10 : Nat → Bool, D10 6 = false → D10 5 = true → ∀ t7 t6 t34 t33 t27 t32 t31 t30 t29 t28 : Value, ∀ w22 : World, A9 D10 t7 t6 t34 t33 t27 t32 t31 t30 t29 t28 w22 →
      Run Try.prog (sOp (.extract (.const t27) 0) 32) w22 fun t33_2 w23 =>
      A9 (setD D10 6) t7 t6 t34 t33_2 t27 t32 t31 t30 t29 t28 w23) ∧
    (∀ D10 : Nat → Bool, D10 7 = false → D10 5 = true → ∀ t7 t6 t34 t33 t27 t32 t31 t30 t29 t28 : Value, ∀ w24 : World, A9 D10 t7 t6 t34 t33 t27 t32 t31 t30 t29 t28 w24 →
      Run Try.prog (sOp (.extract (.const t27) 1) 4) w24 fun t34_2 w25 =>
      A9 (setD D10 7) t7 t6 t34_2 t33 t27 t32 t31 t30 t29 t28 w25) ∧
    (∀ D10 : Nat → Bool, D10 8 = false → ∀ t7 t6 t34 t33 t27 t32 t31 t30 t29 t28 : Value, ∀ w26 : World, A9 D10 t7 t6 t34 t33 t27 t32 t31 t30 t29 t28 w26 →
      Run Try.prog (sOp (.alloc 32) 0) w26 fun t6_2 w27 =>
      A9 (setD D10 8) t7 t6_2 t34 t33 t27 t32 t31 t30 t29 t28 w27) ∧
    (∀ D10 : Nat → Bool, D10 9 = false → D10 8 = true → D10 6 = true → D10 4 = true → D10 0 = true → D10 1 = true → D10 2 = true → D10 3 = true → D10 4 = true → D10 5 = true → D10 6 = true → D10 8 = true → ∀ t7 t6 t34 t33 t27 t32 t31 t30 t29 t28 : Value, ∀ w28 : World, A9 D10 t7 t6 t34 t33 t27 t32 t31 t30 t29 t28 w28 →
      Run Try.prog (sOp (.store 32 (.const t6) (.const t33)) 0) w28 fun _u w29 =>
      A9 (setD D10 9) t7 t6 t34 t33 t27 t32 t31 t30 t29 t28 w29) ∧
    (∀ D10 : Nat → Bool, D10 10 = false → D10 7 = true → D10 9 = true → D10 0 = true → D10 1 = true → D10 2 = true → D10 3 = true → D10 4 = true → D10 5 = true → D10 6 = true → D10 7 = true → D10 8 = true → D10 9 = true → ∀ t7 t6 t34 t33 t27 t32 t31 t30 t29 t28 : Value, ∀ w30 : World, A9 D10 t7 t6 t34 t33 t27 t32 t31 t30 t29 t28 w30 →
      A9 (setD D10 10) t34 t6 t34 t33 t27 t32 t31 t30 t29 t28 w30) ∧
    True) ∧
  ∀ D10 : Nat → Bool, D10 10 = true → D10 9 = true → D10 8 = true → D10 7 = true → D10 6 = true → D10 5 = true → D10 4 = true → D10 3 = true → D10 2 = true → D10 1 = true → D10 0 = true → ∀ t7 t6 t34 t33 t27 t32 t31 t30 t29 t28 : Value, ∀ w31 : World, A9 D10 t7 t6 t34 t33 t27 t32 t31 t30 t29 t28 w31 →
  Run Try.prog (sOp (.load 26 (.const t2)) 26) w31 fun t35 w32 =>
  Run Try.prog (sCall (Value.func (.func 6) #[] #[]) [t35]) w32 fun t36 w33 =>
  Run Try.prog (sOp (.alloc 32) 0) w33 fun t8 w34 =>
  Run Try.prog (sOp (.store 32 (.const t8) (.const t36)) 0) w34 fun _u w35 =>
  Run Try.prog (sOp (.load 26 (.const t3)) 26) w35 fun t37 w36 =>
  Run Try.prog (sCall (Value.func (.func 6) #[] #[]) [t37]) w36 fun t38 w37 =>
  Run Try.prog (sOp (.alloc 32) 0) w37 fun t9 w38 =>
  Run Try.prog (sOp (.store 32 (.const t9) (.const t38)) 0) w38 fun _u w39 =>
  Run Try.prog (sOp (.load 32 (.const t8)) 32) w39 fun t40 w40 =>
  Run Try.prog (sOp (.load 32 (.const t9)) 32) w40 fun t41 w41 =>
  Run Try.prog (sCall (Value.func (.func 7) #[] #[]) [t40, t41]) w41 fun t42 w42 =>
  Run Try.prog (sOp (.extract (.const t42) 0) 32) w42 fun t43 w43 =>
  Run Try.prog (sOp (.extract (.const t42) 1) 4) w43 fun t44 w44 =>
  Run Try.prog (sOp (.alloc 32) 0) w44 fun t10 w45 =>
  Run Try.prog (sOp (.store 32 (.const t10) (.const t43)) 0) w45 fun _u w46 =>
  (∃ J47 : Value → World → Prop, (
    Run Try.prog (sOp (.load 32 (.const t10)) 32) w46 fun t45 w48 =>
    Run Try.prog (sOp (.load 32 (.const t6)) 32) w48 fun t46 w49 =>
    Run Try.prog (sCall (Value.func (.func 8) #[] #[]) [t45, t46]) w49 fun t47 w50 =>
    Run Try.prog (sOp (.unOp .not 4 (.const t47)) 4) w50 fun t48 w51 =>
    GuardV t48 false (
      Run Try.prog (sBin .neq 4 false false t44 t7) w51 fun t52 w52 =>
      Run Try.prog (sOp (.pick (.const t48) (.const (Value.bool true)) (.const t52)) 4) w52 fun t53 w53 =>
      J47 t53 w53) (
      Run Try.prog (sOp (.pick (.const t48) (.const (Value.bool true)) (.const undef)) 4) w51 fun t53_2 w54 =>
      J47 t53_2 w54)) ∧
  ∀ t53_3 _ _ _ _ _ _ _ _ : Value, ∀ w55 : World, J47 t53_3 w55 →
  CondV t53_3 (
    R (.returned (Value.bool false)) w55) (
    (∃ A56 : (Nat → Bool) → Value → Value → Value → Value → Value → World → Prop, A56 (fun _ => false) undef undef undef undef undef { w55 with drawn := w55.drawn + 1 } ∧ (
    (∀ D57 : Nat → Bool, D57 0 = false → ∀ t58 t57 t56 t55 t54 : Value, ∀ w58 : World, A56 D57 t58 t57 t56 t55 t54 w58 →
      Run Try.prog (sOp (.load 32 (.const t8)) 32) w58 fun t54_2 w59 =>
      A56 (setD D57 0) t58 t57 t56 t55 t54_2 w59) ∧
    (∀ D57 : Nat → Bool, D57 1 = false → ∀ t58 t57 t56 t55 t54 : Value, ∀ w60 : World, A56 D57 t58 t57 t56 t55 t54 w60 →
      Run Try.prog (sOp (.load 26 (.const t2)) 26) w60 fun t55_2 w61 =>
      A56 (setD D57 1) t58 t57 t56 t55_2 t54 w61) ∧
    (∀ D57 : Nat → Bool, D57 2 = false → D57 1 = true → ∀ t58 t57 t56 t55 t54 : Value, ∀ w62 : World, A56 D57 t58 t57 t56 t55 t54 w62 →
      Run Try.prog (sCall (Value.func (.func 6) #[] #[]) [t55]) w62 fun t56_2 w63 =>
      A56 (setD D57 2) t58 t57 t56_2 t55 t54 w63) ∧
    (∀ D57 : Nat → Bool, D57 3 = false → D57 0 = true → D57 2 = true → D57 2 = true → ∀ t58 t57 t56 t55 t54 : Value, ∀ w64 : World, A56 D57 t58 t57 t56 t55 t54 w64 →
      Run Try.prog (sCall (Value.func (.func 8) #[] #[]) [t54, t56]) w64 fun t57_2 w65 =>
      A56 (setD D57 3) t58 t57_2 t56 t55 t54 w65) ∧
    (∀ D57 : Nat → Bool, D57 4 = false → D57 3 = true → ∀ t58 t57 t56 t55 t54 : Value, ∀ w66 : World, A56 D57 t58 t57 t56 t55 t54 w66 →
      Run Try.prog (sOp (.unOp .not 4 (.const t57)) 4) w66 fun t58_2 w67 =>
      A56 (setD D57 4) t58_2 t57 t56 t55 t54 w67) ∧
    True) ∧
  ∀ D57 : Nat → Bool, D57 4 = true → D57 3 = true → D57 2 = true → D57 1 = true → D57 0 = true → ∀ t58 t57 t56 t55 t54 : Value, ∀ w68 : World, A56 D57 t58 t57 t56 t55 t54 w68 →
  CondV t58 (
    R (.returned (Value.bool false)) w68) (
    (∃ A69 : (Nat → Bool) → Value → Value → Value → Value → Value → World → Prop, A69 (fun _ => false) undef undef undef undef undef { w68 with drawn := w68.drawn + 1 } ∧ (
    (∀ D70 : Nat → Bool, D70 0 = false → ∀ t63 t62 t61 t60 t59 : Value, ∀ w71 : World, A69 D70 t63 t62 t61 t60 t59 w71 →
      Run Try.prog (sOp (.load 32 (.const t9)) 32) w71 fun t59_2 w72 =>
      A69 (setD D70 0) t63 t62 t61 t60 t59_2 w72) ∧
    (∀ D70 : Nat → Bool, D70 1 = false → ∀ t63 t62 t61 t60 t59 : Value, ∀ w73 : World, A69 D70 t63 t62 t61 t60 t59 w73 →
      Run Try.prog (sOp (.load 26 (.const t3)) 26) w73 fun t60_2 w74 =>
      A69 (setD D70 1) t63 t62 t61 t60_2 t59 w74) ∧
    (∀ D70 : Nat → Bool, D70 2 = false → D70 1 = true → ∀ t63 t62 t61 t60 t59 : Value, ∀ w75 : World, A69 D70 t63 t62 t61 t60 t59 w75 →
      Run Try.prog (sCall (Value.func (.func 6) #[] #[]) [t60]) w75 fun t61_2 w76 =>
      A69 (setD D70 2) t63 t62 t61_2 t60 t59 w76) ∧
    (∀ D70 : Nat → Bool, D70 3 = false → D70 0 = true → D70 2 = true → D70 2 = true → ∀ t63 t62 t61 t60 t59 : Value, ∀ w77 : World, A69 D70 t63 t62 t61 t60 t59 w77 →
      Run Try.prog (sCall (Value.func (.func 8) #[] #[]) [t59, t61]) w77 fun t62_2 w78 =>
      A69 (setD D70 3) t63 t62_2 t61 t60 t59 w78) ∧
    (∀ D70 : Nat → Bool, D70 4 = false → D70 3 = true → ∀ t63 t62 t61 t60 t59 : Value, ∀ w79 : World, A69 D70 t63 t62 t61 t60 t59 w79 →
      Run Try.prog (sOp (.unOp .not 4 (.const t62)) 4) w79 fun t63_2 w80 =>
      A69 (setD D70 4) t63_2 t62 t61 t60 t59 w80) ∧
    True) ∧
  ∀ D70 : Nat → Bool, D70 4 = true → D70 3 = true → D70 2 = true → D70 1 = true → D70 0 = true → ∀ t63 t62 t61 t60 t59 : Value, ∀ w81 : World, A69 D70 t63 t62 t61 t60 t59 w81 →
  CondV t63 (
    R (.returned (Value.bool false)) w81) (
    Run Try.prog (sOp (.load 32 (.const t8)) 32) w81 fun t64 w82 =>
  Run Try.prog (sCall (Value.func (.func 9) #[] #[]) [t64, (Value.int .i64 1)]) w82 fun t66 w83 =>
  Run Try.prog (sOp (.load 32 (.const t9)) 32) w83 fun t67 w84 =>
  Run Try.prog (sCall (Value.func (.func 9) #[] #[]) [t67, t66]) w84 fun t69 w85 =>
  (∃ J86 : Value → World → Prop, (
    Run Try.prog (sBin .lss 3 false true t69 (Value.int .i64 0)) w85 fun t71 w87 =>
    GuardV t71 false (
      Run Try.prog (sOp (.load 32 (.const t10)) 32) w87 fun t73 w88 =>
      Run Try.prog (sOp (.load 32 (.const t6)) 32) w88 fun t74 w89 =>
      Run Try.prog (sCall (Value.func (.func 8) #[] #[]) [t73, t74]) w89 fun t75 w90 =>
      Run Try.prog (sOp (.unOp .not 4 (.const t75)) 4) w90 fun t76 w91 =>
      Run Try.prog (sOp (.pick (.const t71) (.const (Value.bool true)) (.const t76)) 4) w91 fun t77 w92 =>
      GuardV t77 false (
        Run Try.prog (sBin .neq 4 false false t44 t7) w92 fun t81 w93 =>
        Run Try.prog (sOp (.pick (.const t77) (.const (Value.bool true)) (.const t81)) 4) w93 fun t82 w94 =>
        J86 t82 w94) (
        Run Try.prog (sOp (.pick (.const t77) (.const (Value.bool true)) (.const undef)) 4) w92 fun t82_2 w95 =>
        J86 t82_2 w95)) (
      Run Try.prog (sOp (.pick (.const t71) (.const (Value.bool true)) (.const undef)) 4) w87 fun t77_2 w96 =>
      GuardV t77_2 false (
        Run Try.prog (sBin .neq 4 false false t44 t7) w96 fun t81_2 w97 =>
        Run Try.prog (sOp (.pick (.const t77_2) (.const (Value.bool true)) (.const t81_2)) 4) w97 fun t82_3 w98 =>
        J86 t82_3 w98) (
        Run Try.prog (sOp (.pick (.const t77_2) (.const (Value.bool true)) (.const undef)) 4) w96 fun t82_4 w99 =>
        J86 t82_4 w99))) ∧
  ∀ t82_5 _ _ _ _ _ _ _ _ _ _ _ _ : Value, ∀ w100 : World, J86 t82_5 w100 →
  CondV t82_5 (
    R (.returned (Value.bool false)) w100) (
    Run Try.prog (sOp (.load 32 (.const t10)) 32) w100 fun t83 w101 =>
  Run Try.prog (sCall (Value.func (.func 9) #[] #[]) [t83, (Value.int .i64 1)]) w101 fun t85 w102 =>
  Run Try.prog (sOp (.load 32 (.const t10)) 32) w102 fun t86 w103 =>
  Run Try.prog (sCall (Value.func (.func 10) #[] #[]) [t86, (Value.int .i64 1)]) w103 fun t88 w104 =>
  Run Try.prog (sBin .lss 3 false true t88 (Value.int .i64 0)) w104 fun t90 w105 =>
  CondV t90 (
    R (.returned (Value.bool false)) w105) (
    Run Try.prog (sBin .neq 3 false false t88 t85) w105 fun t93 w106 =>
  CondV t93 (
    R (.returned (Value.bool false)) w106) (
    (∃ A107 : (Nat → Bool) → Value → Value → Value → Value → Value → Value → Value → Value → Value → Value → World → Prop, A107 (fun _ => false) undef undef undef undef undef undef undef undef undef undef { w106 with drawn := w106.drawn + 1 } ∧ (
    (∀ D108 : Nat → Bool, D108 0 = false → ∀ t16 t15 t101 t100 t94 t99 t98 t97 t96 t95 : Value, ∀ w109 : World, A107 D108 t16 t15 t101 t100 t94 t99 t98 t97 t96 t95 w109 →
      Run Try.prog (sOp (.load 26 (.const t2)) 26) w109 fun t95_2 w110 =>
      A107 (setD D108 0) t16 t15 t101 t100 t94 t99 t98 t97 t96 t95_2 w110) ∧
    (∀ D108 : Nat → Bool, D108 1 = false → D108 0 = true → ∀ t16 t15 t101 t100 t94 t99 t98 t97 t96 t95 : Value, ∀ w111 : World, A107 D108 t16 t15 t101 t100 t94 t99 t98 t97 t96 t95 w111 →
      Run Try.prog (sCall (Value.func (.func 6) #[] #[]) [t95]) w111 fun t96_2 w112 =>
      A107 (setD D108 1) t16 t15 t101 t100 t94 t99 t98 t97 t96_2 t95 w112) ∧
    (∀ D108 : Nat → Bool, D108 2 = false → ∀ t16 t15 t101 t100 t94 t99 t98 t97 t96 t95 : Value, ∀ w113 : World, A107 D108 t16 t15 t101 t100 t94 t99 t98 t97 t96 t95 w113 →
      Run Try.prog (sOp (.load 26 (.const t3)) 26) w113 fun t97_2 w114 =>
      A107 (setD D108 2) t16 t15 t101 t100 t94 t99 t98 t97_2 t96 t95 w114) ∧
    (∀ D108 : Nat → Bool, D108 3 = false → D108 2 = true → D108 1 = true → ∀ t16 t15 t101 t100 t94 t99 t98 t97 t96 t95 : Value, ∀ w115 : World, A107 D108 t16 t15 t101 t100 t94 t99 t98 t97 t96 t95 w115 →
      Run Try.prog (sCall (Value.func (.func 6) #[] #[]) [t97]) w115 fun t98_2 w116 =>
      A107 (setD D108 3) t16 t15 t101 t100 t94 t99 t98_2 t97 t96 t95 w116) ∧
    (∀ D108 : Nat → Bool, D108 4 = false → D108 1 = true → D108 3 = true → D108 3 = true → ∀ t16 t15 t101 t100 t94 t99 t98 t97 t96 t95 : Value, ∀ w117 : World, A107 D108 t16 t15 t101 t100 t94 t99 t98 t97 t96 t95 w117 →
      Run Try.prog (sCall (Value.func (.func 7) #[] #[]) [t96, t98]) w117 fun t99_2 w118 =>
      A107 (setD D108 4) t16 t15 t101 t100 t94 t99_2 t98 t97 t96 t95 w118) ∧
    (∀ D108 : Nat → Bool, D108 5 = false → D108 4 = true → ∀ t16 t15 t101 t100 t94 t99 t98 t97 t96 t95 : Value, ∀ w119 : World, A107 D108 t16 t15 t101 t100 t94 t99 t98 t97 t96 t95 w119 →
      A107 (setD D108 5) t16 t15 t101 t100 t99 t99 t98 t97 t96 t95 w119) ∧
    (∀ D108 : Nat → Bool, D108 6 = false → D108 5 = true → ∀ t16 t15 t101 t100 t94 t99 t98 t97 t96 t95 : Value, ∀ w120 : World, A107 D108 t16 t15 t101 t100 t94 t99 t98 t97 t96 t95 w120 →
      Run Try.prog (sOp (.extract (.const t94) 0) 32) w120 fun t100_2 w121 =>
      A107 (setD D108 6) t16 t15 t101 t100_2 t94 t99 t98 t97 t96 t95 w121) ∧
    (∀ D108 : Nat → Bool, D108 7 = false → D108 5 = true → ∀ t16 t15 t101 t100 t94 t99 t98 t97 t96 t95 : Value, ∀ w122 : World, A107 D108 t16 t15 t101 t100 t94 t99 t98 t97 t96 t95 w122 →
      Run Try.prog (sOp (.extract (.const t94) 1) 4) w122 fun t101_2 w123 =>
      A107 (setD D108 7) t16 t15 t101_2 t100 t94 t99 t98 t97 t96 t95 w123) ∧
    (∀ D108 : Nat → Bool, D108 8 = false → ∀ t16 t15 t101 t100 t94 t99 t98 t97 t96 t95 : Value, ∀ w124 : World, A107 D108 t16 t15 t101 t100 t94 t99 t98 t97 t96 t95 w124 →
      Run Try.prog (sOp (.alloc 32) 0) w124 fun t15_2 w125 =>
      A107 (setD D108 8) t16 t15_2 t101 t100 t94 t99 t98 t97 t96 t95 w125) ∧
    (∀ D108 : Nat → Bool, D108 9 = false → D108 8 = true → D108 6 = true → D108 4 = true → D108 0 = true → D108 1 = true → D108 2 = true → D108 3 = true → D108 4 = true → D108 5 = true → D108 6 = true → D108 8 = true → ∀ t16 t15 t101 t100 t94 t99 t98 t97 t96 t95 : Value, ∀ w126 : World, A107 D108 t16 t15 t101 t100 t94 t99 t98 t97 t96 t95 w126 →
      Run Try.prog (sOp (.store 32 (.const t15) (.const t100)) 0) w126 fun _ w127 =>
      A107 (setD D108 9) t16 t15 t101 t100 t94 t99 t98 t97 t96 t95 w127) ∧
    (∀ D108 : Nat → Bool, D108 10 = false → D108 7 = true → D108 9 = true → D108 0 = true → D108 1 = true → D108 2 = true → D108 3 = true → D108 4 = true → D108 5 = true → D108 6 = true → D108 7 = true → D108 8 = true → D108 9 = true → ∀ t16 t15 t101 t100 t94 t99 t98 t97 t96 t95 : Value, ∀ w128 : World, A107 D108 t16 t15 t101 t100 t94 t99 t98 t97 t96 t95 w128 →
      A107 (setD D108 10) t101 t15 t101 t100 t94 t99 t98 t97 t96 t95 w128) ∧
    True) ∧
  ∀ D108 : Nat → Bool, D108 10 = true → D108 9 = true → D108 8 = true → D108 7 = true → D108 6 = true → D108 5 = true → D108 4 = true → D108 3 = true → D108 2 = true → D108 1 = true → D108 0 = true → ∀ t16 t15 t101 t100 t94 t99 t98 t97 t96 t95 : Value, ∀ w129 : World, A107 D108 t16 t15 t101 t100 t94 t99 t98 t97 t96 t95 w129 →
  (∃ J130 : Value → World → Prop, (
    Run Try.prog (sOp (.load 32 (.const t15)) 32) w129 fun t102 w131 =>
    Run Try.prog (sOp (.load 32 (.const t6)) 32) w131 fun t103 w132 =>
    Run Try.prog (sCall (Value.func (.func 8) #[] #[]) [t102, t103]) w132 fun t104 w133 =>
    Run Try.prog (sOp (.unOp .not 4 (.const t104)) 4) w133 fun t105 w134 =>
    GuardV t105 false (
      Run Try.prog (sBin .neq 4 false false t16 t7) w134 fun t109 w135 =>
      Run Try.prog (sOp (.pick (.const t105) (.const (Value.bool true)) (.const t109)) 4) w135 fun t110 w136 =>
      J130 t110 w136) (
      Run Try.prog (sOp (.pick (.const t105) (.const (Value.bool true)) (.const undef)) 4) w134 fun t110_2 w137 =>
      J130 t110_2 w137)) ∧
  ∀ t110_3 _ _ _ _ _ _ _ _ : Value, ∀ w138 : World, J130 t110_3 w138 →
  CondV t110_3 (
    R (.returned (Value.bool false)) w138) (
    Run Try.prog (sOp (.load 32 (.const t10)) 32) w138 fun t111 w139 =>
  Run Try.prog (sCall (Value.func (.func 10) #[] #[]) [t111, (Value.int .i64 1)]) w139 fun t113 w140 =>
  Run Try.prog (sBin .lss 3 false true t113 (Value.int .i64 0)) w140 fun t115 w141 =>
  CondV t115 (
    R (.returned (Value.bool false)) w141) (
    Run Try.prog (sBin .neq 3 false false t113 t85) w141 fun t118 w142 =>
  CondV t118 (
    R (.returned (Value.bool false)) w142) (
    R (.returned (Value.bool true)) w142))))))))))))))))))
theorem calls_l_FnExactResolvent {p0 p1 : Value} {w : World} {R : Ending → World → Prop} (h : sh_l_FnExactResolvent p0 p1 w R) : Calls Try.prog 3 #[p0, p1] w R :=
  calls_sh (.seq none .leaf (.seq none .leaf (.seq none .leaf (.seq none .leaf (.seq none .leaf (.seq none .leaf (.seq none .leaf (.seq none .leaf (.seq none .leaf (.seq none .leaf (.seq none (.seq (some [53]) .leaf .leaf) (.seq none .leaf (.seq none .leaf (.seq none .leaf (.seq none .leaf (.seq none .leaf (.seq none (.seq (some [82]) .leaf .leaf) (.seq none .leaf (.seq none .leaf (.seq none .leaf (.seq none .leaf (.seq none .leaf (.seq none .leaf (.seq none .leaf (.seq none (.seq (some [110]) .leaf .leaf) .leaf))))))))))))))))))))))))) [p0, p1] mixed Try.func3 (by kernel_rfl) (by kernel_rfl) h


/- loop.example/prologserver/laws.szClause : function 4 -/
def sh_l_szClause (p0 p1 : Value) (w : World) (R : Ending → World → Prop) : Prop :=
  Run Try.prog (sOp (.box 26 (.const p0)) 0) w fun t2 w1 =>
  Run Try.prog (sOp (.fieldAddr 26 (.const t2) 0) 0) w1 fun t5 w2 =>
  Run Try.prog (sOp (.load 24 (.const t5)) 24) w2 fun t6 w3 =>
  Run Try.prog (sCall (Value.func (.func 11) #[] #[]) [t6, p1]) w3 fun t8 w4 =>
  Run Try.prog (sBin .lss 3 false true t8 (Value.int .i64 0)) w4 fun t10 w5 =>
  CondV t10 (
    R (.returned (Value.int .i64 (-1))) w5) (
    Run Try.prog (sOp (.fieldAddr 26 (.const t2) 1) 0) w5 fun t11 w6 =>
  Run Try.prog (sOp (.load 22 (.const t11)) 22) w6 fun t12 w7 =>
  Run Try.prog (sCall (Value.func (.func 12) #[] #[]) [t12, t8]) w7 fun t14 w8 =>
  Run Try.prog (sBin .lss 3 false true t14 (Value.int .i64 0)) w8 fun t16 w9 =>
  CondV t16 (
    R (.returned (Value.int .i64 (-1))) w9) (
    R (.returned t14) w9))
theorem calls_l_szClause {p0 p1 : Value} {w : World} {R : Ending → World → Prop} (h : sh_l_szClause p0 p1 w R) : Calls Try.prog 4 #[p0, p1] w R :=
  calls_sh .leaf [p0, p1] mixed Try.func4 (by kernel_rfl) (by kernel_rfl) h


/- loop.example/prologserver/spec.Resolvent : function 5 -/
def sh_s_Resolvent (p0 p1 : Value) (w : World) (R : Ending → World → Prop) : Prop :=
  Run Try.prog (sOp (.box 32 (.const p0)) 0) w fun t2 w1 =>
  Run Try.prog (sOp (.box 32 (.const p1)) 0) w1 fun t3 w2 =>
  Run Try.prog (sOp (.alloc 32) 0) w2 fun t4 w3 =>
  (∃ J4 : Value → World → Prop, (
    Run Try.prog (sOp (.load 32 (.const t2)) 32) w3 fun t9 w5 =>
    Run Try.prog (sCall (Value.func (.func 13) #[] #[]) [t9]) w5 fun t10 w6 =>
    Run Try.prog (sOp (.unOp .not 4 (.const t10)) 4) w6 fun t11 w7 =>
    GuardV t11 false (
      Run Try.prog (sOp (.load 32 (.const t3)) 32) w7 fun t13 w8 =>
      Run Try.prog (sCall (Value.func (.func 13) #[] #[]) [t13]) w8 fun t14 w9 =>
      Run Try.prog (sOp (.unOp .not 4 (.const t14)) 4) w9 fun t15 w10 =>
      Run Try.prog (sOp (.pick (.const t11) (.const (Value.bool true)) (.const t15)) 4) w10 fun t16 w11 =>
      GuardV t16 false (
        Run Try.prog (sOp (.load 32 (.const t2)) 32) w11 fun t18 w12 =>
        Run Try.prog (sCall (Value.func (.func 14) #[] #[]) [t18]) w12 fun t19 w13 =>
        Run Try.prog (sOp (.unOp .not 4 (.const t19)) 4) w13 fun t20 w14 =>
        Run Try.prog (sOp (.pick (.const t16) (.const (Value.bool true)) (.const t20)) 4) w14 fun t21 w15 =>
        J4 t21 w15) (
        Run Try.prog (sOp (.pick (.const t16) (.const (Value.bool true)) (.const undef)) 4) w11 fun t21_2 w16 =>
        J4 t21_2 w16)) (
      Run Try.prog (sOp (.pick (.const t11) (.const (Value.bool true)) (.const undef)) 4) w7 fun t16_2 w17 =>
      GuardV t16_2 false (
        Run Try.prog (sOp (.load 32 (.const t2)) 32) w17 fun t18_2 w18 =>
        Run Try.prog (sCall (Value.func (.func 14) #[] #[]) [t18_2]) w18 fun t19_2 w19 =>
        Run Try.prog (sOp (.unOp .not 4 (.const t19_2)) 4) w19 fun t20_2 w20 =>
        Run Try.prog (sOp (.pick (.const t16_2) (.const (Value.bool true)) (.const t20_2)) 4) w20 fun t21_3 w21 =>
        J4 t21_3 w21) (
        Run Try.prog (sOp (.pick (.const t16_2) (.const (Value.bool true)) (.const undef)) 4) w17 fun t21_4 w22 =>
        J4 t21_4 w22))) ∧
  ∀ t21_5 _ _ _ _ _ _ _ _ _ _ _ _ : Value, ∀ w23 : World, J4 t21_5 w23 →
  CondV t21_5 (
    Run Try.prog (sBuild 32 []) w23 fun t22 w24 =>
    Run Try.prog (sOp (.store 32 (.const t4) (.const t22)) 0) w24 fun _u w25 =>
    (LoadV Try.prog 32 t4 w25 fun r0 => R (.returned (.tuple #[r0, (Value.bool false)])) w25)) (
    Run Try.prog (sOp (.load 32 (.const t2)) 32) w23 fun t24 w26 =>
  Run Try.prog (sOp (.load 32 (.const t3)) 32) w26 fun t25 w27 =>
  Run Try.prog (sCall (Value.func (.func 15) #[] #[]) [t24, t25]) w27 fun t26 w28 =>
  Run Try.prog (sOp (.extract (.const t26) 0) 32) w28 fun t27 w29 =>
  Run Try.prog (sOp (.extract (.const t26) 1) 4) w29 fun t28 w30 =>
  Run Try.prog (sOp (.extract (.const t26) 2) 4) w30 fun t29 w31 =>
  Run Try.prog (sOp (.alloc 32) 0) w31 fun t6 w32 =>
  Run Try.prog (sOp (.store 32 (.const t6) (.const t27)) 0) w32 fun _u w33 =>
  (∃ J34 : Value → World → Prop, (
    Run Try.prog (sOp (.unOp .not 4 (.const t28)) 4) w33 fun t31 w35 =>
    GuardV t31 false (
      Run Try.prog (sOp (.unOp .not 4 (.const t29)) 4) w35 fun t34 w36 =>
      Run Try.prog (sOp (.pick (.const t31) (.const (Value.bool true)) (.const t34)) 4) w36 fun t35 w37 =>
      J34 t35 w37) (
      Run Try.prog (sOp (.pick (.const t31) (.const (Value.bool true)) (.const undef)) 4) w35 fun t35_2 w38 =>
      J34 t35_2 w38)) ∧
  ∀ t35_3 _ _ _ _ _ : Value, ∀ w39 : World, J34 t35_3 w39 →
  CondV t35_3 (
    Run Try.prog (sBuild 32 []) w39 fun t36 w40 =>
    Run Try.prog (sOp (.store 32 (.const t4) (.const t36)) 0) w40 fun _u w41 =>
    (LoadV Try.prog 32 t4 w41 fun r0 => R (.returned (.tuple #[r0, (Value.bool false)])) w41)) (
    Run Try.prog (sOp (.load 32 (.const t6)) 32) w39 fun t37 w42 =>
  Run Try.prog (sCall (Value.func (.func 16) #[] #[]) [t37]) w42 fun t38 w43 =>
  Run Try.prog (sOp (.store 32 (.const t4) (.const t38)) 0) w43 fun _ w44 =>
  (LoadV Try.prog 32 t4 w44 fun r0 => R (.returned (.tuple #[r0, (Value.bool true)])) w44)))))
theorem calls_s_Resolvent {p0 p1 : Value} {w : World} {R : Ending → World → Prop} (h : sh_s_Resolvent p0 p1 w R) : Calls Try.prog 5 #[p0, p1] w R :=
  calls_sh (.seq none .leaf (.seq none (.seq (some [21]) .leaf .leaf) (.seq none .leaf (.seq none (.seq (some [35]) .leaf .leaf) .leaf)))) [p0, p1] mixed Try.func5 (by kernel_rfl) (by kernel_rfl) h


/- loop.example/prologserver/laws.toClause : function 6 -/
def sh_l_toClause (p0 : Value) (w : World) (R : Ending → World → Prop) : Prop :=
  Run Try.prog (sOp (.box 26 (.const p0)) 0) w fun t1 w1 =>
  Run Try.prog (sOp (.alloc 32) 0) w1 fun t2 w2 =>
  Run Try.prog (sOp (.alloc 32) 0) w2 fun t3 w3 =>
  Run Try.prog (sOp (.fieldAddr 26 (.const t1) 0) 0) w3 fun t4 w4 =>
  Run Try.prog (sOp (.load 24 (.const t4)) 24) w4 fun t5 w5 =>
  Run Try.prog (sCall (Value.func (.func 17) #[] #[]) [t5]) w5 fun t6 w6 =>
  Run Try.prog (sOp (.fieldAddr 32 (.const t3) 0) 0) w6 fun t7 w7 =>
  Run Try.prog (sOp (.store 30 (.const t7) (.const t6)) 0) w7 fun _u w8 =>
  Run Try.prog (sOp (.fieldAddr 26 (.const t1) 1) 0) w8 fun t8 w9 =>
  Run Try.prog (sOp (.load 22 (.const t8)) 22) w9 fun t9 w10 =>
  Run Try.prog (sCall (Value.func (.func 18) #[] #[]) [t9]) w10 fun t10 w11 =>
  Run Try.prog (sOp (.fieldAddr 32 (.const t3) 1) 0) w11 fun t11 w12 =>
  Run Try.prog (sOp (.store 28 (.const t11) (.const t10)) 0) w12 fun _u w13 =>
  Run Try.prog (sOp (.load 32 (.const t3)) 32) w13 fun t12 w14 =>
  Run Try.prog (sOp (.store 32 (.const t2) (.const t12)) 0) w14 fun _ w15 =>
  (LoadV Try.prog 32 t2 w15 fun r0 => R (.returned r0) w15)
theorem calls_l_toClause {p0 : Value} {w : World} {R : Ending → World → Prop} (h : sh_l_toClause p0 w R) : Calls Try.prog 6 #[p0] w R :=
  calls_sh .leaf [p0] mixed Try.func6 (by kernel_rfl) (by kernel_rfl) h


/- loop.example/prologserver/impl.Resolvent : function 7 -/
def sh_i_Resolvent (p0 p1 : Value) (w : World) (R : Ending → World → Prop) : Prop :=
  Run Try.prog (sOp (.box 32 (.const p0)) 0) w fun t2 w1 =>
  Run Try.prog (sOp (.box 32 (.const p1)) 0) w1 fun t3 w2 =>
  Run Try.prog (sOp (.alloc 32) 0) w2 fun t4 w3 =>
  (∃ J4 : Value → World → Prop, (
    Run Try.prog (sOp (.load 32 (.const t2)) 32) w3 fun t9 w5 =>
    Run Try.prog (sCall (Value.func (.func 19) #[] #[]) [t9]) w5 fun t10 w6 =>
    Run Try.prog (sOp (.unOp .not 4 (.const t10)) 4) w6 fun t11 w7 =>
    GuardV t11 false (
      Run Try.prog (sOp (.load 32 (.const t3)) 32) w7 fun t13 w8 =>
      Run Try.prog (sCall (Value.func (.func 19) #[] #[]) [t13]) w8 fun t14 w9 =>
      Run Try.prog (sOp (.unOp .not 4 (.const t14)) 4) w9 fun t15 w10 =>
      Run Try.prog (sOp (.pick (.const t11) (.const (Value.bool true)) (.const t15)) 4) w10 fun t16 w11 =>
      GuardV t16 false (
        Run Try.prog (sOp (.load 32 (.const t2)) 32) w11 fun t18 w12 =>
        Run Try.prog (sCall (Value.func (.func 20) #[] #[]) [t18]) w12 fun t19 w13 =>
        Run Try.prog (sOp (.unOp .not 4 (.const t19)) 4) w13 fun t20 w14 =>
        Run Try.prog (sOp (.pick (.const t16) (.const (Value.bool true)) (.const t20)) 4) w14 fun t21 w15 =>
        J4 t21 w15) (
        Run Try.prog (sOp (.pick (.const t16) (.const (Value.bool true)) (.const undef)) 4) w11 fun t21_2 w16 =>
        J4 t21_2 w16)) (
      Run Try.prog (sOp (.pick (.const t11) (.const (Value.bool true)) (.const undef)) 4) w7 fun t16_2 w17 =>
      GuardV t16_2 false (
        Run Try.prog (sOp (.load 32 (.const t2)) 32) w17 fun t18_2 w18 =>
        Run Try.prog (sCall (Value.func (.func 20) #[] #[]) [t18_2]) w18 fun t19_2 w19 =>
        Run Try.prog (sOp (.unOp .not 4 (.const t19_2)) 4) w19 fun t20_2 w20 =>
        Run Try.prog (sOp (.pick (.const t16_2) (.const (Value.bool true)) (.const t20_2)) 4) w20 fun t21_3 w21 =>
        J4 t21_3 w21) (
        Run Try.prog (sOp (.pick (.const t16_2) (.const (Value.bool true)) (.const undef)) 4) w17 fun t21_4 w22 =>
        J4 t21_4 w22))) ∧
  ∀ t21_5 _ _ _ _ _ _ _ _ _ _ _ _ : Value, ∀ w23 : World, J4 t21_5 w23 →
  CondV t21_5 (
    Run Try.prog (sBuild 32 []) w23 fun t22 w24 =>
    Run Try.prog (sOp (.store 32 (.const t4) (.const t22)) 0) w24 fun _u w25 =>
    (LoadV Try.prog 32 t4 w25 fun r0 => R (.returned (.tuple #[r0, (Value.bool false)])) w25)) (
    Run Try.prog (sOp (.load 32 (.const t2)) 32) w23 fun t24 w26 =>
  Run Try.prog (sOp (.load 32 (.const t3)) 32) w26 fun t25 w27 =>
  Run Try.prog (sCall (Value.func (.func 21) #[] #[]) [t24, t25]) w27 fun t26 w28 =>
  Run Try.prog (sOp (.extract (.const t26) 0) 32) w28 fun t27 w29 =>
  Run Try.prog (sOp (.extract (.const t26) 1) 4) w29 fun _ w30 =>
  Run Try.prog (sOp (.extract (.const t26) 2) 4) w30 fun t29 w31 =>
  Run Try.prog (sOp (.alloc 32) 0) w31 fun t6 w32 =>
  Run Try.prog (sOp (.store 32 (.const t6) (.const t27)) 0) w32 fun _u w33 =>
  Run Try.prog (sOp (.unOp .not 4 (.const t29)) 4) w33 fun t31 w34 =>
  CondV t31 (
    Run Try.prog (sBuild 32 []) w34 fun t32 w35 =>
    Run Try.prog (sOp (.store 32 (.const t4) (.const t32)) 0) w35 fun _u w36 =>
    (LoadV Try.prog 32 t4 w36 fun r0 => R (.returned (.tuple #[r0, (Value.bool false)])) w36)) (
    Run Try.prog (sOp (.load 32 (.const t6)) 32) w34 fun t33 w37 =>
  Run Try.prog (sOp (.store 32 (.const t4) (.const t33)) 0) w37 fun _ w38 =>
  (LoadV Try.prog 32 t4 w38 fun r0 => R (.returned (.tuple #[r0, (Value.bool true)])) w38))))
theorem calls_i_Resolvent {p0 p1 : Value} {w : World} {R : Ending → World → Prop} (h : sh_i_Resolvent p0 p1 w R) : Calls Try.prog 7 #[p0, p1] w R :=
  calls_sh (.seq none .leaf (.seq none (.seq (some [21]) .leaf .leaf) .leaf)) [p0, p1] mixed Try.func7 (by kernel_rfl) (by kernel_rfl) h


/- loop.example/prologserver/laws.eqClause : function 8 -/
def sh_l_eqClause (p0 p1 : Value) (w : World) (R : Ending → World → Prop) : Prop :=
  Run Try.prog (sOp (.box 32 (.const p0)) 0) w fun t2 w1 =>
  Run Try.prog (sOp (.box 32 (.const p1)) 0) w1 fun t3 w2 =>
  Run Try.prog (sOp (.fieldAddr 32 (.const t2) 0) 0) w2 fun t5 w3 =>
  Run Try.prog (sOp (.load 30 (.const t5)) 30) w3 fun t6 w4 =>
  Run Try.prog (sOp (.fieldAddr 32 (.const t3) 0) 0) w4 fun t7 w5 =>
  Run Try.prog (sOp (.load 30 (.const t7)) 30) w5 fun t8 w6 =>
  Run Try.prog (sCall (Value.func (.func 22) #[] #[]) [t6, t8]) w6 fun t9 w7 =>
  Run Try.prog (sOp (.unOp .not 4 (.const t9)) 4) w7 fun t10 w8 =>
  CondV t10 (
    R (.returned (Value.bool false)) w8) (
    Run Try.prog (sOp (.fieldAddr 32 (.const t2) 1) 0) w8 fun t11 w9 =>
  Run Try.prog (sOp (.load 28 (.const t11)) 28) w9 fun t12 w10 =>
  Run Try.prog (sOp (.fieldAddr 32 (.const t3) 1) 0) w10 fun t13 w11 =>
  Run Try.prog (sOp (.load 28 (.const t13)) 28) w11 fun t14 w12 =>
  Run Try.prog (sCall (Value.func (.func 23) #[] #[]) [t12, t14]) w12 fun t15 w13 =>
  Run Try.prog (sOp (.unOp .not 4 (.const t15)) 4) w13 fun t16 w14 =>
  CondV t16 (
    R (.returned (Value.bool false)) w14) (
    R (.returned (Value.bool true)) w14))
theorem calls_l_eqClause {p0 p1 : Value} {w : World} {R : Ending → World → Prop} (h : sh_l_eqClause p0 p1 w R) : Calls Try.prog 8 #[p0, p1] w R :=
  calls_sh .leaf [p0, p1] mixed Try.func8 (by kernel_rfl) (by kernel_rfl) h


/- loop.example/prologserver/laws.markClause : function 9 -/
def sh_l_markClause (p0 p1 : Value) (w : World) (R : Ending → World → Prop) : Prop :=
  Run Try.prog (sOp (.box 32 (.const p0)) 0) w fun t2 w1 =>
  Run Try.prog (sOp (.fieldAddr 32 (.const t2) 0) 0) w1 fun t5 w2 =>
  Run Try.prog (sOp (.load 30 (.const t5)) 30) w2 fun t6 w3 =>
  Run Try.prog (sCall (Value.func (.func 24) #[] #[]) [t6, p1]) w3 fun t8 w4 =>
  Run Try.prog (sOp (.fieldAddr 32 (.const t2) 1) 0) w4 fun t9 w5 =>
  Run Try.prog (sOp (.load 28 (.const t9)) 28) w5 fun t10 w6 =>
  Run Try.prog (sCall (Value.func (.func 25) #[] #[]) [t10, t8]) w6 fun t12 w7 =>
  R (.returned t12) w7
theorem calls_l_markClause {p0 p1 : Value} {w : World} {R : Ending → World → Prop} (h : sh_l_markClause p0 p1 w R) : Calls Try.prog 9 #[p0, p1] w R :=
  calls_sh .leaf [p0, p1] mixed Try.func9 (by kernel_rfl) (by kernel_rfl) h


/- loop.example/prologserver/laws.heldClause : function 10 -/
def sh_l_heldClause (p0 p1 : Value) (w : World) (R : Ending → World → Prop) : Prop :=
  Run Try.prog (sOp (.box 32 (.const p0)) 0) w fun t2 w1 =>
  Run Try.prog (sOp (.fieldAddr 32 (.const t2) 0) 0) w1 fun t5 w2 =>
  Run Try.prog (sOp (.load 30 (.const t5)) 30) w2 fun t6 w3 =>
  Run Try.prog (sCall (Value.func (.func 26) #[] #[]) [t6, p1]) w3 fun t8 w4 =>
  Run Try.prog (sBin .lss 3 false true t8 (Value.int .i64 0)) w4 fun t10 w5 =>
  CondV t10 (
    R (.returned (Value.int .i64 (-1))) w5) (
    Run Try.prog (sOp (.fieldAddr 32 (.const t2) 1) 0) w5 fun t11 w6 =>
  Run Try.prog (sOp (.load 28 (.const t11)) 28) w6 fun t12 w7 =>
  Run Try.prog (sCall (Value.func (.func 27) #[] #[]) [t12, t8]) w7 fun t14 w8 =>
  Run Try.prog (sBin .lss 3 false true t14 (Value.int .i64 0)) w8 fun t16 w9 =>
  CondV t16 (
    R (.returned (Value.int .i64 (-1))) w9) (
    R (.returned t14) w9))
theorem calls_l_heldClause {p0 p1 : Value} {w : World} {R : Ending → World → Prop} (h : sh_l_heldClause p0 p1 w R) : Calls Try.prog 10 #[p0, p1] w R :=
  calls_sh .leaf [p0, p1] mixed Try.func10 (by kernel_rfl) (by kernel_rfl) h


/- loop.example/prologserver/laws.szTerm : function 11 -/
def sh_l_szTerm (p0 p1 : Value) (w : World) (R : Ending → World → Prop) : Prop :=
  Run Try.prog (sOp (.box 24 (.const p0)) 0) w fun t2 w1 =>
  Run Try.prog (sOp (.fieldAddr 24 (.const t2) 2) 0) w1 fun t6 w2 =>
  Run Try.prog (sOp (.load 9 (.const t6)) 9) w2 fun t7 w3 =>
  Run Try.prog (sBuiltin .len #[9] 3 [false] [t7]) w3 fun t8 w4 =>
  Run Try.prog (sBin .sub 3 false false p1 t8) w4 fun t9 w5 =>
  Run Try.prog (sBin .lss 3 false true t9 (Value.int .i64 0)) w5 fun t11 w6 =>
  CondV t11 (
    R (.returned (Value.int .i64 (-1))) w6) (
    Run Try.prog (sOp (.fieldAddr 24 (.const t2) 3) 0) w6 fun t12 w7 =>
  Run Try.prog (sOp (.load 22 (.const t12)) 22) w7 fun t13 w8 =>
  Run Try.prog (sCall (Value.func (.func 12) #[] #[]) [t13, t9]) w8 fun t15 w9 =>
  Run Try.prog (sBin .lss 3 false true t15 (Value.int .i64 0)) w9 fun t17 w10 =>
  CondV t17 (
    R (.returned (Value.int .i64 (-1))) w10) (
    R (.returned t15) w10))
theorem calls_l_szTerm {p0 p1 : Value} {w : World} {R : Ending → World → Prop} (h : sh_l_szTerm p0 p1 w R) : Calls Try.prog 11 #[p0, p1] w R :=
  calls_sh .leaf [p0, p1] mixed Try.func11 (by kernel_rfl) (by kernel_rfl) h


/- loop.example/prologserver/laws.szTermS : function 12 -/
def sh_l_szTermS (p0 p1 : Value) (w : World) (R : Ending → World → Prop) : Prop :=
  Run Try.prog (sBuiltin .len #[22] 3 [false] [p0]) w fun t8 w1 =>
  Run Try.prog (sBin .sub 3 false false p1 t8) w1 fun t9 w2 =>
  Run Try.prog (sBin .lss 3 false true t9 (Value.int .i64 0)) w2 fun t11 w3 =>
  CondV t11 (
    R (.returned (Value.int .i64 (-1))) w3) (
    (∃ (I4 : Value → Value → World → Prop) (m5 : Value → Value → World → Nat), I4 (Value.int .i64 0) t9 w3 ∧
  ∀ t5 _ _ _ _ _ t1 _ _ _ _ _ _ _ _ _ _ : Value, ∀ w6 : World, I4 t5 t1 w6 →
  Run Try.prog (sBuiltin .len #[22] 3 [false] [p0]) w6 fun t14_2 w7 =>
  Run Try.prog (sBin .lss 3 false false t5 t14_2) w7 fun t15_2 w8 =>
  CondV t15_2 (
    Run Try.prog (sOp (.indexAddr 22 (.const p0) (.const t5)) 0) w8 fun t20_2 w9 =>
  Run Try.prog (sOp (.load 24 (.const t20_2)) 24) w9 fun t21_2 w10 =>
  Run Try.prog (sCall (Value.func (.func 11) #[] #[]) [t21_2, t1]) w10 fun t23_2 w11 =>
  Run Try.prog (sBin .lss 3 false true t23_2 (Value.int .i64 0)) w11 fun t25_2 w12 =>
  CondV t25_2 (
    R (.returned (Value.int .i64 (-1))) w12) (
    Run Try.prog (sBin .add 3 false true t5 (Value.int .i64 1)) w12 fun t17_2 w13 =>
  I4 t17_2 t23_2 w13 ∧ m5 t17_2 t23_2 w13 < m5 t5 t1 w6)) (
    R (.returned t1) w8)))
theorem calls_l_szTermS {p0 p1 : Value} {w : World} {R : Ending → World → Prop} (h : sh_l_szTermS p0 p1 w R) : Calls Try.prog 12 #[p0, p1] w R :=
  calls_sh (.seq none .leaf (.seq none .leaf (.seq none .leaf (.seq none (.seq none .leaf (.one (.loop [5, 1] .leaf))) .leaf)))) [p0, p1] mixed Try.func12 (by kernel_rfl) (by kernel_rfl) h


/- loop.example/prologserver/spec.ClauseValid : function 13 -/
def sh_s_ClauseValid (p0 : Value) (w : World) (R : Ending → World → Prop) : Prop :=
  Run Try.prog (sOp (.box 32 (.const p0)) 0) w fun t1 w1 =>
  (∃ (I2 : Value → World → Prop) (m3 : Value → World → Nat), I2 (Value.int .i64 0) w1 ∧
  ∀ t3 _ _ _ _ _ _ _ _ _ _ _ _ _ _ _ _ _ _ _ : Value, ∀ w4 : World, I2 t3 w4 →
  (∃ J5 : Value → World → Prop, (
    Run Try.prog (sOp (.fieldAddr 32 (.const t1) 1) 0) w4 fun t5_2 w6 =>
    Run Try.prog (sOp (.load 28 (.const t5_2)) 28) w6 fun t6_2 w7 =>
    Run Try.prog (sBuiltin .len #[28] 3 [false] [t6_2]) w7 fun t7_2 w8 =>
    Run Try.prog (sBin .lss 3 false false t3 t7_2) w8 fun t8_2 w9 =>
    GuardV t8_2 true (
      Run Try.prog (sBin .leq 3 false true t3 (Value.int .i64 6)) w9 fun t11_2 w10 =>
      Run Try.prog (sOp (.pick (.const t8_2) (.const t11_2) (.const (Value.bool false))) 4) w10 fun t12_2 w11 =>
      J5 t12_2 w11) (
      Run Try.prog (sOp (.pick (.const t8_2) (.const undef) (.const (Value.bool false))) 4) w9 fun t12_3 w12 =>
      J5 t12_3 w12)) ∧
  ∀ t12_4 _ _ _ _ _ _ _ _ : Value, ∀ w13 : World, J5 t12_4 w13 →
  CondV t12_4 (
    Run Try.prog (sOp (.fieldAddr 32 (.const t1) 1) 0) w13 fun t15_2 w14 =>
  Run Try.prog (sOp (.load 28 (.const t15_2)) 28) w14 fun t16_2 w15 =>
  Run Try.prog (sOp (.indexAddr 28 (.const t16_2) (.const t3)) 0) w15 fun t18_2 w16 =>
  Run Try.prog (sOp (.load 30 (.const t18_2)) 30) w16 fun t19_2 w17 =>
  Run Try.prog (sCall (Value.func (.func 28) #[] #[]) [t19_2]) w17 fun t20_2 w18 =>
  Run Try.prog (sOp (.unOp .not 4 (.const t20_2)) 4) w18 fun t21_2 w19 =>
  CondV t21_2 (
    R (.returned (Value.bool false)) w19) (
    Run Try.prog (sBin .add 3 false true t3 (Value.int .i64 1)) w19 fun t14_2 w20 =>
  I2 t14_2 w20 ∧ m3 t14_2 w20 < m3 t3 w4)) (
    Run Try.prog (sOp (.fieldAddr 32 (.const t1) 1) 0) w13 fun t22 w21 =>
  Run Try.prog (sOp (.load 28 (.const t22)) 28) w21 fun t23 w22 =>
  Run Try.prog (sBuiltin .len #[28] 3 [false] [t23]) w22 fun t24 w23 =>
  Run Try.prog (sBin .leq 3 false true t24 (Value.int .i64 6)) w23 fun t25 w24 =>
  GuardV t25 true (
    Run Try.prog (sOp (.fieldAddr 32 (.const t1) 0) 0) w24 fun t27 w25 =>
    Run Try.prog (sOp (.load 30 (.const t27)) 30) w25 fun t28 w26 =>
    Run Try.prog (sCall (Value.func (.func 29) #[] #[]) [t28]) w26 fun t29 w27 =>
    Run Try.prog (sOp (.pick (.const t25) (.const t29) (.const (Value.bool false))) 4) w27 fun t30 w28 =>
    GuardV t30 true (
      Run Try.prog (sOp (.fieldAddr 32 (.const t1) 0) 0) w28 fun t32 w29 =>
      Run Try.prog (sOp (.load 30 (.const t32)) 30) w29 fun t33 w30 =>
      Run Try.prog (sCall (Value.func (.func 30) #[] #[]) [t33]) w30 fun t34 w31 =>
      Run Try.prog (sOp (.pick (.const t30) (.const t34) (.const (Value.bool false))) 4) w31 fun t35 w32 =>
      R (.returned t35) w32) (
      Run Try.prog (sOp (.pick (.const t30) (.const undef) (.const (Value.bool false))) 4) w28 fun t35_2 w33 =>
      R (.returned t35_2) w33)) (
    Run Try.prog (sOp (.pick (.const t25) (.const undef) (.const (Value.bool false))) 4) w24 fun t30_2 w34 =>
    GuardV t30_2 true (
      Run Try.prog (sOp (.fieldAddr 32 (.const t1) 0) 0) w34 fun t32_2 w35 =>
      Run Try.prog (sOp (.load 30 (.const t32_2)) 30) w35 fun t33_2 w36 =>
      Run Try.prog (sCall (Value.func (.func 30) #[] #[]) [t33_2]) w36 fun t34_2 w37 =>
      Run Try.prog (sOp (.pick (.const t30_2) (.const t34_2) (.const (Value.bool false))) 4) w37 fun t35_3 w38 =>
      R (.returned t35_3) w38) (
      Run Try.prog (sOp (.pick (.const t30_2) (.const undef) (.const (Value.bool false))) 4) w34 fun t35_4 w39 =>
      R (.returned t35_4) w39)))))
theorem calls_s_ClauseValid {p0 : Value} {w : World} {R : Ending → World → Prop} (h : sh_s_ClauseValid p0 w R) : Calls Try.prog 13 #[p0] w R :=
  calls_sh (.seq none .leaf (.seq none (.seq none .leaf (.one (.loop [3] (.seq none (.seq (some [12]) .leaf .leaf) .leaf)))) .leaf)) [p0] mixed Try.func13 (by kernel_rfl) (by kernel_rfl) h


/- loop.example/prologserver/spec.l15First : function 14 -/
def sh_s_l15First (p0 : Value) (w : World) (R : Ending → World → Prop) : Prop :=
  Run Try.prog (sOp (.box 32 (.const p0)) 0) w fun t1 w1 =>
  Run Try.prog (sOp (.fieldAddr 32 (.const t1) 1) 0) w1 fun t3 w2 =>
  Run Try.prog (sOp (.load 28 (.const t3)) 28) w2 fun t4 w3 =>
  Run Try.prog (sBuiltin .len #[28] 3 [false] [t4]) w3 fun t5 w4 =>
  Run Try.prog (sBin .gtr 3 false true t5 (Value.int .i64 0)) w4 fun t6 w5 =>
  GuardV t6 true (
    Run Try.prog (sOp (.fieldAddr 32 (.const t1) 1) 0) w5 fun t8 w6 =>
    Run Try.prog (sOp (.load 28 (.const t8)) 28) w6 fun t9 w7 =>
    Run Try.prog (sOp (.indexAddr 28 (.const t9) (.const (Value.int .i64 0))) 0) w7 fun t10 w8 =>
    Run Try.prog (sOp (.load 30 (.const t10)) 30) w8 fun t11 w9 =>
    Run Try.prog (sCall (Value.func (.func 30) #[] #[]) [t11]) w9 fun t12 w10 =>
    Run Try.prog (sOp (.pick (.const t6) (.const t12) (.const (Value.bool false))) 4) w10 fun t13 w11 =>
    R (.returned t13) w11) (
    Run Try.prog (sOp (.pick (.const t6) (.const undef) (.const (Value.bool false))) 4) w5 fun t13_2 w12 =>
    R (.returned t13_2) w12)
theorem calls_s_l15First {p0 : Value} {w : World} {R : Ending → World → Prop} (h : sh_s_l15First p0 w R) : Calls Try.prog 14 #[p0] w R :=
  calls_sh .leaf [p0] mixed Try.func14 (by kernel_rfl) (by kernel_rfl) h


/- loop.example/prologserver/spec.l15Resolvent : function 15 -/
def sh_s_l15Resolvent (p0 p1 : Value) (w : World) (R : Ending → World → Prop) : Prop :=
  Run Try.prog (sOp (.box 32 (.const p0)) 0) w fun t2 w1 =>
  Run Try.prog (sOp (.box 32 (.const p1)) 0) w1 fun t3 w2 =>
  Run Try.prog (sOp (.alloc 32) 0) w2 fun t4 w3 =>
  Run Try.prog (sOp (.load 32 (.const t3)) 32) w3 fun t16 w4 =>
  Run Try.prog (sCall (Value.func (.func 31) #[] #[]) [t16, (Value.int .i64 26)]) w4 fun t18 w5 =>
  Run Try.prog (sOp (.alloc 32) 0) w5 fun t8 w6 =>
  Run Try.prog (sOp (.store 32 (.const t8) (.const t18)) 0) w6 fun _u w7 =>
  Run Try.prog (sBin .mul 3 true false (Value.int .i64 2) (Value.int .i64 26)) w7 fun t20 w8 =>
  Run Try.prog (sOp (.makeSlice 28 (.const t20) (.const t20)) 28) w8 fun t21 w9 =>
  (∃ A10 : (Nat → Bool) → Value → Value → Value → Value → Value → Value → Value → Value → Value → World → Prop, A10 (fun _ => false) undef undef undef undef undef undef undef undef undef { w9 with drawn := w9.drawn + 1 } ∧ (
    (∀ D11 : Nat → Bool, D11 0 = false → ∀ t30 t29 t28 t27 t26 t25 t24 t23 t22 : Value, ∀ w12 : World, A10 D11 t30 t29 t28 t27 t26 t25 t24 t23 t22 w12 →
      Run Try.prog (sOp (.fieldAddr 32 (.const t2) 1) 0) w12 fun t22_2 w13 =>
      A10 (setD D11 0) t30 t29 t28 t27 t26 t25 t24 t23 t22_2 w13) ∧
    (∀ D11 : Nat → Bool, D11 1 = false → D11 0 = true → ∀ t30 t29 t28 t27 t26 t25 t24 t23 t22 : Value, ∀ w14 : World, A10 D11 t30 t29 t28 t27 t26 t25 t24 t23 t22 w14 →
      Run Try.prog (sOp (.load 28 (.const t22)) 28) w14 fun t23_2 w15 =>
      A10 (setD D11 1) t30 t29 t28 t27 t26 t25 t24 t23_2 t22 w15) ∧
    (∀ D11 : Nat → Bool, D11 2 = false → D11 1 = true → ∀ t30 t29 t28 t27 t26 t25 t24 t23 t22 : Value, ∀ w16 : World, A10 D11 t30 t29 t28 t27 t26 t25 t24 t23 t22 w16 →
      Run Try.prog (sOp (.indexAddr 28 (.const t23) (.const (Value.int .i64 0))) 0) w16 fun t24_2 w17 =>
      A10 (setD D11 2) t30 t29 t28 t27 t26 t25 t24_2 t23 t22 w17) ∧
    (∀ D11 : Nat → Bool, D11 3 = false → D11 2 = true → ∀ t30 t29 t28 t27 t26 t25 t24 t23 t22 : Value, ∀ w18 : World, A10 D11 t30 t29 t28 t27 t26 t25 t24 t23 t22 w18 →
      Run Try.prog (sOp (.load 30 (.const t24)) 30) w18 fun t25_2 w19 =>
      A10 (setD D11 3) t30 t29 t28 t27 t26 t25_2 t24 t23 t22 w19) ∧
    (∀ D11 : Nat → Bool, D11 4 = false → ∀ t30 t29 t28 t27 t26 t25 t24 t23 t22 : Value, ∀ w20 : World, A10 D11 t30 t29 t28 t27 t26 t25 t24 t23 t22 w20 →
      Run Try.prog (sOp (.fieldAddr 32 (.const t8) 0) 0) w20 fun t26_2 w21 =>
      A10 (setD D11 4) t30 t29 t28 t27 t26_2 t25 t24 t23 t22 w21) ∧
    (∀ D11 : Nat → Bool, D11 5 = false → D11 4 = true → ∀ t30 t29 t28 t27 t26 t25 t24 t23 t22 : Value, ∀ w22 : World, A10 D11 t30 t29 t28 t27 t26 t25 t24 t23 t22 w22 →
      Run Try.prog (sOp (.load 30 (.const t26)) 30) w22 fun t27_2 w23 =>
      A10 (setD D11 5) t30 t29 t28 t27_2 t26 t25 t24 t23 t22 w23) ∧
    (∀ D11 : Nat → Bool, D11 6 = false → ∀ t30 t29 t28 t27 t26 t25 t24 t23 t22 : Value, ∀ w24 : World, A10 D11 t30 t29 t28 t27 t26 t25 t24 t23 t22 w24 →
      A10 (setD D11 6) t30 t29 t21 t27 t26 t25 t24 t23 t22 w24) ∧
    (∀ D11 : Nat → Bool, D11 7 = false → D11 3 = true → D11 5 = true → D11 6 = true → ∀ t30 t29 t28 t27 t26 t25 t24 t23 t22 : Value, ∀ w25 : World, A10 D11 t30 t29 t28 t27 t26 t25 t24 t23 t22 w25 →
      Run Try.prog (sCall (Value.func (.func 32) #[] #[]) [t25, t27, t28]) w25 fun t29_2 w26 =>
      A10 (setD D11 7) t30 t29_2 t28 t27 t26 t25 t24 t23 t22 w26) ∧
    (∀ D11 : Nat → Bool, D11 8 = false → D11 7 = true → ∀ t30 t29 t28 t27 t26 t25 t24 t23 t22 : Value, ∀ w27 : World, A10 D11 t30 t29 t28 t27 t26 t25 t24 t23 t22 w27 →
      Run Try.prog (sOp (.unOp .not 4 (.const t29)) 4) w27 fun t30_2 w28 =>
      A10 (setD D11 8) t30_2 t29 t28 t27 t26 t25 t24 t23 t22 w28) ∧
    True) ∧
  ∀ D11 : Nat → Bool, D11 8 = true → D11 7 = true → D11 6 = true → D11 5 = true → D11 4 = true → D11 3 = true → D11 2 = true → D11 1 = true → D11 0 = true → ∀ t30 t29 t28 t27 t26 t25 t24 t23 t22 : Value, ∀ w29 : World, A10 D11 t30 t29 t28 t27 t26 t25 t24 t23 t22 w29 →
  CondV t30 (
    Run Try.prog (sBuild 32 []) w29 fun t31 w30 =>
    Run Try.prog (sOp (.store 32 (.const t4) (.const t31)) 0) w30 fun _u w31 =>
    (LoadV Try.prog 32 t4 w31 fun r0 => R (.returned (.tuple #[r0, (Value.bool false), (Value.bool true)])) w31)) (
    (∃ A32 : (Nat → Bool) → Value → Value → Value → Value → Value → Value → Value → Value → Value → Value → Value → World → Prop, A32 (fun _ => false) undef undef undef undef undef undef undef undef undef undef undef { w29 with drawn := w29.drawn + 1 } ∧ (
    (∀ D33 : Nat → Bool, D33 0 = false → ∀ t10 t41 t40 t39 t38 t37 t36 t35 t34 t33 t32 : Value, ∀ w34 : World, A32 D33 t10 t41 t40 t39 t38 t37 t36 t35 t34 t33 t32 w34 →
      Run Try.prog (sOp (.fieldAddr 32 (.const t2) 0) 0) w34 fun t32_2 w35 =>
      A32 (setD D33 0) t10 t41 t40 t39 t38 t37 t36 t35 t34 t33 t32_2 w35) ∧
    (∀ D33 : Nat → Bool, D33 1 = false → D33 0 = true → ∀ t10 t41 t40 t39 t38 t37 t36 t35 t34 t33 t32 : Value, ∀ w36 : World, A32 D33 t10 t41 t40 t39 t38 t37 t36 t35 t34 t33 t32 w36 →
      Run Try.prog (sOp (.load 30 (.const t32)) 30) w36 fun t33_2 w37 =>
      A32 (setD D33 1) t10 t41 t40 t39 t38 t37 t36 t35 t34 t33_2 t32 w37) ∧
    (∀ D33 : Nat → Bool, D33 2 = false → D33 1 = true → ∀ t10 t41 t40 t39 t38 t37 t36 t35 t34 t33 t32 : Value, ∀ w38 : World, A32 D33 t10 t41 t40 t39 t38 t37 t36 t35 t34 t33 t32 w38 →
      Run Try.prog (sBuildSlice 28 1 [(0, t33)]) w38 fun t34_2 w39 =>
      A32 (setD D33 2) t10 t41 t40 t39 t38 t37 t36 t35 t34_2 t33 t32 w39) ∧
    (∀ D33 : Nat → Bool, D33 3 = false → ∀ t10 t41 t40 t39 t38 t37 t36 t35 t34 t33 t32 : Value, ∀ w40 : World, A32 D33 t10 t41 t40 t39 t38 t37 t36 t35 t34 t33 t32 w40 →
      Run Try.prog (sOp (.fieldAddr 32 (.const t8) 1) 0) w40 fun t35_2 w41 =>
      A32 (setD D33 3) t10 t41 t40 t39 t38 t37 t36 t35_2 t34 t33 t32 w41) ∧
    (∀ D33 : Nat → Bool, D33 4 = false → D33 3 = true → ∀ t10 t41 t40 t39 t38 t37 t36 t35 t34 t33 t32 : Value, ∀ w42 : World, A32 D33 t10 t41 t40 t39 t38 t37 t36 t35 t34 t33 t32 w42 →
      Run Try.prog (sOp (.load 28 (.const t35)) 28) w42 fun t36_2 w43 =>
      A32 (setD D33 4) t10 t41 t40 t39 t38 t37 t36_2 t35 t34 t33 t32 w43) ∧
    (∀ D33 : Nat → Bool, D33 5 = false → D33 2 = true → D33 4 = true → ∀ t10 t41 t40 t39 t38 t37 t36 t35 t34 t33 t32 : Value, ∀ w44 : World, A32 D33 t10 t41 t40 t39 t38 t37 t36 t35 t34 t33 t32 w44 →
      Run Try.prog (sBuiltin .append #[28, 28] 28 [false, false] [t34, t36]) w44 fun t37_2 w45 =>
      A32 (setD D33 5) t10 t41 t40 t39 t38 t37_2 t36 t35 t34 t33 t32 w45) ∧
    (∀ D33 : Nat → Bool, D33 6 = false → ∀ t10 t41 t40 t39 t38 t37 t36 t35 t34 t33 t32 : Value, ∀ w46 : World, A32 D33 t10 t41 t40 t39 t38 t37 t36 t35 t34 t33 t32 w46 →
      Run Try.prog (sOp (.fieldAddr 32 (.const t2) 1) 0) w46 fun t38_2 w47 =>
      A32 (setD D33 6) t10 t41 t40 t39 t38_2 t37 t36 t35 t34 t33 t32 w47) ∧
    (∀ D33 : Nat → Bool, D33 7 = false → D33 6 = true → ∀ t10 t41 t40 t39 t38 t37 t36 t35 t34 t33 t32 : Value, ∀ w48 : World, A32 D33 t10 t41 t40 t39 t38 t37 t36 t35 t34 t33 t32 w48 →
      Run Try.prog (sOp (.load 28 (.const t38)) 28) w48 fun t39_2 w49 =>
      A32 (setD D33 7) t10 t41 t40 t39_2 t38 t37 t36 t35 t34 t33 t32 w49) ∧
    (∀ D33 : Nat → Bool, D33 8 = false → D33 7 = true → ∀ t10 t41 t40 t39 t38 t37 t36 t35 t34 t33 t32 : Value, ∀ w50 : World, A32 D33 t10 t41 t40 t39 t38 t37 t36 t35 t34 t33 t32 w50 →
      Run Try.prog (sOp (.slice 28 (.const t39) (some (.const (Value.int .i64 1))) none none) 28) w50 fun t40_2 w51 =>
      A32 (setD D33 8) t10 t41 t40_2 t39 t38 t37 t36 t35 t34 t33 t32 w51) ∧
    (∀ D33 : Nat → Bool, D33 9 = false → D33 5 = true → D33 8 = true → D33 5 = true → ∀ t10 t41 t40 t39 t38 t37 t36 t35 t34 t33 t32 : Value, ∀ w52 : World, A32 D33 t10 t41 t40 t39 t38 t37 t36 t35 t34 t33 t32 w52 →
      Run Try.prog (sBuiltin .append #[28, 28] 28 [false, false] [t37, t40]) w52 fun t41_2 w53 =>
      A32 (setD D33 9) t10 t41_2 t40 t39 t38 t37 t36 t35 t34 t33 t32 w53) ∧
    (∀ D33 : Nat → Bool, D33 10 = false → D33 9 = true → D33 9 = true → D33 0 = true → D33 1 = true → D33 2 = true → D33 3 = true → D33 4 = true → D33 5 = true → D33 6 = true → D33 7 = true → D33 8 = true → D33 9 = true → ∀ t10 t41 t40 t39 t38 t37 t36 t35 t34 t33 t32 : Value, ∀ w54 : World, A32 D33 t10 t41 t40 t39 t38 t37 t36 t35 t34 t33 t32 w54 →
      A32 (setD D33 10) t41 t41 t40 t39 t38 t37 t36 t35 t34 t33 t32 w54) ∧
    True) ∧
  ∀ D33 : Nat → Bool, D33 10 = true → D33 9 = true → D33 8 = true → D33 7 = true → D33 6 = true → D33 5 = true → D33 4 = true → D33 3 = true → D33 2 = true → D33 1 = true → D33 0 = true → ∀ t10 t41 t40 t39 t38 t37 t36 t35 t34 t33 t32 : Value, ∀ w55 : World, A32 D33 t10 t41 t40 t39 t38 t37 t36 t35 t34 t33 t32 w55 →
  Run Try.prog (sBuildSlice 28 0 []) w55 fun t42 w56 =>
  (∃ (I57 : Value → Value → World → Prop) (m58 : Value → Value → World → Nat), I57 (Value.int .i64 0) t42 w56 ∧
  ∀ t12 _ _ t11 _ _ _ _ t6 t5 _ _ _ _ _ _ _ _ _ _ _ _ _ _ _ _ _ _ : Value, ∀ w59 : World, I57 t12 t11 w59 →
  Run Try.prog (sBuiltin .len #[28] 3 [false] [t10]) w59 fun t45_2 w60 =>
  Run Try.prog (sBin .lss 3 false false t12 t45_2) w60 fun t46_2 w61 =>
  CondV t46_2 (
    Run Try.prog (sOp (.indexAddr 28 (.const t10) (.const t12)) 0) w61 fun t52_2 w62 =>
  Run Try.prog (sOp (.load 30 (.const t52_2)) 30) w62 fun t53_2 w63 =>
  Run Try.prog (sCall (Value.func (.func 33) #[] #[]) [t53_2, t21]) w63 fun t55_2 w64 =>
  Run Try.prog (sOp (.extract (.const t55_2) 0) 30) w64 fun t56_2 w65 =>
  Run Try.prog (sOp (.extract (.const t55_2) 1) 4) w65 fun t57_2 w66 =>
  Run Try.prog (sOp (.alloc 30) 0) w66 fun t13_2 w67 =>
  Run Try.prog (sOp (.store 30 (.const t13_2) (.const t56_2)) 0) w67 fun _u w68 =>
  Run Try.prog (sOp (.unOp .not 4 (.const t57_2)) 4) w68 fun t59_2 w69 =>
  CondV t59_2 (
    Run Try.prog (sBuild 32 []) w69 fun t60_2 w70 =>
    Run Try.prog (sOp (.store 32 (.const t4) (.const t60_2)) 0) w70 fun _u w71 =>
    (LoadV Try.prog 32 t4 w71 fun r0 => R (.returned (.tuple #[r0, (Value.bool true), (Value.bool false)])) w71)) (
    Run Try.prog (sOp (.load 30 (.const t13_2)) 30) w69 fun t62_2 w72 =>
  Run Try.prog (sBuildSlice 28 1 [(0, t62_2)]) w72 fun t63_2 w73 =>
  Run Try.prog (sBuiltin .append #[28, 28] 28 [false, false] [t11, t63_2]) w73 fun t64_2 w74 =>
  Run Try.prog (sBin .add 3 false true t12 (Value.int .i64 1)) w74 fun t48_2 w75 =>
  I57 t48_2 t64_2 w75 ∧ m58 t48_2 t64_2 w75 < m58 t12 t11 w59)) (
    Run Try.prog (sCall (Value.func (.func 34) #[] #[]) [t11]) w61 fun t66 w76 =>
  (∃ A77 : (Nat → Bool) → Value → Value → Value → Value → Value → Value → Value → World → Prop, A77 (fun _ => false) undef undef undef undef undef undef undef { w76 with drawn := w76.drawn + 1 } ∧ (
    (∀ D78 : Nat → Bool, D78 0 = false → ∀ t15 t72 t71 t70 t69 t68 t67 : Value, ∀ w79 : World, A77 D78 t15 t72 t71 t70 t69 t68 t67 w79 →
      A77 (setD D78 0) t15 t72 t71 t70 t69 t68 t66 w79) ∧
    (∀ D78 : Nat → Bool, D78 1 = false → D78 0 = true → ∀ t15 t72 t71 t70 t69 t68 t67 : Value, ∀ w80 : World, A77 D78 t15 t72 t71 t70 t69 t68 t67 w80 →
      Run Try.prog (sOp (.indexAddr 28 (.const t67) (.const (Value.int .i64 0))) 0) w80 fun t68_2 w81 =>
      A77 (setD D78 1) t15 t72 t71 t70 t69 t68_2 t67 w81) ∧
    (∀ D78 : Nat → Bool, D78 2 = false → D78 1 = true → ∀ t15 t72 t71 t70 t69 t68 t67 : Value, ∀ w82 : World, A77 D78 t15 t72 t71 t70 t69 t68 t67 w82 →
      Run Try.prog (sOp (.load 30 (.const t68)) 30) w82 fun t69_2 w83 =>
      A77 (setD D78 2) t15 t72 t71 t70 t69_2 t68 t67 w83) ∧
    (∀ D78 : Nat → Bool, D78 3 = false → ∀ t15 t72 t71 t70 t69 t68 t67 : Value, ∀ w84 : World, A77 D78 t15 t72 t71 t70 t69 t68 t67 w84 →
      A77 (setD D78 3) t15 t72 t71 t66 t69 t68 t67 w84) ∧
    (∀ D78 : Nat → Bool, D78 4 = false → D78 3 = true → ∀ t15 t72 t71 t70 t69 t68 t67 : Value, ∀ w85 : World, A77 D78 t15 t72 t71 t70 t69 t68 t67 w85 →
      Run Try.prog (sOp (.slice 28 (.const t70) (some (.const (Value.int .i64 1))) none none) 28) w85 fun t71_2 w86 =>
      A77 (setD D78 4) t15 t72 t71_2 t70 t69 t68 t67 w86) ∧
    (∀ D78 : Nat → Bool, D78 5 = false → D78 2 = true → D78 4 = true → ∀ t15 t72 t71 t70 t69 t68 t67 : Value, ∀ w87 : World, A77 D78 t15 t72 t71 t70 t69 t68 t67 w87 →
      Run Try.prog (sBuild 32 [(0, t69), (1, t71)]) w87 fun t72_2 w88 =>
      A77 (setD D78 5) t15 t72_2 t71 t70 t69 t68 t67 w88) ∧
    (∀ D78 : Nat → Bool, D78 6 = false → ∀ t15 t72 t71 t70 t69 t68 t67 : Value, ∀ w89 : World, A77 D78 t15 t72 t71 t70 t69 t68 t67 w89 →
      Run Try.prog (sOp (.alloc 32) 0) w89 fun t15_2 w90 =>
      A77 (setD D78 6) t15_2 t72 t71 t70 t69 t68 t67 w90) ∧
    (∀ D78 : Nat → Bool, D78 7 = false → D78 6 = true → D78 5 = true → D78 0 = true → D78 1 = true → D78 2 = true → D78 3 = true → D78 4 = true → D78 5 = true → D78 6 = true → ∀ t15 t72 t71 t70 t69 t68 t67 : Value, ∀ w91 : World, A77 D78 t15 t72 t71 t70 t69 t68 t67 w91 →
      Run Try.prog (sOp (.store 32 (.const t15) (.const t72)) 0) w91 fun _u w92 =>
      A77 (setD D78 7) t15 t72 t71 t70 t69 t68 t67 w92) ∧
    True) ∧
  ∀ D78 : Nat → Bool, D78 7 = true → D78 6 = true → D78 5 = true → D78 4 = true → D78 3 = true → D78 2 = true → D78 1 = true → D78 0 = true → ∀ t15 t72 t71 t70 t69 t68 t67 : Value, ∀ w93 : World, A77 D78 t15 t72 t71 t70 t69 t68 t67 w93 →
  (∃ A94 : (Nat → Bool) → Value → Value → Value → Value → Value → World → Prop, A94 (fun _ => false) t6 t5 undef undef undef { w93 with drawn := w93.drawn + 1 } ∧ (
    (∀ D95 : Nat → Bool, D95 0 = false → ∀ t6_2 t5_2 t75 t74 t73 : Value, ∀ w96 : World, A94 D95 t6_2 t5_2 t75 t74 t73 w96 →
      Run Try.prog (sOp (.load 32 (.const t15)) 32) w96 fun t73_2 w97 =>
      A94 (setD D95 0) t6_2 t5_2 t75 t74 t73_2 w97) ∧
    (∀ D95 : Nat → Bool, D95 1 = false → ∀ t6_2 t5_2 t75 t74 t73 : Value, ∀ w98 : World, A94 D95 t6_2 t5_2 t75 t74 t73 w98 →
      Run Try.prog (sOp (.load 32 (.const t15)) 32) w98 fun t74_2 w99 =>
      A94 (setD D95 1) t6_2 t5_2 t75 t74_2 t73 w99) ∧
    (∀ D95 : Nat → Bool, D95 2 = false → D95 1 = true → ∀ t6_2 t5_2 t75 t74 t73 : Value, ∀ w100 : World, A94 D95 t6_2 t5_2 t75 t74 t73 w100 →
      Run Try.prog (sCall (Value.func (.func 13) #[] #[]) [t74]) w100 fun t75_2 w101 =>
      A94 (setD D95 2) t6_2 t5_2 t75_2 t74 t73 w101) ∧
    (∀ D95 : Nat → Bool, D95 3 = false → D95 0 = true → D95 2 = true → D95 0 = true → ∀ t6_2 t5_2 t75 t74 t73 : Value, ∀ w102 : World, A94 D95 t6_2 t5_2 t75 t74 t73 w102 →
      Run Try.prog (sOp (.store 32 (.const t4) (.const t73)) 0) w102 fun _ w103 =>
      A94 (setD D95 3) t6_2 t5_2 t75 t74 t73 w103) ∧
    (∀ D95 : Nat → Bool, D95 4 = false → D95 3 = true → D95 0 = true → D95 3 = true → ∀ t6_2 t5_2 t75 t74 t73 : Value, ∀ w104 : World, A94 D95 t6_2 t5_2 t75 t74 t73 w104 →
      A94 (setD D95 4) t6_2 (Value.bool true) t75 t74 t73 w104) ∧
    (∀ D95 : Nat → Bool, D95 5 = false → D95 2 = true → D95 4 = true → D95 0 = true → D95 1 = true → D95 2 = true → D95 3 = true → D95 4 = true → ∀ t6_2 t5_2 t75 t74 t73 : Value, ∀ w105 : World, A94 D95 t6_2 t5_2 t75 t74 t73 w105 →
      A94 (setD D95 5) t75 t5_2 t75 t74 t73 w105) ∧
    True) ∧
  ∀ D95 : Nat → Bool, D95 5 = true → D95 4 = true → D95 3 = true → D95 2 = true → D95 1 = true → D95 0 = true → ∀ t6_2 t5_2 t75 t74 t73 : Value, ∀ w106 : World, A94 D95 t6_2 t5_2 t75 t74 t73 w106 →
  (LoadV Try.prog 32 t4 w106 fun r0 => R (.returned (.tuple #[r0, t5_2, t6_2])) w106))))))))
theorem calls_s_l15Resolvent {p0 p1 : Value} {w : World} {R : Ending → World → Prop} (h : sh_s_l15Resolvent p0 p1 w R) : Calls Try.prog 15 #[p0, p1] w R :=
  calls_sh (.seq none .leaf (.seq none .leaf (.seq none .leaf (.seq none .leaf (.seq none .leaf (.seq none .leaf (.seq none .leaf (.seq none (.seq none .leaf (.one (.loop [12, 11] .leaf))) .leaf)))))))) [p0, p1] mixed Try.func15 (by kernel_rfl) (by kernel_rfl) h


/- loop.example/prologserver/spec.l4Copy : function 16 -/
def sh_s_l4Copy (p0 : Value) (w : World) (R : Ending → World → Prop) : Prop :=
  Run Try.prog (sOp (.box 32 (.const p0)) 0) w fun t1 w1 =>
  Run Try.prog (sOp (.alloc 32) 0) w1 fun t2 w2 =>
  Run Try.prog (sOp (.fieldAddr 32 (.const t1) 0) 0) w2 fun t5 w3 =>
  Run Try.prog (sOp (.load 30 (.const t5)) 30) w3 fun t6 w4 =>
  Run Try.prog (sCall (Value.func (.func 35) #[] #[]) [t6]) w4 fun t7 w5 =>
  Run Try.prog (sBuild 32 [(0, t7)]) w5 fun t8 w6 =>
  Run Try.prog (sOp (.alloc 32) 0) w6 fun t3 w7 =>
  Run Try.prog (sOp (.store 32 (.const t3) (.const t8)) 0) w7 fun _u w8 =>
  (∃ (I9 : Value → World → Prop) (m10 : Value → World → Nat), I9 (Value.int .i64 0) w8 ∧
  ∀ t4 _ _ t26 t25 t24 t23 t22 t21 t20 t19 t18 t17 t16 _ _ _ _ _ : Value, ∀ w11 : World, I9 t4 w11 →
  Run Try.prog (sOp (.fieldAddr 32 (.const t1) 1) 0) w11 fun t10_2 w12 =>
  Run Try.prog (sOp (.load 28 (.const t10_2)) 28) w12 fun t11_2 w13 =>
  Run Try.prog (sBuiltin .len #[28] 3 [false] [t11_2]) w13 fun t12_2 w14 =>
  Run Try.prog (sBin .lss 3 false false t4 t12_2) w14 fun t13_2 w15 =>
  CondV t13_2 (
    (∃ A16 : (Nat → Bool) → Value → Value → Value → Value → Value → Value → Value → Value → Value → Value → Value → World → Prop, A16 (fun _ => false) t26 t25 t24 t23 t22 t21 t20 t19 t18 t17 t16 { w15 with drawn := w15.drawn + 1 } ∧ (
    (∀ D17 : Nat → Bool, D17 0 = false → ∀ t26_2 t25_2 t24_2 t23_2 t22_2 t21_2 t20_2 t19_2 t18_2 t17_2 t16_2 : Value, ∀ w18 : World, A16 D17 t26_2 t25_2 t24_2 t23_2 t22_2 t21_2 t20_2 t19_2 t18_2 t17_2 t16_2 w18 →
      Run Try.prog (sOp (.fieldAddr 32 (.const t3) 1) 0) w18 fun t16_3 w19 =>
      A16 (setD D17 0) t26_2 t25_2 t24_2 t23_2 t22_2 t21_2 t20_2 t19_2 t18_2 t17_2 t16_3 w19) ∧
    (∀ D17 : Nat → Bool, D17 1 = false → D17 0 = true → ∀ t26_2 t25_2 t24_2 t23_2 t22_2 t21_2 t20_2 t19_2 t18_2 t17_2 t16_2 : Value, ∀ w20 : World, A16 D17 t26_2 t25_2 t24_2 t23_2 t22_2 t21_2 t20_2 t19_2 t18_2 t17_2 t16_2 w20 →
      Run Try.prog (sOp (.load 28 (.const t16_2)) 28) w20 fun t17_3 w21 =>
      A16 (setD D17 1) t26_2 t25_2 t24_2 t23_2 t22_2 t21_2 t20_2 t19_2 t18_2 t17_3 t16_2 w21) ∧
    (∀ D17 : Nat → Bool, D17 2 = false → ∀ t26_2 t25_2 t24_2 t23_2 t22_2 t21_2 t20_2 t19_2 t18_2 t17_2 t16_2 : Value, ∀ w22 : World, A16 D17 t26_2 t25_2 t24_2 t23_2 t22_2 t21_2 t20_2 t19_2 t18_2 t17_2 t16_2 w22 →
      Run Try.prog (sOp (.fieldAddr 32 (.const t1) 1) 0) w22 fun t18_3 w23 =>
      A16 (setD D17 2) t26_2 t25_2 t24_2 t23_2 t22_2 t21_2 t20_2 t19_2 t18_3 t17_2 t16_2 w23) ∧
    (∀ D17 : Nat → Bool, D17 3 = false → D17 2 = true → ∀ t26_2 t25_2 t24_2 t23_2 t22_2 t21_2 t20_2 t19_2 t18_2 t17_2 t16_2 : Value, ∀ w24 : World, A16 D17 t26_2 t25_2 t24_2 t23_2 t22_2 t21_2 t20_2 t19_2 t18_2 t17_2 t16_2 w24 →
      Run Try.prog (sOp (.load 28 (.const t18_2)) 28) w24 fun t19_3 w25 =>
      A16 (setD D17 3) t26_2 t25_2 t24_2 t23_2 t22_2 t21_2 t20_2 t19_3 t18_2 t17_2 t16_2 w25) ∧
    (∀ D17 : Nat → Bool, D17 4 = false → ∀ t26_2 t25_2 t24_2 t23_2 t22_2 t21_2 t20_2 t19_2 t18_2 t17_2 t16_2 : Value, ∀ w26 : World, A16 D17 t26_2 t25_2 t24_2 t23_2 t22_2 t21_2 t20_2 t19_2 t18_2 t17_2 t16_2 w26 →
      A16 (setD D17 4) t26_2 t25_2 t24_2 t23_2 t22_2 t21_2 t4 t19_2 t18_2 t17_2 t16_2 w26) ∧
    (∀ D17 : Nat → Bool, D17 5 = false → D17 3 = true → D17 4 = true → ∀ t26_2 t25_2 t24_2 t23_2 t22_2 t21_2 t20_2 t19_2 t18_2 t17_2 t16_2 : Value, ∀ w27 : World, A16 D17 t26_2 t25_2 t24_2 t23_2 t22_2 t21_2 t20_2 t19_2 t18_2 t17_2 t16_2 w27 →
      Run Try.prog (sOp (.indexAddr 28 (.const t19_2) (.const t20_2)) 0) w27 fun t21_3 w28 =>
      A16 (setD D17 5) t26_2 t25_2 t24_2 t23_2 t22_2 t21_3 t20_2 t19_2 t18_2 t17_2 t16_2 w28) ∧
    (∀ D17 : Nat → Bool, D17 6 = false → D17 5 = true → ∀ t26_2 t25_2 t24_2 t23_2 t22_2 t21_2 t20_2 t19_2 t18_2 t17_2 t16_2 : Value, ∀ w29 : World, A16 D17 t26_2 t25_2 t24_2 t23_2 t22_2 t21_2 t20_2 t19_2 t18_2 t17_2 t16_2 w29 →
      Run Try.prog (sOp (.load 30 (.const t21_2)) 30) w29 fun t22_3 w30 =>
      A16 (setD D17 6) t26_2 t25_2 t24_2 t23_2 t22_3 t21_2 t20_2 t19_2 t18_2 t17_2 t16_2 w30) ∧
    (∀ D17 : Nat → Bool, D17 7 = false → D17 6 = true → ∀ t26_2 t25_2 t24_2 t23_2 t22_2 t21_2 t20_2 t19_2 t18_2 t17_2 t16_2 : Value, ∀ w31 : World, A16 D17 t26_2 t25_2 t24_2 t23_2 t22_2 t21_2 t20_2 t19_2 t18_2 t17_2 t16_2 w31 →
      Run Try.prog (sCall (Value.func (.func 35) #[] #[]) [t22_2]) w31 fun t23_3 w32 =>
      A16 (setD D17 7) t26_2 t25_2 t24_2 t23_3 t22_2 t21_2 t20_2 t19_2 t18_2 t17_2 t16_2 w32) ∧
    (∀ D17 : Nat → Bool, D17 8 = false → D17 7 = true → ∀ t26_2 t25_2 t24_2 t23_2 t22_2 t21_2 t20_2 t19_2 t18_2 t17_2 t16_2 : Value, ∀ w33 : World, A16 D17 t26_2 t25_2 t24_2 t23_2 t22_2 t21_2 t20_2 t19_2 t18_2 t17_2 t16_2 w33 →
      Run Try.prog (sBuildSlice 28 1 [(0, t23_2)]) w33 fun t24_3 w34 =>
      A16 (setD D17 8) t26_2 t25_2 t24_3 t23_2 t22_2 t21_2 t20_2 t19_2 t18_2 t17_2 t16_2 w34) ∧
    (∀ D17 : Nat → Bool, D17 9 = false → D17 1 = true → D17 8 = true → D17 7 = true → ∀ t26_2 t25_2 t24_2 t23_2 t22_2 t21_2 t20_2 t19_2 t18_2 t17_2 t16_2 : Value, ∀ w35 : World, A16 D17 t26_2 t25_2 t24_2 t23_2 t22_2 t21_2 t20_2 t19_2 t18_2 t17_2 t16_2 w35 →
      Run Try.prog (sBuiltin .append #[28, 28] 28 [false, false] [t17_2, t24_2]) w35 fun t25_3 w36 =>
      A16 (setD D17 9) t26_2 t25_3 t24_2 t23_2 t22_2 t21_2 t20_2 t19_2 t18_2 t17_2 t16_2 w36) ∧
    (∀ D17 : Nat → Bool, D17 10 = false → D17 0 = true → D17 1 = true → D17 2 = true → D17 3 = true → D17 4 = true → D17 5 = true → D17 6 = true → D17 7 = true → D17 8 = true → D17 9 = true → ∀ t26_2 t25_2 t24_2 t23_2 t22_2 t21_2 t20_2 t19_2 t18_2 t17_2 t16_2 : Value, ∀ w37 : World, A16 D17 t26_2 t25_2 t24_2 t23_2 t22_2 t21_2 t20_2 t19_2 t18_2 t17_2 t16_2 w37 →
      Run Try.prog (sOp (.fieldAddr 32 (.const t3) 1) 0) w37 fun t26_3 w38 =>
      A16 (setD D17 10) t26_3 t25_2 t24_2 t23_2 t22_2 t21_2 t20_2 t19_2 t18_2 t17_2 t16_2 w38) ∧
    (∀ D17 : Nat → Bool, D17 11 = false → D17 10 = true → D17 9 = true → D17 9 = true → D17 0 = true → D17 1 = true → D17 2 = true → D17 3 = true → D17 4 = true → D17 5 = true → D17 6 = true → D17 7 = true → D17 8 = true → D17 9 = true → ∀ t26_2 t25_2 t24_2 t23_2 t22_2 t21_2 t20_2 t19_2 t18_2 t17_2 t16_2 : Value, ∀ w39 : World, A16 D17 t26_2 t25_2 t24_2 t23_2 t22_2 t21_2 t20_2 t19_2 t18_2 t17_2 t16_2 w39 →
      Run Try.prog (sOp (.store 28 (.const t26_2) (.const t25_2)) 0) w39 fun _u w40 =>
      A16 (setD D17 11) t26_2 t25_2 t24_2 t23_2 t22_2 t21_2 t20_2 t19_2 t18_2 t17_2 t16_2 w40) ∧
    True) ∧
  ∀ D17 : Nat → Bool, D17 11 = true → D17 10 = true → D17 9 = true → D17 8 = true → D17 7 = true → D17 6 = true → D17 5 = true → D17 4 = true → D17 3 = true → D17 2 = true → D17 1 = true → D17 0 = true → ∀ t26_2 t25_2 t24_2 t23_2 t22_2 t21_2 t20_2 t19_2 t18_2 t17_2 t16_2 : Value, ∀ w41 : World, A16 D17 t26_2 t25_2 t24_2 t23_2 t22_2 t21_2 t20_2 t19_2 t18_2 t17_2 t16_2 w41 →
  Run Try.prog (sBin .add 3 false true t4 (Value.int .i64 1)) w41 fun t15_2 w42 =>
  I9 t15_2 w42 ∧ m10 t15_2 w42 < m10 t4 w11)) (
    Run Try.prog (sOp (.load 32 (.const t3)) 32) w15 fun t27 w43 =>
  Run Try.prog (sOp (.store 32 (.const t2) (.const t27)) 0) w43 fun _ w44 =>
  (LoadV Try.prog 32 t2 w44 fun r0 => R (.returned r0) w44)))
theorem calls_s_l4Copy {p0 : Value} {w : World} {R : Ending → World → Prop} (h : sh_s_l4Copy p0 w R) : Calls Try.prog 16 #[p0] w R :=
  calls_sh (.seq none .leaf (.seq none .leaf (.seq none (.seq none .leaf (.one (.loop [4] .leaf))) .leaf))) [p0] mixed Try.func16 (by kernel_rfl) (by kernel_rfl) h


/- loop.example/prologserver/laws.toTerm : function 17 -/
def sh_l_toTerm (p0 : Value) (w : World) (R : Ending → World → Prop) : Prop :=
  Run Try.prog (sOp (.box 24 (.const p0)) 0) w fun t1 w1 =>
  Run Try.prog (sOp (.alloc 30) 0) w1 fun t2 w2 =>
  Run Try.prog (sOp (.alloc 30) 0) w2 fun t3 w3 =>
  Run Try.prog (sOp (.fieldAddr 24 (.const t1) 0) 0) w3 fun t4 w4 =>
  Run Try.prog (sOp (.load 3 (.const t4)) 3) w4 fun t5 w5 =>
  Run Try.prog (sOp (.fieldAddr 30 (.const t3) 0) 0) w5 fun t6 w6 =>
  Run Try.prog (sOp (.store 3 (.const t6) (.const t5)) 0) w6 fun _u w7 =>
  Run Try.prog (sOp (.fieldAddr 24 (.const t1) 1) 0) w7 fun t7 w8 =>
  Run Try.prog (sOp (.load 3 (.const t7)) 3) w8 fun t8 w9 =>
  Run Try.prog (sOp (.fieldAddr 30 (.const t3) 1) 0) w9 fun t9 w10 =>
  Run Try.prog (sOp (.store 3 (.const t9) (.const t8)) 0) w10 fun _u w11 =>
  Run Try.prog (sOp (.fieldAddr 24 (.const t1) 2) 0) w11 fun t10 w12 =>
  Run Try.prog (sOp (.load 9 (.const t10)) 9) w12 fun t11 w13 =>
  Run Try.prog (sOp (.fieldAddr 30 (.const t3) 2) 0) w13 fun t12 w14 =>
  Run Try.prog (sOp (.store 9 (.const t12) (.const t11)) 0) w14 fun _u w15 =>
  Run Try.prog (sOp (.fieldAddr 24 (.const t1) 3) 0) w15 fun t13 w16 =>
  Run Try.prog (sOp (.load 22 (.const t13)) 22) w16 fun t14 w17 =>
  Run Try.prog (sCall (Value.func (.func 18) #[] #[]) [t14]) w17 fun t15 w18 =>
  Run Try.prog (sOp (.fieldAddr 30 (.const t3) 3) 0) w18 fun t16 w19 =>
  Run Try.prog (sOp (.store 28 (.const t16) (.const t15)) 0) w19 fun _u w20 =>
  Run Try.prog (sOp (.load 30 (.const t3)) 30) w20 fun t17 w21 =>
  Run Try.prog (sOp (.store 30 (.const t2) (.const t17)) 0) w21 fun _ w22 =>
  (LoadV Try.prog 30 t2 w22 fun r0 => R (.returned r0) w22)
theorem calls_l_toTerm {p0 : Value} {w : World} {R : Ending → World → Prop} (h : sh_l_toTerm p0 w R) : Calls Try.prog 17 #[p0] w R :=
  calls_sh .leaf [p0] mixed Try.func17 (by kernel_rfl) (by kernel_rfl) h


/- loop.example/prologserver/laws.toTermS : function 18 -/
def sh_l_toTermS (p0 : Value) (w : World) (R : Ending → World → Prop) : Prop :=
  Run Try.prog (sBuiltin .len #[22] 3 [false] [p0]) w fun t6 w1 =>
  Run Try.prog (sOp (.makeSlice 28 (.const t6) (.const t6)) 28) w1 fun t7 w2 =>
  (∃ (I3 : Value → World → Prop) (m4 : Value → World → Nat), I3 (Value.int .i64 0) w2 ∧
  ∀ t4 _ _ _ _ _ _ _ _ _ _ _ _ _ _ : Value, ∀ w5 : World, I3 t4 w5 →
  Run Try.prog (sBuiltin .len #[22] 3 [false] [p0]) w5 fun t10_2 w6 =>
  Run Try.prog (sBin .lss 3 false false t4 t10_2) w6 fun t11_2 w7 =>
  CondV t11_2 (
    Run Try.prog (sOp (.indexAddr 22 (.const p0) (.const t4)) 0) w7 fun t18_2 w8 =>
  Run Try.prog (sOp (.load 24 (.const t18_2)) 24) w8 fun t19_2 w9 =>
  Run Try.prog (sCall (Value.func (.func 17) #[] #[]) [t19_2]) w9 fun t20_2 w10 =>
  Run Try.prog (sOp (.indexAddr 28 (.const t7) (.const t4)) 0) w10 fun t21_2 w11 =>
  Run Try.prog (sOp (.store 30 (.const t21_2) (.const t20_2)) 0) w11 fun _ w12 =>
  Run Try.prog (sBin .add 3 false true t4 (Value.int .i64 1)) w12 fun t13_2 w13 =>
  I3 t13_2 w13 ∧ m4 t13_2 w13 < m4 t4 w5) (
    R (.returned t7) w7))
theorem calls_l_toTermS {p0 : Value} {w : World} {R : Ending → World → Prop} (h : sh_l_toTermS p0 w R) : Calls Try.prog 18 #[p0] w R :=
  calls_sh (.seq none .leaf (.seq none .leaf (.seq none (.seq none .leaf (.one (.loop [4] .leaf))) .leaf))) [p0] mixed Try.func18 (by kernel_rfl) (by kernel_rfl) h


/- loop.example/prologserver/impl.ClauseValid : function 19 -/
def sh_i_ClauseValid (p0 : Value) (w : World) (R : Ending → World → Prop) : Prop :=
  Run Try.prog (sOp (.box 32 (.const p0)) 0) w fun t1 w1 =>
  Run Try.prog (sOp (.fieldAddr 32 (.const t1) 0) 0) w1 fun t3 w2 =>
  Run Try.prog (sOp (.load 30 (.const t3)) 30) w2 fun t4 w3 =>
  Run Try.prog (sCall (Value.func (.func 36) #[] #[]) [t4]) w3 fun t5 w4 =>
  GuardV t5 true (
    Run Try.prog (sOp (.fieldAddr 32 (.const t1) 0) 0) w4 fun t7 w5 =>
    Run Try.prog (sOp (.load 30 (.const t7)) 30) w5 fun t8 w6 =>
    Run Try.prog (sCall (Value.func (.func 37) #[] #[]) [t8]) w6 fun t9 w7 =>
    Run Try.prog (sOp (.pick (.const t5) (.const t9) (.const (Value.bool false))) 4) w7 fun t10 w8 =>
    GuardV t10 true (
      Run Try.prog (sOp (.fieldAddr 32 (.const t1) 1) 0) w8 fun t12 w9 =>
      Run Try.prog (sOp (.load 28 (.const t12)) 28) w9 fun t13 w10 =>
      Run Try.prog (sCall (Value.func (.func 38) #[] #[]) [t13]) w10 fun t14 w11 =>
      Run Try.prog (sOp (.pick (.const t10) (.const t14) (.const (Value.bool false))) 4) w11 fun t15 w12 =>
      R (.returned t15) w12) (
      Run Try.prog (sOp (.pick (.const t10) (.const undef) (.const (Value.bool false))) 4) w8 fun t15_2 w13 =>
      R (.returned t15_2) w13)) (
    Run Try.prog (sOp (.pick (.const t5) (.const undef) (.const (Value.bool false))) 4) w4 fun t10_2 w14 =>
    GuardV t10_2 true (
      Run Try.prog (sOp (.fieldAddr 32 (.const t1) 1) 0) w14 fun t12_2 w15 =>
      Run Try.prog (sOp (.load 28 (.const t12_2)) 28) w15 fun t13_2 w16 =>
      Run Try.prog (sCall (Value.func (.func 38) #[] #[]) [t13_2]) w16 fun t14_2 w17 =>
      Run Try.prog (sOp (.pick (.const t10_2) (.const t14_2) (.const (Value.bool false))) 4) w17 fun t15_3 w18 =>
      R (.returned t15_3) w18) (
      Run Try.prog (sOp (.pick (.const t10_2) (.const undef) (.const (Value.bool false))) 4) w14 fun t15_4 w19 =>
      R (.returned t15_4) w19))
theorem calls_i_ClauseValid {p0 : Value} {w : World} {R : Ending → World → Prop} (h : sh_i_ClauseValid p0 w R) : Calls Try.prog 19 #[p0] w R :=
  calls_sh .leaf [p0] mixed Try.func19 (by kernel_rfl) (by kernel_rfl) h


/- loop.example/prologserver/impl.firstPlain : function 20 -/
def sh_i_firstPlain (p0 : Value) (w : World) (R : Ending → World → Prop) : Prop :=
  Run Try.prog (sOp (.box 32 (.const p0)) 0) w fun t1 w1 =>
  Run Try.prog (sOp (.fieldAddr 32 (.const t1) 1) 0) w1 fun t3 w2 =>
  Run Try.prog (sOp (.load 28 (.const t3)) 28) w2 fun t4 w3 =>
  Run Try.prog (sBuiltin .len #[28] 3 [false] [t4]) w3 fun t5 w4 =>
  Run Try.prog (sBin .gtr 3 false true t5 (Value.int .i64 0)) w4 fun t6 w5 =>
  GuardV t6 true (
    Run Try.prog (sOp (.fieldAddr 32 (.const t1) 1) 0) w5 fun t8 w6 =>
    Run Try.prog (sOp (.load 28 (.const t8)) 28) w6 fun t9 w7 =>
    Run Try.prog (sOp (.indexAddr 28 (.const t9) (.const (Value.int .i64 0))) 0) w7 fun t10 w8 =>
    Run Try.prog (sOp (.load 30 (.const t10)) 30) w8 fun t11 w9 =>
    Run Try.prog (sCall (Value.func (.func 37) #[] #[]) [t11]) w9 fun t12 w10 =>
    Run Try.prog (sOp (.pick (.const t6) (.const t12) (.const (Value.bool false))) 4) w10 fun t13 w11 =>
    R (.returned t13) w11) (
    Run Try.prog (sOp (.pick (.const t6) (.const undef) (.const (Value.bool false))) 4) w5 fun t13_2 w12 =>
    R (.returned t13_2) w12)
theorem calls_i_firstPlain {p0 : Value} {w : World} {R : Ending → World → Prop} (h : sh_i_firstPlain p0 w R) : Calls Try.prog 20 #[p0] w R :=
  calls_sh .leaf [p0] mixed Try.func20 (by kernel_rfl) (by kernel_rfl) h


/- loop.example/prologserver/impl.resolvent : function 21 -/
def sh_i_resolvent (p0 p1 : Value) (w : World) (R : Ending → World → Prop) : Prop :=
  Run Try.prog (sOp (.box 32 (.const p0)) 0) w fun t2 w1 =>
  Run Try.prog (sOp (.box 32 (.const p1)) 0) w1 fun t3 w2 =>
  Run Try.prog (sOp (.alloc 32) 0) w2 fun t4 w3 =>
  Run Try.prog (sCall (Value.func (.func 39) #[] #[]) []) w3 fun t16 w4 =>
  (∃ A5 : (Nat → Bool) → Value → Value → Value → Value → Value → Value → Value → Value → Value → Value → Value → World → Prop, A5 (fun _ => false) undef undef undef undef undef undef undef undef undef undef undef { w4 with drawn := w4.drawn + 1 } ∧ (
    (∀ D6 : Nat → Bool, D6 0 = false → ∀ t27 t26 t25 t24 t23 t22 t21 t20 t19 t18 t17 : Value, ∀ w7 : World, A5 D6 t27 t26 t25 t24 t23 t22 t21 t20 t19 t18 t17 w7 →
      A5 (setD D6 0) t27 t26 t25 t24 t23 t22 t21 t20 t19 t18 t16 w7) ∧
    (∀ D6 : Nat → Bool, D6 1 = false → ∀ t27 t26 t25 t24 t23 t22 t21 t20 t19 t18 t17 : Value, ∀ w8 : World, A5 D6 t27 t26 t25 t24 t23 t22 t21 t20 t19 t18 t17 w8 →
      Run Try.prog (sOp (.fieldAddr 32 (.const t2) 1) 0) w8 fun t18_2 w9 =>
      A5 (setD D6 1) t27 t26 t25 t24 t23 t22 t21 t20 t19 t18_2 t17 w9) ∧
    (∀ D6 : Nat → Bool, D6 2 = false → D6 1 = true → ∀ t27 t26 t25 t24 t23 t22 t21 t20 t19 t18 t17 : Value, ∀ w10 : World, A5 D6 t27 t26 t25 t24 t23 t22 t21 t20 t19 t18 t17 w10 →
      Run Try.prog (sOp (.load 28 (.const t18)) 28) w10 fun t19_2 w11 =>
      A5 (setD D6 2) t27 t26 t25 t24 t23 t22 t21 t20 t19_2 t18 t17 w11) ∧
    (∀ D6 : Nat → Bool, D6 3 = false → D6 2 = true → ∀ t27 t26 t25 t24 t23 t22 t21 t20 t19 t18 t17 : Value, ∀ w12 : World, A5 D6 t27 t26 t25 t24 t23 t22 t21 t20 t19 t18 t17 w12 →
      Run Try.prog (sOp (.indexAddr 28 (.const t19) (.const (Value.int .i64 0))) 0) w12 fun t20_2 w13 =>
      A5 (setD D6 3) t27 t26 t25 t24 t23 t22 t21 t20_2 t19 t18 t17 w13) ∧
    (∀ D6 : Nat → Bool, D6 4 = false → D6 3 = true → ∀ t27 t26 t25 t24 t23 t22 t21 t20 t19 t18 t17 : Value, ∀ w14 : World, A5 D6 t27 t26 t25 t24 t23 t22 t21 t20 t19 t18 t17 w14 →
      Run Try.prog (sOp (.load 30 (.const t20)) 30) w14 fun t21_2 w15 =>
      A5 (setD D6 4) t27 t26 t25 t24 t23 t22 t21_2 t20 t19 t18 t17 w15) ∧
    (∀ D6 : Nat → Bool, D6 5 = false → ∀ t27 t26 t25 t24 t23 t22 t21 t20 t19 t18 t17 : Value, ∀ w16 : World, A5 D6 t27 t26 t25 t24 t23 t22 t21 t20 t19 t18 t17 w16 →
      Run Try.prog (sOp (.fieldAddr 32 (.const t3) 0) 0) w16 fun t22_2 w17 =>
      A5 (setD D6 5) t27 t26 t25 t24 t23 t22_2 t21 t20 t19 t18 t17 w17) ∧
    (∀ D6 : Nat → Bool, D6 6 = false → D6 5 = true → ∀ t27 t26 t25 t24 t23 t22 t21 t20 t19 t18 t17 : Value, ∀ w18 : World, A5 D6 t27 t26 t25 t24 t23 t22 t21 t20 t19 t18 t17 w18 →
      Run Try.prog (sOp (.load 30 (.const t22)) 30) w18 fun t23_2 w19 =>
      A5 (setD D6 6) t27 t26 t25 t24 t23_2 t22 t21 t20 t19 t18 t17 w19) ∧
    (∀ D6 : Nat → Bool, D6 7 = false → ∀ t27 t26 t25 t24 t23 t22 t21 t20 t19 t18 t17 : Value, ∀ w20 : World, A5 D6 t27 t26 t25 t24 t23 t22 t21 t20 t19 t18 t17 w20 →
      A5 (setD D6 7) t27 t26 t25 (Value.func (.func 40) #[] #[]) t23 t22 t21 t20 t19 t18 t17 w20) ∧
    (∀ D6 : Nat → Bool, D6 8 = false → D6 6 = true → D6 7 = true → ∀ t27 t26 t25 t24 t23 t22 t21 t20 t19 t18 t17 : Value, ∀ w21 : World, A5 D6 t27 t26 t25 t24 t23 t22 t21 t20 t19 t18 t17 w21 →
      Run Try.prog (sCall (Value.func (.func 43) #[] #[]) [t23, t24]) w21 fun t25_2 w22 =>
      A5 (setD D6 8) t27 t26 t25_2 t24 t23 t22 t21 t20 t19 t18 t17 w22) ∧
    (∀ D6 : Nat → Bool, D6 9 = false → D6 0 = true → D6 4 = true → D6 8 = true → D6 8 = true → ∀ t27 t26 t25 t24 t23 t22 t21 t20 t19 t18 t17 : Value, ∀ w23 : World, A5 D6 t27 t26 t25 t24 t23 t22 t21 t20 t19 t18 t17 w23 →
      Run Try.prog (sCall (Value.func (.func 42) #[] #[]) [t17, t21, t25]) w23 fun t26_2 w24 =>
      A5 (setD D6 9) t27 t26_2 t25 t24 t23 t22 t21 t20 t19 t18 t17 w24) ∧
    (∀ D6 : Nat → Bool, D6 10 = false → D6 9 = true → ∀ t27 t26 t25 t24 t23 t22 t21 t20 t19 t18 t17 : Value, ∀ w25 : World, A5 D6 t27 t26 t25 t24 t23 t22 t21 t20 t19 t18 t17 w25 →
      Run Try.prog (sOp (.unOp .not 4 (.const t26)) 4) w25 fun t27_2 w26 =>
      A5 (setD D6 10) t27_2 t26 t25 t24 t23 t22 t21 t20 t19 t18 t17 w26) ∧
    True) ∧
  ∀ D6 : Nat → Bool, D6 10 = true → D6 9 = true → D6 8 = true → D6 7 = true → D6 6 = true → D6 5 = true → D6 4 = true → D6 3 = true → D6 2 = true → D6 1 = true → D6 0 = true → ∀ t27 t26 t25 t24 t23 t22 t21 t20 t19 t18 t17 : Value, ∀ w27 : World, A5 D6 t27 t26 t25 t24 t23 t22 t21 t20 t19 t18 t17 w27 →
  CondV t27 (
    Run Try.prog (sBuild 32 []) w27 fun t28 w28 =>
    Run Try.prog (sOp (.store 32 (.const t4) (.const t28)) 0) w28 fun _u w29 =>
    (LoadV Try.prog 32 t4 w29 fun r0 => R (.returned (.tuple #[r0, (Value.bool false), (Value.bool false)])) w29)) (
    Run Try.prog (sOp (.fieldAddr 32 (.const t2) 0) 0) w27 fun t29 w30 =>
  Run Try.prog (sOp (.load 30 (.const t29)) 30) w30 fun t30 w31 =>
  Run Try.prog (sBuildSlice 28 1 [(0, t30)]) w31 fun t31 w32 =>
  Run Try.prog (sOp (.fieldAddr 32 (.const t3) 1) 0) w32 fun t32 w33 =>
  Run Try.prog (sOp (.load 28 (.const t32)) 28) w33 fun t33 w34 =>
  Run Try.prog (sBuiltin .len #[28] 3 [false] [t33]) w34 fun t34 w35 =>
  (∃ (I36 : Value → Value → World → Prop) (m37 : Value → Value → World → Nat), I36 (Value.int .i64 0) t31 w35 ∧
  ∀ t35 _ t9 _ _ _ _ _ _ _ _ _ _ : Value, ∀ w38 : World, I36 t35 t9 w38 →
  Run Try.prog (sBin .lss 3 false false t35 t34) w38 fun t36_2 w39 =>
  CondV t36_2 (
    Run Try.prog (sOp (.indexAddr 28 (.const t33) (.const t35)) 0) w39 fun t37_2 w40 =>
  Run Try.prog (sOp (.load 30 (.const t37_2)) 30) w40 fun t38_2 w41 =>
  Run Try.prog (sOp (.alloc 30) 0) w41 fun t11_2 w42 =>
  Run Try.prog (sOp (.store 30 (.const t11_2) (.const t38_2)) 0) w42 fun _u w43 =>
  Run Try.prog (sOp (.load 30 (.const t11_2)) 30) w43 fun t40_2 w44 =>
  Run Try.prog (sCall (Value.func (.func 43) #[] #[]) [t40_2, (Value.func (.func 40) #[] #[])]) w44 fun t42_2 w45 =>
  Run Try.prog (sBuildSlice 28 1 [(0, t42_2)]) w45 fun t43_2 w46 =>
  Run Try.prog (sBuiltin .append #[28, 28] 28 [false, false] [t9, t43_2]) w46 fun t44_2 w47 =>
  Run Try.prog (sBin .add 3 false true t35 (Value.int .i64 1)) w47 fun t45_2 w48 =>
  I36 t45_2 t44_2 w48 ∧ m37 t45_2 t44_2 w48 < m37 t35 t9 w38) (
    Run Try.prog (sOp (.fieldAddr 32 (.const t2) 1) 0) w39 fun t47 w49 =>
  Run Try.prog (sOp (.load 28 (.const t47)) 28) w49 fun t48 w50 =>
  Run Try.prog (sOp (.slice 28 (.const t48) (some (.const (Value.int .i64 1))) none none) 28) w50 fun t49 w51 =>
  Run Try.prog (sBuiltin .append #[28, 28] 28 [false, false] [t9, t49]) w51 fun t50 w52 =>
  Run Try.prog (sBuiltin .len #[28] 3 [false] [t50]) w52 fun t52 w53 =>
  (∃ (I54 : Value → World → Prop) (m55 : Value → World → Nat), I54 (Value.int .i64 0) w53 ∧
  ∀ t53 _ _ _ _ _ t6 t5 _ _ _ _ _ _ _ _ _ _ _ _ _ _ _ _ _ : Value, ∀ w56 : World, I54 t53 w56 →
  Run Try.prog (sBin .lss 3 false false t53 t52) w56 fun t54_2 w57 =>
  CondV t54_2 (
    Run Try.prog (sOp (.indexAddr 28 (.const t50) (.const t53)) 0) w57 fun t56_2 w58 =>
  Run Try.prog (sOp (.load 30 (.const t56_2)) 30) w58 fun t57_2 w59 =>
  Run Try.prog (sOp (.alloc 30) 0) w59 fun t13_2 w60 =>
  Run Try.prog (sOp (.store 30 (.const t13_2) (.const t57_2)) 0) w60 fun _u w61 =>
  Run Try.prog (sOp (.load 30 (.const t13_2)) 30) w61 fun t60_2 w62 =>
  Run Try.prog (sCall (Value.func (.func 44) #[] #[]) [t16, t60_2]) w62 fun t61_2 w63 =>
  Run Try.prog (sOp (.extract (.const t61_2) 0) 30) w63 fun t62_2 w64 =>
  Run Try.prog (sOp (.extract (.const t61_2) 1) 4) w64 fun t63_2 w65 =>
  Run Try.prog (sOp (.alloc 30) 0) w65 fun t14_2 w66 =>
  Run Try.prog (sOp (.store 30 (.const t14_2) (.const t62_2)) 0) w66 fun _u w67 =>
  Run Try.prog (sOp (.unOp .not 4 (.const t63_2)) 4) w67 fun t65_2 w68 =>
  CondV t65_2 (
    Run Try.prog (sBuild 32 []) w68 fun t66_2 w69 =>
    Run Try.prog (sOp (.store 32 (.const t4) (.const t66_2)) 0) w69 fun _u w70 =>
    (LoadV Try.prog 32 t4 w70 fun r0 => R (.returned (.tuple #[r0, (Value.bool true), (Value.bool false)])) w70)) (
    Run Try.prog (sOp (.load 30 (.const t14_2)) 30) w68 fun t69_2 w71 =>
  Run Try.prog (sOp (.indexAddr 28 (.const t50) (.const t53)) 0) w71 fun t70_2 w72 =>
  Run Try.prog (sOp (.store 30 (.const t70_2) (.const t69_2)) 0) w72 fun _u w73 =>
  Run Try.prog (sBin .add 3 false true t53 (Value.int .i64 1)) w73 fun t71_2 w74 =>
  I54 t71_2 w74 ∧ m55 t71_2 w74 < m55 t53 w56)) (
    (∃ A75 : (Nat → Bool) → Value → Value → Value → Value → Value → Value → Value → World → Prop, A75 (fun _ => false) undef undef undef undef undef undef undef { w57 with drawn := w57.drawn + 1 } ∧ (
    (∀ D76 : Nat → Bool, D76 0 = false → ∀ t78 t77 t76 t75 t74 t73 t72 : Value, ∀ w77 : World, A75 D76 t78 t77 t76 t75 t74 t73 t72 w77 →
      A75 (setD D76 0) t78 t77 t76 t75 t74 t73 t50 w77) ∧
    (∀ D76 : Nat → Bool, D76 1 = false → D76 0 = true → ∀ t78 t77 t76 t75 t74 t73 t72 : Value, ∀ w78 : World, A75 D76 t78 t77 t76 t75 t74 t73 t72 w78 →
      Run Try.prog (sOp (.indexAddr 28 (.const t72) (.const (Value.int .i64 0))) 0) w78 fun t73_2 w79 =>
      A75 (setD D76 1) t78 t77 t76 t75 t74 t73_2 t72 w79) ∧
    (∀ D76 : Nat → Bool, D76 2 = false → D76 1 = true → ∀ t78 t77 t76 t75 t74 t73 t72 : Value, ∀ w80 : World, A75 D76 t78 t77 t76 t75 t74 t73 t72 w80 →
      Run Try.prog (sOp (.load 30 (.const t73)) 30) w80 fun t74_2 w81 =>
      A75 (setD D76 2) t78 t77 t76 t75 t74_2 t73 t72 w81) ∧
    (∀ D76 : Nat → Bool, D76 3 = false → ∀ t78 t77 t76 t75 t74 t73 t72 : Value, ∀ w82 : World, A75 D76 t78 t77 t76 t75 t74 t73 t72 w82 →
      A75 (setD D76 3) t78 t77 t76 t50 t74 t73 t72 w82) ∧
    (∀ D76 : Nat → Bool, D76 4 = false → D76 3 = true → ∀ t78 t77 t76 t75 t74 t73 t72 : Value, ∀ w83 : World, A75 D76 t78 t77 t76 t75 t74 t73 t72 w83 →
      Run Try.prog (sOp (.slice 28 (.const t75) (some (.const (Value.int .i64 1))) none none) 28) w83 fun t76_2 w84 =>
      A75 (setD D76 4) t78 t77 t76_2 t75 t74 t73 t72 w84) ∧
    (∀ D76 : Nat → Bool, D76 5 = false → D76 2 = true → D76 4 = true → ∀ t78 t77 t76 t75 t74 t73 t72 : Value, ∀ w85 : World, A75 D76 t78 t77 t76 t75 t74 t73 t72 w85 →
      Run Try.prog (sBuild 32 [(0, t74), (1, t76)]) w85 fun t77_2 w86 =>
      A75 (setD D76 5) t78 t77_2 t76 t75 t74 t73 t72 w86) ∧
    (∀ D76 : Nat → Bool, D76 6 = false → D76 5 = true → ∀ t78 t77 t76 t75 t74 t73 t72 : Value, ∀ w87 : World, A75 D76 t78 t77 t76 t75 t74 t73 t72 w87 →
      Run Try.prog (sCall (Value.func (.func 45) #[] #[]) [t77]) w87 fun t78_2 w88 =>
      A75 (setD D76 6) t78_2 t77 t76 t75 t74 t73 t72 w88) ∧
    (∀ D76 : Nat → Bool, D76 7 = false → D76 6 = true → D76 6 = true → D76 0 = true → D76 1 = true → D76 2 = true → D76 3 = true → D76 4 = true → D76 5 = true → D76 6 = true → ∀ t78 t77 t76 t75 t74 t73 t72 : Value, ∀ w89 : World, A75 D76 t78 t77 t76 t75 t74 t73 t72 w89 →
      Run Try.prog (sOp (.store 32 (.const t4) (.const t78)) 0) w89 fun _u w90 =>
      A75 (setD D76 7) t78 t77 t76 t75 t74 t73 t72 w90) ∧
    True) ∧
  ∀ D76 : Nat → Bool, D76 7 = true → D76 6 = true → D76 5 = true → D76 4 = true → D76 3 = true → D76 2 = true → D76 1 = true → D76 0 = true → ∀ t78 t77 t76 t75 t74 t73 t72 : Value, ∀ w91 : World, A75 D76 t78 t77 t76 t75 t74 t73 t72 w91 →
  (∃ A92 : (Nat → Bool) → Value → Value → Value → Value → Value → Value → World → Prop, A92 (fun _ => false) t6 t5 undef undef undef undef { w91 with drawn := w91.drawn + 1 } ∧ (
    (∀ D93 : Nat → Bool, D93 0 = false → ∀ t6_2 t5_2 t82 t81 t80 t79 : Value, ∀ w94 : World, A92 D93 t6_2 t5_2 t82 t81 t80 t79 w94 →
      Run Try.prog (sOp (.load 32 (.const t4)) 32) w94 fun t79_2 w95 =>
      A92 (setD D93 0) t6_2 t5_2 t82 t81 t80 t79_2 w95) ∧
    (∀ D93 : Nat → Bool, D93 1 = false → D93 0 = true → ∀ t6_2 t5_2 t82 t81 t80 t79 : Value, ∀ w96 : World, A92 D93 t6_2 t5_2 t82 t81 t80 t79 w96 →
      Run Try.prog (sCall (Value.func (.func 46) #[] #[]) [t79]) w96 fun t80_2 w97 =>
      A92 (setD D93 1) t6_2 t5_2 t82 t81 t80_2 t79 w97) ∧
    (∀ D93 : Nat → Bool, D93 2 = false → ∀ t6_2 t5_2 t82 t81 t80 t79 : Value, ∀ w98 : World, A92 D93 t6_2 t5_2 t82 t81 t80 t79 w98 →
      Run Try.prog (sOp (.load 32 (.const t4)) 32) w98 fun t81_2 w99 =>
      A92 (setD D93 2) t6_2 t5_2 t82 t81_2 t80 t79 w99) ∧
    (∀ D93 : Nat → Bool, D93 3 = false → D93 2 = true → D93 1 = true → ∀ t6_2 t5_2 t82 t81 t80 t79 : Value, ∀ w100 : World, A92 D93 t6_2 t5_2 t82 t81 t80 t79 w100 →
      Run Try.prog (sCall (Value.func (.func 19) #[] #[]) [t81]) w100 fun t82_2 w101 =>
      A92 (setD D93 3) t6_2 t5_2 t82_2 t81 t80 t79 w101) ∧
    (∀ D93 : Nat → Bool, D93 4 = false → D93 1 = true → D93 3 = true → D93 0 = true → D93 1 = true → D93 2 = true → ∀ t6_2 t5_2 t82 t81 t80 t79 : Value, ∀ w102 : World, A92 D93 t6_2 t5_2 t82 t81 t80 t79 w102 →
      Run Try.prog (sOp (.store 32 (.const t4) (.const t80)) 0) w102 fun _ w103 =>
      A92 (setD D93 4) t6_2 t5_2 t82 t81 t80 t79 w103) ∧
    (∀ D93 : Nat → Bool, D93 5 = false → D93 4 = true → D93 0 = true → D93 1 = true → D93 2 = true → D93 4 = true → ∀ t6_2 t5_2 t82 t81 t80 t79 : Value, ∀ w104 : World, A92 D93 t6_2 t5_2 t82 t81 t80 t79 w104 →
      A92 (setD D93 5) t6_2 (Value.bool true) t82 t81 t80 t79 w104) ∧
    (∀ D93 : Nat → Bool, D93 6 = false → D93 3 = true → D93 5 = true → D93 0 = true → D93 1 = true → D93 2 = true → D93 3 = true → D93 4 = true → D93 5 = true → ∀ t6_2 t5_2 t82 t81 t80 t79 : Value, ∀ w105 : World, A92 D93 t6_2 t5_2 t82 t81 t80 t79 w105 →
      A92 (setD D93 6) t82 t5_2 t82 t81 t80 t79 w105) ∧
    True) ∧
  ∀ D93 : Nat → Bool, D93 6 = true → D93 5 = true → D93 4 = true → D93 3 = true → D93 2 = true → D93 1 = true → D93 0 = true → ∀ t6_2 t5_2 t82 t81 t80 t79 : Value, ∀ w106 : World, A92 D93 t6_2 t5_2 t82 t81 t80 t79 w106 →
  (LoadV Try.prog 32 t4 w106 fun r0 => R (.returned (.tuple #[r0, t5_2, t6_2])) w106)))))))))
theorem calls_i_resolvent {p0 p1 : Value} {w : World} {R : Ending → World → Prop} (h : sh_i_resolvent p0 p1 w R) : Calls Try.prog 21 #[p0, p1] w R :=
  calls_sh (.seq none .leaf (.seq none .leaf (.seq none .leaf (.seq none .leaf (.seq none .leaf (.seq none (.seq none .leaf (.one (.loop [35, 9] .leaf))) (.seq none .leaf (.seq none (.seq none .leaf (.one (.loop [53] .leaf))) .leaf)))))))) [p0, p1] mixed Try.func21 (by kernel_rfl) (by kernel_rfl) h


/- loop.example/prologserver/laws.eqTerm : function 22 -/
def sh_l_eqTerm (p0 p1 : Value) (w : World) (R : Ending → World → Prop) : Prop :=
  Run Try.prog (sOp (.box 30 (.const p0)) 0) w fun t2 w1 =>
  Run Try.prog (sOp (.box 30 (.const p1)) 0) w1 fun t3 w2 =>
  Run Try.prog (sOp (.fieldAddr 30 (.const t2) 0) 0) w2 fun t5 w3 =>
  Run Try.prog (sOp (.load 3 (.const t5)) 3) w3 fun t6 w4 =>
  Run Try.prog (sOp (.fieldAddr 30 (.const t3) 0) 0) w4 fun t7 w5 =>
  Run Try.prog (sOp (.load 3 (.const t7)) 3) w5 fun t8 w6 =>
  Run Try.prog (sBin .neq 3 false false t6 t8) w6 fun t9 w7 =>
  CondV t9 (
    R (.returned (Value.bool false)) w7) (
    Run Try.prog (sOp (.fieldAddr 30 (.const t2) 1) 0) w7 fun t10 w8 =>
  Run Try.prog (sOp (.load 3 (.const t10)) 3) w8 fun t11 w9 =>
  Run Try.prog (sOp (.fieldAddr 30 (.const t3) 1) 0) w9 fun t12 w10 =>
  Run Try.prog (sOp (.load 3 (.const t12)) 3) w10 fun t13 w11 =>
  Run Try.prog (sBin .neq 3 false false t11 t13) w11 fun t14 w12 =>
  CondV t14 (
    R (.returned (Value.bool false)) w12) (
    Run Try.prog (sOp (.fieldAddr 30 (.const t2) 2) 0) w12 fun t15 w13 =>
  Run Try.prog (sOp (.load 9 (.const t15)) 9) w13 fun t16 w14 =>
  Run Try.prog (sOp (.fieldAddr 30 (.const t3) 2) 0) w14 fun t17 w15 =>
  Run Try.prog (sOp (.load 9 (.const t17)) 9) w15 fun t18 w16 =>
  Run Try.prog (sBin .neq 9 false false t16 t18) w16 fun t19 w17 =>
  CondV t19 (
    R (.returned (Value.bool false)) w17) (
    Run Try.prog (sOp (.fieldAddr 30 (.const t2) 3) 0) w17 fun t20 w18 =>
  Run Try.prog (sOp (.load 28 (.const t20)) 28) w18 fun t21 w19 =>
  Run Try.prog (sOp (.fieldAddr 30 (.const t3) 3) 0) w19 fun t22 w20 =>
  Run Try.prog (sOp (.load 28 (.const t22)) 28) w20 fun t23 w21 =>
  Run Try.prog (sCall (Value.func (.func 23) #[] #[]) [t21, t23]) w21 fun t24 w22 =>
  Run Try.prog (sOp (.unOp .not 4 (.const t24)) 4) w22 fun t25 w23 =>
  CondV t25 (
    R (.returned (Value.bool false)) w23) (
    R (.returned (Value.bool true)) w23))))
theorem calls_l_eqTerm {p0 p1 : Value} {w : World} {R : Ending → World → Prop} (h : sh_l_eqTerm p0 p1 w R) : Calls Try.prog 22 #[p0, p1] w R :=
  calls_sh .leaf [p0, p1] mixed Try.func22 (by kernel_rfl) (by kernel_rfl) h


/- loop.example/prologserver/laws.eqTermS : function 23 -/
def sh_l_eqTermS (p0 p1 : Value) (w : World) (R : Ending → World → Prop) : Prop :=
  Run Try.prog (sBuiltin .len #[28] 3 [false] [p0]) w fun t7 w1 =>
  Run Try.prog (sBuiltin .len #[28] 3 [false] [p1]) w1 fun t9 w2 =>
  Run Try.prog (sBin .neq 3 false false t7 t9) w2 fun t10 w3 =>
  CondV t10 (
    R (.returned (Value.bool false)) w3) (
    (∃ (I4 : Value → World → Prop) (m5 : Value → World → Nat), I4 (Value.int .i64 0) w3 ∧
  ∀ t5 _ _ _ t26 t25 t24 t23 t22 t21 t20 t19 t18 t17 _ _ _ _ : Value, ∀ w6 : World, I4 t5 w6 →
  Run Try.prog (sBuiltin .len #[28] 3 [false] [p0]) w6 fun t13_2 w7 =>
  Run Try.prog (sBin .lss 3 false false t5 t13_2) w7 fun t14_2 w8 =>
  CondV t14_2 (
    (∃ A9 : (Nat → Bool) → Value → Value → Value → Value → Value → Value → Value → Value → Value → Value → World → Prop, A9 (fun _ => false) t26 t25 t24 t23 t22 t21 t20 t19 t18 t17 { w8 with drawn := w8.drawn + 1 } ∧ (
    (∀ D10 : Nat → Bool, D10 0 = false → ∀ t26_2 t25_2 t24_2 t23_2 t22_2 t21_2 t20_2 t19_2 t18_2 t17_2 : Value, ∀ w11 : World, A9 D10 t26_2 t25_2 t24_2 t23_2 t22_2 t21_2 t20_2 t19_2 t18_2 t17_2 w11 →
      A9 (setD D10 0) t26_2 t25_2 t24_2 t23_2 t22_2 t21_2 t20_2 t19_2 t18_2 p0 w11) ∧
    (∀ D10 : Nat → Bool, D10 1 = false → ∀ t26_2 t25_2 t24_2 t23_2 t22_2 t21_2 t20_2 t19_2 t18_2 t17_2 : Value, ∀ w12 : World, A9 D10 t26_2 t25_2 t24_2 t23_2 t22_2 t21_2 t20_2 t19_2 t18_2 t17_2 w12 →
      A9 (setD D10 1) t26_2 t25_2 t24_2 t23_2 t22_2 t21_2 t20_2 t19_2 t5 t17_2 w12) ∧
    (∀ D10 : Nat → Bool, D10 2 = false → D10 0 = true → D10 1 = true → ∀ t26_2 t25_2 t24_2 t23_2 t22_2 t21_2 t20_2 t19_2 t18_2 t17_2 : Value, ∀ w13 : World, A9 D10 t26_2 t25_2 t24_2 t23_2 t22_2 t21_2 t20_2 t19_2 t18_2 t17_2 w13 →
      Run Try.prog (sOp (.indexAddr 28 (.const t17_2) (.const t18_2)) 0) w13 fun t19_3 w14 =>
      A9 (setD D10 2) t26_2 t25_2 t24_2 t23_2 t22_2 t21_2 t20_2 t19_3 t18_2 t17_2 w14) ∧
    (∀ D10 : Nat → Bool, D10 3 = false → D10 2 = true → ∀ t26_2 t25_2 t24_2 t23_2 t22_2 t21_2 t20_2 t19_2 t18_2 t17_2 : Value, ∀ w15 : World, A9 D10 t26_2 t25_2 t24_2 t23_2 t22_2 t21_2 t20_2 t19_2 t18_2 t17_2 w15 →
      Run Try.prog (sOp (.load 30 (.const t19_2)) 30) w15 fun t20_3 w16 =>
      A9 (setD D10 3) t26_2 t25_2 t24_2 t23_2 t22_2 t21_2 t20_3 t19_2 t18_2 t17_2 w16) ∧
    (∀ D10 : Nat → Bool, D10 4 = false → ∀ t26_2 t25_2 t24_2 t23_2 t22_2 t21_2 t20_2 t19_2 t18_2 t17_2 : Value, ∀ w17 : World, A9 D10 t26_2 t25_2 t24_2 t23_2 t22_2 t21_2 t20_2 t19_2 t18_2 t17_2 w17 →
      A9 (setD D10 4) t26_2 t25_2 t24_2 t23_2 t22_2 p1 t20_2 t19_2 t18_2 t17_2 w17) ∧
    (∀ D10 : Nat → Bool, D10 5 = false → ∀ t26_2 t25_2 t24_2 t23_2 t22_2 t21_2 t20_2 t19_2 t18_2 t17_2 : Value, ∀ w18 : World, A9 D10 t26_2 t25_2 t24_2 t23_2 t22_2 t21_2 t20_2 t19_2 t18_2 t17_2 w18 →
      A9 (setD D10 5) t26_2 t25_2 t24_2 t23_2 t5 t21_2 t20_2 t19_2 t18_2 t17_2 w18) ∧
    (∀ D10 : Nat → Bool, D10 6 = false → D10 4 = true → D10 5 = true → ∀ t26_2 t25_2 t24_2 t23_2 t22_2 t21_2 t20_2 t19_2 t18_2 t17_2 : Value, ∀ w19 : World, A9 D10 t26_2 t25_2 t24_2 t23_2 t22_2 t21_2 t20_2 t19_2 t18_2 t17_2 w19 →
      Run Try.prog (sOp (.indexAddr 28 (.const t21_2) (.const t22_2)) 0) w19 fun t23_3 w20 =>
      A9 (setD D10 6) t26_2 t25_2 t24_2 t23_3 t22_2 t21_2 t20_2 t19_2 t18_2 t17_2 w20) ∧
    (∀ D10 : Nat → Bool, D10 7 = false → D10 6 = true → ∀ t26_2 t25_2 t24_2 t23_2 t22_2 t21_2 t20_2 t19_2 t18_2 t17_2 : Value, ∀ w21 : World, A9 D10 t26_2 t25_2 t24_2 t23_2 t22_2 t21_2 t20_2 t19_2 t18_2 t17_2 w21 →
      Run Try.prog (sOp (.load 30 (.const t23_2)) 30) w21 fun t24_3 w22 =>
      A9 (setD D10 7) t26_2 t25_2 t24_3 t23_2 t22_2 t21_2 t20_2 t19_2 t18_2 t17_2 w22) ∧
    (∀ D10 : Nat → Bool, D10 8 = false → D10 3 = true → D10 7 = true → ∀ t26_2 t25_2 t24_2 t23_2 t22_2 t21_2 t20_2 t19_2 t18_2 t17_2 : Value, ∀ w23 : World, A9 D10 t26_2 t25_2 t24_2 t23_2 t22_2 t21_2 t20_2 t19_2 t18_2 t17_2 w23 →
      Run Try.prog (sCall (Value.func (.func 22) #[] #[]) [t20_2, t24_2]) w23 fun t25_3 w24 =>
      A9 (setD D10 8) t26_2 t25_3 t24_2 t23_2 t22_2 t21_2 t20_2 t19_2 t18_2 t17_2 w24) ∧
    (∀ D10 : Nat → Bool, D10 9 = false → D10 8 = true → ∀ t26_2 t25_2 t24_2 t23_2 t22_2 t21_2 t20_2 t19_2 t18_2 t17_2 : Value, ∀ w25 : World, A9 D10 t26_2 t25_2 t24_2 t23_2 t22_2 t21_2 t20_2 t19_2 t18_2 t17_2 w25 →
      Run Try.prog (sOp (.unOp .not 4 (.const t25_2)) 4) w25 fun t26_3 w26 =>
      A9 (setD D10 9) t26_3 t25_2 t24_2 t23_2 t22_2 t21_2 t20_2 t19_2 t18_2 t17_2 w26) ∧
    True) ∧
  ∀ D10 : Nat → Bool, D10 9 = true → D10 8 = true → D10 7 = true → D10 6 = true → D10 5 = true → D10 4 = true → D10 3 = true → D10 2 = true → D10 1 = true → D10 0 = true → ∀ t26_2 t25_2 t24_2 t23_2 t22_2 t21_2 t20_2 t19_2 t18_2 t17_2 : Value, ∀ w27 : World, A9 D10 t26_2 t25_2 t24_2 t23_2 t22_2 t21_2 t20_2 t19_2 t18_2 t17_2 w27 →
  CondV t26_2 (
    R (.returned (Value.bool false)) w27) (
    Run Try.prog (sBin .add 3 false true t5 (Value.int .i64 1)) w27 fun t16_2 w28 =>
  I4 t16_2 w28 ∧ m5 t16_2 w28 < m5 t5 w6))) (
    R (.returned (Value.bool true)) w8)))
theorem calls_l_eqTermS {p0 p1 : Value} {w : World} {R : Ending → World → Prop} (h : sh_l_eqTermS p0 p1 w R) : Calls Try.prog 23 #[p0, p1] w R :=
  calls_sh (.seq none .leaf (.seq none .leaf (.seq none (.seq none .leaf (.one (.loop [5] .leaf))) .leaf))) [p0, p1] mixed Try.func23 (by kernel_rfl) (by kernel_rfl) h


/- loop.example/prologserver/laws.markTerm : function 24 -/
def sh_l_markTerm (p0 p1 : Value) (w : World) (R : Ending → World → Prop) : Prop :=
  Run Try.prog (sOp (.box 30 (.const p0)) 0) w fun t2 w1 =>
  Run Try.prog (sOp (.fieldAddr 30 (.const t2) 3) 0) w1 fun t5 w2 =>
  Run Try.prog (sOp (.load 28 (.const t5)) 28) w2 fun t6 w3 =>
  Run Try.prog (sCall (Value.func (.func 25) #[] #[]) [t6, p1]) w3 fun t8 w4 =>
  R (.returned t8) w4
theorem calls_l_markTerm {p0 p1 : Value} {w : World} {R : Ending → World → Prop} (h : sh_l_markTerm p0 p1 w R) : Calls Try.prog 24 #[p0, p1] w R :=
  calls_sh .leaf [p0, p1] mixed Try.func24 (by kernel_rfl) (by kernel_rfl) h


/- loop.example/prologserver/laws.markTermS : function 25 -/
def sh_l_markTermS (p0 p1 : Value) (w : World) (R : Ending → World → Prop) : Prop :=
  (∃ (I1 : Value → Value → World → Prop) (m2 : Value → Value → World → Nat), I1 (Value.int .i64 0) p1 w ∧
  ∀ t5 _ _ _ _ _ _ _ _ _ _ _ _ _ _ _ _ _ _ _ _ _ _ _ _ t1 _ _ _ _ _ _ _ _ _ _ _ : Value, ∀ w3 : World, I1 t5 t1 w3 →
  Run Try.prog (sBuiltin .len #[28] 3 [false] [p0]) w3 fun t8_2 w4 =>
  Run Try.prog (sBin .lss 3 false false t5 t8_2) w4 fun t9_2 w5 =>
  CondV t9_2 (
    Run Try.prog (sOp (.indexAddr 28 (.const p0) (.const t5)) 0) w5 fun t15_2 w6 =>
  Run Try.prog (sOp (.fieldAddr 30 (.const t15_2) 0) 0) w6 fun t16_2 w7 =>
  Run Try.prog (sOp (.store 3 (.const t16_2) (.const t1)) 0) w7 fun _u w8 =>
  Run Try.prog (sBin .add 3 false true t1 (Value.int .i64 1)) w8 fun t18_2 w9 =>
  Run Try.prog (sOp (.indexAddr 28 (.const p0) (.const t5)) 0) w9 fun t22_2 w10 =>
  Run Try.prog (sOp (.fieldAddr 30 (.const t22_2) 1) 0) w10 fun t23_2 w11 =>
  Run Try.prog (sOp (.store 3 (.const t23_2) (.const t18_2)) 0) w11 fun _u w12 =>
  Run Try.prog (sBin .add 3 false true t18_2 (Value.int .i64 1)) w12 fun t25_2 w13 =>
  Run Try.prog (sCall (Value.func (.func 47) #[] #[]) [t25_2]) w13 fun t29_2 w14 =>
  Run Try.prog (sOp (.indexAddr 28 (.const p0) (.const t5)) 0) w14 fun t30_2 w15 =>
  Run Try.prog (sOp (.fieldAddr 30 (.const t30_2) 2) 0) w15 fun t31_2 w16 =>
  Run Try.prog (sOp (.store 9 (.const t31_2) (.const t29_2)) 0) w16 fun _ w17 =>
  Run Try.prog (sBin .add 3 false true t25_2 (Value.int .i64 1)) w17 fun t33_2 w18 =>
  Run Try.prog (sOp (.indexAddr 28 (.const p0) (.const t5)) 0) w18 fun t36_2 w19 =>
  Run Try.prog (sOp (.fieldAddr 30 (.const t36_2) 3) 0) w19 fun t37_2 w20 =>
  Run Try.prog (sOp (.load 28 (.const t37_2)) 28) w20 fun t38_2 w21 =>
  Run Try.prog (sCall (Value.func (.func 25) #[] #[]) [t38_2, t33_2]) w21 fun t40_2 w22 =>
  Run Try.prog (sBin .add 3 false true t5 (Value.int .i64 1)) w22 fun t11_2 w23 =>
  I1 t11_2 t40_2 w23 ∧ m2 t11_2 t40_2 w23 < m2 t5 t1 w3) (
    R (.returned t1) w5))
theorem calls_l_markTermS {p0 p1 : Value} {w : World} {R : Ending → World → Prop} (h : sh_l_markTermS p0 p1 w R) : Calls Try.prog 25 #[p0, p1] w R :=
  calls_sh (.seq none .leaf (.seq none (.seq none .leaf (.one (.loop [5, 1] .leaf))) .leaf)) [p0, p1] mixed Try.func25 (by kernel_rfl) (by kernel_rfl) h


/- loop.example/prologserver/laws.heldTerm : function 26 -/
def sh_l_heldTerm (p0 p1 : Value) (w : World) (R : Ending → World → Prop) : Prop :=
  Run Try.prog (sOp (.box 30 (.const p0)) 0) w fun t2 w1 =>
  Run Try.prog (sOp (.fieldAddr 30 (.const t2) 3) 0) w1 fun t5 w2 =>
  Run Try.prog (sOp (.load 28 (.const t5)) 28) w2 fun t6 w3 =>
  Run Try.prog (sCall (Value.func (.func 27) #[] #[]) [t6, p1]) w3 fun t8 w4 =>
  Run Try.prog (sBin .lss 3 false true t8 (Value.int .i64 0)) w4 fun t10 w5 =>
  CondV t10 (
    R (.returned (Value.int .i64 (-1))) w5) (
    R (.returned t8) w5)
theorem calls_l_heldTerm {p0 p1 : Value} {w : World} {R : Ending → World → Prop} (h : sh_l_heldTerm p0 p1 w R) : Calls Try.prog 26 #[p0, p1] w R :=
  calls_sh .leaf [p0, p1] mixed Try.func26 (by kernel_rfl) (by kernel_rfl) h


/- loop.example/prologserver/laws.heldTermS : function 27 -/
def sh_l_heldTermS (p0 p1 : Value) (w : World) (R : Ending → World → Prop) : Prop :=
  (∃ (I1 : Value → Value → World → Prop) (m2 : Value → Value → World → Nat), I1 (Value.int .i64 0) p1 w ∧
  ∀ t5 _ _ _ _ _ _ _ _ _ _ _ _ _ t37 t36 t35 t34 t33 t32 t31 t30 _ _ _ _ _ _ _ _ _ t1 _ _ _ _ _ _ _ _ _ _ _ _ _ _ : Value, ∀ w3 : World, I1 t5 t1 w3 →
  Run Try.prog (sBuiltin .len #[28] 3 [false] [p0]) w3 fun t8_2 w4 =>
  Run Try.prog (sBin .lss 3 false false t5 t8_2) w4 fun t9_2 w5 =>
  CondV t9_2 (
    Run Try.prog (sOp (.indexAddr 28 (.const p0) (.const t5)) 0) w5 fun t14_2 w6 =>
  Run Try.prog (sOp (.fieldAddr 30 (.const t14_2) 0) 0) w6 fun t15_2 w7 =>
  Run Try.prog (sOp (.load 3 (.const t15_2)) 3) w7 fun t16_2 w8 =>
  Run Try.prog (sBin .neq 3 false false t16_2 t1) w8 fun t18_2 w9 =>
  CondV t18_2 (
    R (.returned (Value.int .i64 (-1))) w9) (
    Run Try.prog (sBin .add 3 false true t1 (Value.int .i64 1)) w9 fun t20_2 w10 =>
  Run Try.prog (sOp (.indexAddr 28 (.const p0) (.const t5)) 0) w10 fun t23_2 w11 =>
  Run Try.prog (sOp (.fieldAddr 30 (.const t23_2) 1) 0) w11 fun t24_2 w12 =>
  Run Try.prog (sOp (.load 3 (.const t24_2)) 3) w12 fun t25_2 w13 =>
  Run Try.prog (sBin .neq 3 false false t25_2 t20_2) w13 fun t27_2 w14 =>
  CondV t27_2 (
    R (.returned (Value.int .i64 (-1))) w14) (
    Run Try.prog (sBin .add 3 false true t20_2 (Value.int .i64 1)) w14 fun t29_2 w15 =>
  (∃ A16 : (Nat → Bool) → Value → Value → Value → Value → Value → Value → Value → Value → World → Prop, A16 (fun _ => false) t37 t36 t35 t34 t33 t32 t31 t30 { w15 with drawn := w15.drawn + 1 } ∧ (
    (∀ D17 : Nat → Bool, D17 0 = false → ∀ t37_2 t36_2 t35_2 t34_2 t33_2 t32_2 t31_2 t30_2 : Value, ∀ w18 : World, A16 D17 t37_2 t36_2 t35_2 t34_2 t33_2 t32_2 t31_2 t30_2 w18 →
      A16 (setD D17 0) t37_2 t36_2 t35_2 t34_2 t33_2 t32_2 t31_2 p0 w18) ∧
    (∀ D17 : Nat → Bool, D17 1 = false → ∀ t37_2 t36_2 t35_2 t34_2 t33_2 t32_2 t31_2 t30_2 : Value, ∀ w19 : World, A16 D17 t37_2 t36_2 t35_2 t34_2 t33_2 t32_2 t31_2 t30_2 w19 →
      A16 (setD D17 1) t37_2 t36_2 t35_2 t34_2 t33_2 t32_2 t5 t30_2 w19) ∧
    (∀ D17 : Nat → Bool, D17 2 = false → D17 0 = true → D17 1 = true → ∀ t37_2 t36_2 t35_2 t34_2 t33_2 t32_2 t31_2 t30_2 : Value, ∀ w20 : World, A16 D17 t37_2 t36_2 t35_2 t34_2 t33_2 t32_2 t31_2 t30_2 w20 →
      Run Try.prog (sOp (.indexAddr 28 (.const t30_2) (.const t31_2)) 0) w20 fun t32_3 w21 =>
      A16 (setD D17 2) t37_2 t36_2 t35_2 t34_2 t33_2 t32_3 t31_2 t30_2 w21) ∧
    (∀ D17 : Nat → Bool, D17 3 = false → D17 2 = true → ∀ t37_2 t36_2 t35_2 t34_2 t33_2 t32_2 t31_2 t30_2 : Value, ∀ w22 : World, A16 D17 t37_2 t36_2 t35_2 t34_2 t33_2 t32_2 t31_2 t30_2 w22 →
      Run Try.prog (sOp (.fieldAddr 30 (.const t32_2) 2) 0) w22 fun t33_3 w23 =>
      A16 (setD D17 3) t37_2 t36_2 t35_2 t34_2 t33_3 t32_2 t31_2 t30_2 w23) ∧
    (∀ D17 : Nat → Bool, D17 4 = false → D17 3 = true → ∀ t37_2 t36_2 t35_2 t34_2 t33_2 t32_2 t31_2 t30_2 : Value, ∀ w24 : World, A16 D17 t37_2 t36_2 t35_2 t34_2 t33_2 t32_2 t31_2 t30_2 w24 →
      Run Try.prog (sOp (.load 9 (.const t33_2)) 9) w24 fun t34_3 w25 =>
      A16 (setD D17 4) t37_2 t36_2 t35_2 t34_3 t33_2 t32_2 t31_2 t30_2 w25) ∧
    (∀ D17 : Nat → Bool, D17 5 = false → ∀ t37_2 t36_2 t35_2 t34_2 t33_2 t32_2 t31_2 t30_2 : Value, ∀ w26 : World, A16 D17 t37_2 t36_2 t35_2 t34_2 t33_2 t32_2 t31_2 t30_2 w26 →
      A16 (setD D17 5) t37_2 t36_2 t29_2 t34_2 t33_2 t32_2 t31_2 t30_2 w26) ∧
    (∀ D17 : Nat → Bool, D17 6 = false → D17 5 = true → ∀ t37_2 t36_2 t35_2 t34_2 t33_2 t32_2 t31_2 t30_2 : Value, ∀ w27 : World, A16 D17 t37_2 t36_2 t35_2 t34_2 t33_2 t32_2 t31_2 t30_2 w27 →
      Run Try.prog (sCall (Value.func (.func 47) #[] #[]) [t35_2]) w27 fun t36_3 w28 =>
      A16 (setD D17 6) t37_2 t36_3 t35_2 t34_2 t33_2 t32_2 t31_2 t30_2 w28) ∧
    (∀ D17 : Nat → Bool, D17 7 = false → D17 4 = true → D17 6 = true → ∀ t37_2 t36_2 t35_2 t34_2 t33_2 t32_2 t31_2 t30_2 : Value, ∀ w29 : World, A16 D17 t37_2 t36_2 t35_2 t34_2 t33_2 t32_2 t31_2 t30_2 w29 →
      Run Try.prog (sBin .neq 9 false false t34_2 t36_2) w29 fun t37_3 w30 =>
      A16 (setD D17 7) t37_3 t36_2 t35_2 t34_2 t33_2 t32_2 t31_2 t30_2 w30) ∧
    True) ∧
  ∀ D17 : Nat → Bool, D17 7 = true → D17 6 = true → D17 5 = true → D17 4 = true → D17 3 = true → D17 2 = true → D17 1 = true → D17 0 = true → ∀ t37_2 t36_2 t35_2 t34_2 t33_2 t32_2 t31_2 t30_2 : Value, ∀ w31 : World, A16 D17 t37_2 t36_2 t35_2 t34_2 t33_2 t32_2 t31_2 t30_2 w31 →
  CondV t37_2 (
    R (.returned (Value.int .i64 (-1))) w31) (
    Run Try.prog (sBin .add 3 false true t29_2 (Value.int .i64 1)) w31 fun t39_2 w32 =>
  Run Try.prog (sOp (.indexAddr 28 (.const p0) (.const t5)) 0) w32 fun t42_2 w33 =>
  Run Try.prog (sOp (.fieldAddr 30 (.const t42_2) 3) 0) w33 fun t43_2 w34 =>
  Run Try.prog (sOp (.load 28 (.const t43_2)) 28) w34 fun t44_2 w35 =>
  Run Try.prog (sCall (Value.func (.func 27) #[] #[]) [t44_2, t39_2]) w35 fun t46_2 w36 =>
  Run Try.prog (sBin .lss 3 false true t46_2 (Value.int .i64 0)) w36 fun t48_2 w37 =>
  CondV t48_2 (
    R (.returned (Value.int .i64 (-1))) w37) (
    Run Try.prog (sBin .add 3 false true t5 (Value.int .i64 1)) w37 fun t11_2 w38 =>
  I1 t11_2 t46_2 w38 ∧ m2 t11_2 t46_2 w38 < m2 t5 t1 w3)))))) (
    R (.returned t1) w5))
theorem calls_l_heldTermS {p0 p1 : Value} {w : World} {R : Ending → World → Prop} (h : sh_l_heldTermS p0 p1 w R) : Calls Try.prog 27 #[p0, p1] w R :=
  calls_sh (.seq none .leaf (.seq none (.seq none .leaf (.one (.loop [5, 1] .leaf))) .leaf)) [p0, p1] mixed Try.func27 (by kernel_rfl) (by kernel_rfl) h


/- loop.example/prologserver/spec.GoalValid : function 28 -/
def sh_s_GoalValid (p0 : Value) (w : World) (R : Ending → World → Prop) : Prop :=
  Run Try.prog (sOp (.box 30 (.const p0)) 0) w fun t1 w1 =>
  Run Try.prog (sOp (.load 30 (.const t1)) 30) w1 fun t3 w2 =>
  Run Try.prog (sCall (Value.func (.func 29) #[] #[]) [t3]) w2 fun t4 w3 =>
  GuardV t4 true (
    Run Try.prog (sOp (.load 30 (.const t1)) 30) w3 fun t6 w4 =>
    Run Try.prog (sCall (Value.func (.func 48) #[] #[]) [t6]) w4 fun t7 w5 =>
    Run Try.prog (sOp (.pick (.const t4) (.const t7) (.const (Value.bool false))) 4) w5 fun t8 w6 =>
    R (.returned t8) w6) (
    Run Try.prog (sOp (.pick (.const t4) (.const undef) (.const (Value.bool false))) 4) w3 fun t8_2 w7 =>
    R (.returned t8_2) w7)
theorem calls_s_GoalValid {p0 : Value} {w : World} {R : Ending → World → Prop} (h : sh_s_GoalValid p0 w R) : Calls Try.prog 28 #[p0] w R :=
  calls_sh .leaf [p0] mixed Try.func28 (by kernel_rfl) (by kernel_rfl) h


/- loop.example/prologserver/spec.TermValid : function 29 -/
def sh_s_TermValid (p0 : Value) (w : World) (R : Ending → World → Prop) : Prop :=
  Run Try.prog (sOp (.box 30 (.const p0)) 0) w fun t1 w1 =>
  Run Try.prog (sOp (.load 30 (.const t1)) 30) w1 fun t3 w2 =>
  Run Try.prog (sCall (Value.func (.func 49) #[] #[]) [t3, (Value.int .i64 30)]) w2 fun t4 w3 =>
  GuardV t4 true (
    Run Try.prog (sOp (.load 30 (.const t1)) 30) w3 fun t6 w4 =>
    Run Try.prog (sCall (Value.func (.func 50) #[] #[]) [t6, (Value.int .i64 120)]) w4 fun t7 w5 =>
    Run Try.prog (sBin .leq 3 false true t7 (Value.int .i64 120)) w5 fun t8 w6 =>
    Run Try.prog (sOp (.pick (.const t4) (.const t8) (.const (Value.bool false))) 4) w6 fun t9 w7 =>
    R (.returned t9) w7) (
    Run Try.prog (sOp (.pick (.const t4) (.const undef) (.const (Value.bool false))) 4) w3 fun t9_2 w8 =>
    R (.returned t9_2) w8)
theorem calls_s_TermValid {p0 : Value} {w : World} {R : Ending → World → Prop} (h : sh_s_TermValid p0 w R) : Calls Try.prog 29 #[p0] w R :=
  calls_sh .leaf [p0] mixed Try.func29 (by kernel_rfl) (by kernel_rfl) h


/- loop.example/prologserver/spec.l4Plain : function 30 -/
def sh_s_l4Plain (p0 : Value) (w : World) (R : Ending → World → Prop) : Prop :=
  Run Try.prog (sOp (.box 30 (.const p0)) 0) w fun t1 w1 =>
  Run Try.prog (sOp (.fieldAddr 30 (.const t1) 0) 0) w1 fun t3 w2 =>
  Run Try.prog (sOp (.load 3 (.const t3)) 3) w2 fun t4 w3 =>
  Run Try.prog (sBin .eql 3 false true t4 (Value.int .i64 3)) w3 fun t5 w4 =>
  GuardV t5 true (
    Run Try.prog (sOp (.fieldAddr 30 (.const t1) 2) 0) w4 fun t7 w5 =>
    Run Try.prog (sOp (.load 9 (.const t7)) 9) w5 fun t8 w6 =>
    Run Try.prog (sCall (Value.func (.func 51) #[] #[]) [t8]) w6 fun t9 w7 =>
    Run Try.prog (sOp (.pick (.const t5) (.const t9) (.const (Value.bool false))) 4) w7 fun t10 w8 =>
    GuardV t10 true (
      Run Try.prog (sOp (.fieldAddr 30 (.const t1) 2) 0) w8 fun t12 w9 =>
      Run Try.prog (sOp (.load 9 (.const t12)) 9) w9 fun t13 w10 =>
      Run Try.prog (sOp (.fieldAddr 30 (.const t1) 3) 0) w10 fun t14 w11 =>
      Run Try.prog (sOp (.load 28 (.const t14)) 28) w11 fun t15 w12 =>
      Run Try.prog (sBuiltin .len #[28] 3 [false] [t15]) w12 fun t16 w13 =>
      Run Try.prog (sCall (Value.func (.func 52) #[] #[]) [t13, t16]) w13 fun t17 w14 =>
      Run Try.prog (sOp (.unOp .not 4 (.const t17)) 4) w14 fun t18 w15 =>
      Run Try.prog (sOp (.pick (.const t10) (.const t18) (.const (Value.bool false))) 4) w15 fun t19 w16 =>
      GuardV t19 true (
        Run Try.prog (sOp (.fieldAddr 30 (.const t1) 2) 0) w16 fun t21 w17 =>
        Run Try.prog (sOp (.load 9 (.const t21)) 9) w17 fun t22 w18 =>
        Run Try.prog (sCall (Value.func (.func 53) #[] #[]) [t22]) w18 fun t23 w19 =>
        Run Try.prog (sBin .eql 3 false true t23 (Value.int .i64 0)) w19 fun t24 w20 =>
        Run Try.prog (sOp (.pick (.const t19) (.const t24) (.const (Value.bool false))) 4) w20 fun t25 w21 =>
        R (.returned t25) w21) (
        Run Try.prog (sOp (.pick (.const t19) (.const undef) (.const (Value.bool false))) 4) w16 fun t25_2 w22 =>
        R (.returned t25_2) w22)) (
      Run Try.prog (sOp (.pick (.const t10) (.const undef) (.const (Value.bool false))) 4) w8 fun t19_2 w23 =>
      GuardV t19_2 true (
        Run Try.prog (sOp (.fieldAddr 30 (.const t1) 2) 0) w23 fun t21_2 w24 =>
        Run Try.prog (sOp (.load 9 (.const t21_2)) 9) w24 fun t22_2 w25 =>
        Run Try.prog (sCall (Value.func (.func 53) #[] #[]) [t22_2]) w25 fun t23_2 w26 =>
        Run Try.prog (sBin .eql 3 false true t23_2 (Value.int .i64 0)) w26 fun t24_2 w27 =>
        Run Try.prog (sOp (.pick (.const t19_2) (.const t24_2) (.const (Value.bool false))) 4) w27 fun t25_3 w28 =>
        R (.returned t25_3) w28) (
        Run Try.prog (sOp (.pick (.const t19_2) (.const undef) (.const (Value.bool false))) 4) w23 fun t25_4 w29 =>
        R (.returned t25_4) w29))) (
    Run Try.prog (sOp (.pick (.const t5) (.const undef) (.const (Value.bool false))) 4) w4 fun t10_2 w30 =>
    GuardV t10_2 true (
      Run Try.prog (sOp (.fieldAddr 30 (.const t1) 2) 0) w30 fun t12_2 w31 =>
      Run Try.prog (sOp (.load 9 (.const t12_2)) 9) w31 fun t13_2 w32 =>
      Run Try.prog (sOp (.fieldAddr 30 (.const t1) 3) 0) w32 fun t14_2 w33 =>
      Run Try.prog (sOp (.load 28 (.const t14_2)) 28) w33 fun t15_2 w34 =>
      Run Try.prog (sBuiltin .len #[28] 3 [false] [t15_2]) w34 fun t16_2 w35 =>
      Run Try.prog (sCall (Value.func (.func 52) #[] #[]) [t13_2, t16_2]) w35 fun t17_2 w36 =>
      Run Try.prog (sOp (.unOp .not 4 (.const t17_2)) 4) w36 fun t18_2 w37 =>
      Run Try.prog (sOp (.pick (.const t10_2) (.const t18_2) (.const (Value.bool false))) 4) w37 fun t19_3 w38 =>
      GuardV t19_3 true (
        Run Try.prog (sOp (.fieldAddr 30 (.const t1) 2) 0) w38 fun t21_3 w39 =>
        Run Try.prog (sOp (.load 9 (.const t21_3)) 9) w39 fun t22_3 w40 =>
        Run Try.prog (sCall (Value.func (.func 53) #[] #[]) [t22_3]) w40 fun t23_3 w41 =>
        Run Try.prog (sBin .eql 3 false true t23_3 (Value.int .i64 0)) w41 fun t24_3 w42 =>
        Run Try.prog (sOp (.pick (.const t19_3) (.const t24_3) (.const (Value.bool false))) 4) w42 fun t25_5 w43 =>
        R (.returned t25_5) w43) (
        Run Try.prog (sOp (.pick (.const t19_3) (.const undef) (.const (Value.bool false))) 4) w38 fun t25_6 w44 =>
        R (.returned t25_6) w44)) (
      Run Try.prog (sOp (.pick (.const t10_2) (.const undef) (.const (Value.bool false))) 4) w30 fun t19_4 w45 =>
      GuardV t19_4 true (
        Run Try.prog (sOp (.fieldAddr 30 (.const t1) 2) 0) w45 fun t21_4 w46 =>
        Run Try.prog (sOp (.load 9 (.const t21_4)) 9) w46 fun t22_4 w47 =>
        Run Try.prog (sCall (Value.func (.func 53) #[] #[]) [t22_4]) w47 fun t23_4 w48 =>
        Run Try.prog (sBin .eql 3 false true t23_4 (Value.int .i64 0)) w48 fun t24_4 w49 =>
        Run Try.prog (sOp (.pick (.const t19_4) (.const t24_4) (.const (Value.bool false))) 4) w49 fun t25_7 w50 =>
        R (.returned t25_7) w50) (
        Run Try.prog (sOp (.pick (.const t19_4) (.const undef) (.const (Value.bool false))) 4) w45 fun t25_8 w51 =>
        R (.returned t25_8) w51)))
theorem calls_s_l4Plain {p0 : Value} {w : World} {R : Ending → World → Prop} (h : sh_s_l4Plain p0 w R) : Calls Try.prog 30 #[p0] w R :=
  calls_sh .leaf [p0] mixed Try.func30 (by kernel_rfl) (by kernel_rfl) h


/- loop.example/prologserver/spec.l15Fresh : function 31 -/
def sh_s_l15Fresh (p0 p1 : Value) (w : World) (R : Ending → World → Prop) : Prop :=
  Run Try.prog (sOp (.box 32 (.const p0)) 0) w fun t2 w1 =>
  Run Try.prog (sOp (.alloc 32) 0) w1 fun t4 w2 =>
  Run Try.prog (sOp (.fieldAddr 32 (.const t2) 0) 0) w2 fun t7 w3 =>
  Run Try.prog (sOp (.load 30 (.const t7)) 30) w3 fun t8 w4 =>
  Run Try.prog (sCall (Value.func (.func 54) #[] #[]) [t8, p1]) w4 fun t10 w5 =>
  Run Try.prog (sBuild 32 [(0, t10)]) w5 fun t11 w6 =>
  Run Try.prog (sOp (.alloc 32) 0) w6 fun t5 w7 =>
  Run Try.prog (sOp (.store 32 (.const t5) (.const t11)) 0) w7 fun _u w8 =>
  (∃ (I9 : Value → World → Prop) (m10 : Value → World → Nat), I9 (Value.int .i64 0) w8 ∧
  ∀ t6 _ _ t30 t29 t28 t27 t26 t25 t24 t23 t22 t21 t20 t19 _ _ _ _ _ : Value, ∀ w11 : World, I9 t6 w11 →
  Run Try.prog (sOp (.fieldAddr 32 (.const t2) 1) 0) w11 fun t13_2 w12 =>
  Run Try.prog (sOp (.load 28 (.const t13_2)) 28) w12 fun t14_2 w13 =>
  Run Try.prog (sBuiltin .len #[28] 3 [false] [t14_2]) w13 fun t15_2 w14 =>
  Run Try.prog (sBin .lss 3 false false t6 t15_2) w14 fun t16_2 w15 =>
  CondV t16_2 (
    (∃ A16 : (Nat → Bool) → Value → Value → Value → Value → Value → Value → Value → Value → Value → Value → Value → Value → World → Prop, A16 (fun _ => false) t30 t29 t28 t27 t26 t25 t24 t23 t22 t21 t20 t19 { w15 with drawn := w15.drawn + 1 } ∧ (
    (∀ D17 : Nat → Bool, D17 0 = false → ∀ t30_2 t29_2 t28_2 t27_2 t26_2 t25_2 t24_2 t23_2 t22_2 t21_2 t20_2 t19_2 : Value, ∀ w18 : World, A16 D17 t30_2 t29_2 t28_2 t27_2 t26_2 t25_2 t24_2 t23_2 t22_2 t21_2 t20_2 t19_2 w18 →
      Run Try.prog (sOp (.fieldAddr 32 (.const t5) 1) 0) w18 fun t19_3 w19 =>
      A16 (setD D17 0) t30_2 t29_2 t28_2 t27_2 t26_2 t25_2 t24_2 t23_2 t22_2 t21_2 t20_2 t19_3 w19) ∧
    (∀ D17 : Nat → Bool, D17 1 = false → D17 0 = true → ∀ t30_2 t29_2 t28_2 t27_2 t26_2 t25_2 t24_2 t23_2 t22_2 t21_2 t20_2 t19_2 : Value, ∀ w20 : World, A16 D17 t30_2 t29_2 t28_2 t27_2 t26_2 t25_2 t24_2 t23_2 t22_2 t21_2 t20_2 t19_2 w20 →
      Run Try.prog (sOp (.load 28 (.const t19_2)) 28) w20 fun t20_3 w21 =>
      A16 (setD D17 1) t30_2 t29_2 t28_2 t27_2 t26_2 t25_2 t24_2 t23_2 t22_2 t21_2 t20_3 t19_2 w21) ∧
    (∀ D17 : Nat → Bool, D17 2 = false → ∀ t30_2 t29_2 t28_2 t27_2 t26_2 t25_2 t24_2 t23_2 t22_2 t21_2 t20_2 t19_2 : Value, ∀ w22 : World, A16 D17 t30_2 t29_2 t28_2 t27_2 t26_2 t25_2 t24_2 t23_2 t22_2 t21_2 t20_2 t19_2 w22 →
      Run Try.prog (sOp (.fieldAddr 32 (.const t2) 1) 0) w22 fun t21_3 w23 =>
      A16 (setD D17 2) t30_2 t29_2 t28_2 t27_2 t26_2 t25_2 t24_2 t23_2 t22_2 t21_3 t20_2 t19_2 w23) ∧
    (∀ D17 : Nat → Bool, D17 3 = false → D17 2 = true → ∀ t30_2 t29_2 t28_2 t27_2 t26_2 t25_2 t24_2 t23_2 t22_2 t21_2 t20_2 t19_2 : Value, ∀ w24 : World, A16 D17 t30_2 t29_2 t28_2 t27_2 t26_2 t25_2 t24_2 t23_2 t22_2 t21_2 t20_2 t19_2 w24 →
      Run Try.prog (sOp (.load 28 (.const t21_2)) 28) w24 fun t22_3 w25 =>
      A16 (setD D17 3) t30_2 t29_2 t28_2 t27_2 t26_2 t25_2 t24_2 t23_2 t22_3 t21_2 t20_2 t19_2 w25) ∧
    (∀ D17 : Nat → Bool, D17 4 = false → ∀ t30_2 t29_2 t28_2 t27_2 t26_2 t25_2 t24_2 t23_2 t22_2 t21_2 t20_2 t19_2 : Value, ∀ w26 : World, A16 D17 t30_2 t29_2 t28_2 t27_2 t26_2 t25_2 t24_2 t23_2 t22_2 t21_2 t20_2 t19_2 w26 →
      A16 (setD D17 4) t30_2 t29_2 t28_2 t27_2 t26_2 t25_2 t24_2 t6 t22_2 t21_2 t20_2 t19_2 w26) ∧
    (∀ D17 : Nat → Bool, D17 5 = false → D17 3 = true → D17 4 = true → ∀ t30_2 t29_2 t28_2 t27_2 t26_2 t25_2 t24_2 t23_2 t22_2 t21_2 t20_2 t19_2 : Value, ∀ w27 : World, A16 D17 t30_2 t29_2 t28_2 t27_2 t26_2 t25_2 t24_2 t23_2 t22_2 t21_2 t20_2 t19_2 w27 →
      Run Try.prog (sOp (.indexAddr 28 (.const t22_2) (.const t23_2)) 0) w27 fun t24_3 w28 =>
      A16 (setD D17 5) t30_2 t29_2 t28_2 t27_2 t26_2 t25_2 t24_3 t23_2 t22_2 t21_2 t20_2 t19_2 w28) ∧
    (∀ D17 : Nat → Bool, D17 6 = false → D17 5 = true → ∀ t30_2 t29_2 t28_2 t27_2 t26_2 t25_2 t24_2 t23_2 t22_2 t21_2 t20_2 t19_2 : Value, ∀ w29 : World, A16 D17 t30_2 t29_2 t28_2 t27_2 t26_2 t25_2 t24_2 t23_2 t22_2 t21_2 t20_2 t19_2 w29 →
      Run Try.prog (sOp (.load 30 (.const t24_2)) 30) w29 fun t25_3 w30 =>
      A16 (setD D17 6) t30_2 t29_2 t28_2 t27_2 t26_2 t25_3 t24_2 t23_2 t22_2 t21_2 t20_2 t19_2 w30) ∧
    (∀ D17 : Nat → Bool, D17 7 = false → ∀ t30_2 t29_2 t28_2 t27_2 t26_2 t25_2 t24_2 t23_2 t22_2 t21_2 t20_2 t19_2 : Value, ∀ w31 : World, A16 D17 t30_2 t29_2 t28_2 t27_2 t26_2 t25_2 t24_2 t23_2 t22_2 t21_2 t20_2 t19_2 w31 →
      A16 (setD D17 7) t30_2 t29_2 t28_2 t27_2 p1 t25_2 t24_2 t23_2 t22_2 t21_2 t20_2 t19_2 w31) ∧
    (∀ D17 : Nat → Bool, D17 8 = false → D17 6 = true → D17 7 = true → ∀ t30_2 t29_2 t28_2 t27_2 t26_2 t25_2 t24_2 t23_2 t22_2 t21_2 t20_2 t19_2 : Value, ∀ w32 : World, A16 D17 t30_2 t29_2 t28_2 t27_2 t26_2 t25_2 t24_2 t23_2 t22_2 t21_2 t20_2 t19_2 w32 →
      Run Try.prog (sCall (Value.func (.func 54) #[] #[]) [t25_2, t26_2]) w32 fun t27_3 w33 =>
      A16 (setD D17 8) t30_2 t29_2 t28_2 t27_3 t26_2 t25_2 t24_2 t23_2 t22_2 t21_2 t20_2 t19_2 w33) ∧
    (∀ D17 : Nat → Bool, D17 9 = false → D17 8 = true → ∀ t30_2 t29_2 t28_2 t27_2 t26_2 t25_2 t24_2 t23_2 t22_2 t21_2 t20_2 t19_2 : Value, ∀ w34 : World, A16 D17 t30_2 t29_2 t28_2 t27_2 t26_2 t25_2 t24_2 t23_2 t22_2 t21_2 t20_2 t19_2 w34 →
      Run Try.prog (sBuildSlice 28 1 [(0, t27_2)]) w34 fun t28_3 w35 =>
      A16 (setD D17 9) t30_2 t29_2 t28_3 t27_2 t26_2 t25_2 t24_2 t23_2 t22_2 t21_2 t20_2 t19_2 w35) ∧
    (∀ D17 : Nat → Bool, D17 10 = false → D17 1 = true → D17 9 = true → D17 8 = true → ∀ t30_2 t29_2 t28_2 t27_2 t26_2 t25_2 t24_2 t23_2 t22_2 t21_2 t20_2 t19_2 : Value, ∀ w36 : World, A16 D17 t30_2 t29_2 t28_2 t27_2 t26_2 t25_2 t24_2 t23_2 t22_2 t21_2 t20_2 t19_2 w36 →
      Run Try.prog (sBuiltin .append #[28, 28] 28 [false, false] [t20_2, t28_2]) w36 fun t29_3 w37 =>
      A16 (setD D17 10) t30_2 t29_3 t28_2 t27_2 t26_2 t25_2 t24_2 t23_2 t22_2 t21_2 t20_2 t19_2 w37) ∧
    (∀ D17 : Nat → Bool, D17 11 = false → D17 0 = true → D17 1 = true → D17 2 = true → D17 3 = true → D17 4 = true → D17 5 = true → D17 6 = true → D17 7 = true → D17 8 = true → D17 9 = true → D17 10 = true → ∀ t30_2 t29_2 t28_2 t27_2 t26_2 t25_2 t24_2 t23_2 t22_2 t21_2 t20_2 t19_2 : Value, ∀ w38 : World, A16 D17 t30_2 t29_2 t28_2 t27_2 t26_2 t25_2 t24_2 t23_2 t22_2 t21_2 t20_2 t19_2 w38 →
      Run Try.prog (sOp (.fieldAddr 32 (.const t5) 1) 0) w38 fun t30_3 w39 =>
      A16 (setD D17 11) t30_3 t29_2 t28_2 t27_2 t26_2 t25_2 t24_2 t23_2 t22_2 t21_2 t20_2 t19_2 w39) ∧
    (∀ D17 : Nat → Bool, D17 12 = false → D17 11 = true → D17 10 = true → D17 10 = true → D17 0 = true → D17 1 = true → D17 2 = true → D17 3 = true → D17 4 = true → D17 5 = true → D17 6 = true → D17 7 = true → D17 8 = true → D17 9 = true → D17 10 = true → ∀ t30_2 t29_2 t28_2 t27_2 t26_2 t25_2 t24_2 t23_2 t22_2 t21_2 t20_2 t19_2 : Value, ∀ w40 : World, A16 D17 t30_2 t29_2 t28_2 t27_2 t26_2 t25_2 t24_2 t23_2 t22_2 t21_2 t20_2 t19_2 w40 →
      Run Try.prog (sOp (.store 28 (.const t30_2) (.const t29_2)) 0) w40 fun _u w41 =>
      A16 (setD D17 12) t30_2 t29_2 t28_2 t27_2 t26_2 t25_2 t24_2 t23_2 t22_2 t21_2 t20_2 t19_2 w41) ∧
    True) ∧
  ∀ D17 : Nat → Bool, D17 12 = true → D17 11 = true → D17 10 = true → D17 9 = true → D17 8 = true → D17 7 = true → D17 6 = true → D17 5 = true → D17 4 = true → D17 3 = true → D17 2 = true → D17 1 = true → D17 0 = true → ∀ t30_2 t29_2 t28_2 t27_2 t26_2 t25_2 t24_2 t23_2 t22_2 t21_2 t20_2 t19_2 : Value, ∀ w42 : World, A16 D17 t30_2 t29_2 t28_2 t27_2 t26_2 t25_2 t24_2 t23_2 t22_2 t21_2 t20_2 t19_2 w42 →
  Run Try.prog (sBin .add 3 false true t6 (Value.int .i64 1)) w42 fun t18_2 w43 =>
  I9 t18_2 w43 ∧ m10 t18_2 w43 < m10 t6 w11)) (
    Run Try.prog (sOp (.load 32 (.const t5)) 32) w15 fun t31 w44 =>
  Run Try.prog (sOp (.store 32 (.const t4) (.const t31)) 0) w44 fun _ w45 =>
  (LoadV Try.prog 32 t4 w45 fun r0 => R (.returned r0) w45)))
theorem calls_s_l15Fresh {p0 p1 : Value} {w : World} {R : Ending → World → Prop} (h : sh_s_l15Fresh p0 p1 w R) : Calls Try.prog 31 #[p0, p1] w R :=
  calls_sh (.seq none .leaf (.seq none .leaf (.seq none (.seq none .leaf (.one (.loop [6] .leaf))) .leaf))) [p0, p1] mixed Try.func31 (by kernel_rfl) (by kernel_rfl) h


/- loop.example/prologserver/spec.l3Unify : function 32 -/
def sh_s_l3Unify (p0 p1 p2 : Value) (w : World) (R : Ending → World → Prop) : Prop :=
  Run Try.prog (sOp (.box 30 (.const p0)) 0) w fun t3 w1 =>
  Run Try.prog (sOp (.box 30 (.const p1)) 0) w1 fun t4 w2 =>
  Run Try.prog (sOp (.load 30 (.const t3)) 30) w2 fun t8 w3 =>
  Run Try.prog (sCall (Value.func (.func 55) #[] #[]) [t8, p2]) w3 fun t10 w4 =>
  Run Try.prog (sOp (.store 30 (.const t3) (.const t10)) 0) w4 fun _u w5 =>
  Run Try.prog (sOp (.load 30 (.const t4)) 30) w5 fun t11 w6 =>
  Run Try.prog (sCall (Value.func (.func 55) #[] #[]) [t11, p2]) w6 fun t13 w7 =>
  Run Try.prog (sOp (.store 30 (.const t4) (.const t13)) 0) w7 fun _u w8 =>
  (∃ J9 : Value → World → Prop, (
    Run Try.prog (sOp (.fieldAddr 30 (.const t3) 0) 0) w8 fun t14 w10 =>
    Run Try.prog (sOp (.load 3 (.const t14)) 3) w10 fun t15 w11 =>
    Run Try.prog (sBin .eql 3 false true t15 (Value.int .i64 1)) w11 fun t16 w12 =>
    GuardV t16 true (
      Run Try.prog (sOp (.fieldAddr 30 (.const t4) 0) 0) w12 fun t18 w13 =>
      Run Try.prog (sOp (.load 3 (.const t18)) 3) w13 fun t19 w14 =>
      Run Try.prog (sBin .eql 3 false true t19 (Value.int .i64 1)) w14 fun t20 w15 =>
      Run Try.prog (sOp (.pick (.const t16) (.const t20) (.const (Value.bool false))) 4) w15 fun t21 w16 =>
      GuardV t21 true (
        Run Try.prog (sOp (.fieldAddr 30 (.const t3) 1) 0) w16 fun t23 w17 =>
        Run Try.prog (sOp (.load 3 (.const t23)) 3) w17 fun t24 w18 =>
        Run Try.prog (sOp (.fieldAddr 30 (.const t4) 1) 0) w18 fun t25 w19 =>
        Run Try.prog (sOp (.load 3 (.const t25)) 3) w19 fun t26 w20 =>
        Run Try.prog (sBin .eql 3 false false t24 t26) w20 fun t27 w21 =>
        Run Try.prog (sOp (.pick (.const t21) (.const t27) (.const (Value.bool false))) 4) w21 fun t28 w22 =>
        J9 t28 w22) (
        Run Try.prog (sOp (.pick (.const t21) (.const undef) (.const (Value.bool false))) 4) w16 fun t28_2 w23 =>
        J9 t28_2 w23)) (
      Run Try.prog (sOp (.pick (.const t16) (.const undef) (.const (Value.bool false))) 4) w12 fun t21_2 w24 =>
      GuardV t21_2 true (
        Run Try.prog (sOp (.fieldAddr 30 (.const t3) 1) 0) w24 fun t23_2 w25 =>
        Run Try.prog (sOp (.load 3 (.const t23_2)) 3) w25 fun t24_2 w26 =>
        Run Try.prog (sOp (.fieldAddr 30 (.const t4) 1) 0) w26 fun t25_2 w27 =>
        Run Try.prog (sOp (.load 3 (.const t25_2)) 3) w27 fun t26_2 w28 =>
        Run Try.prog (sBin .eql 3 false false t24_2 t26_2) w28 fun t27_2 w29 =>
        Run Try.prog (sOp (.pick (.const t21_2) (.const t27_2) (.const (Value.bool false))) 4) w29 fun t28_3 w30 =>
        J9 t28_3 w30) (
        Run Try.prog (sOp (.pick (.const t21_2) (.const undef) (.const (Value.bool false))) 4) w24 fun t28_4 w31 =>
        J9 t28_4 w31))) ∧
  ∀ t28_5 _ _ _ _ _ _ _ _ _ _ _ _ _ _ : Value, ∀ w32 : World, J9 t28_5 w32 →
  CondV t28_5 (
    R (.returned (Value.bool true)) w32) (
    Run Try.prog (sOp (.fieldAddr 30 (.const t3) 0) 0) w32 fun t29 w33 =>
  Run Try.prog (sOp (.load 3 (.const t29)) 3) w33 fun t30 w34 =>
  Run Try.prog (sBin .eql 3 false true t30 (Value.int .i64 1)) w34 fun t31 w35 =>
  CondV t31 (
    Run Try.prog (sOp (.fieldAddr 30 (.const t3) 1) 0) w35 fun t32 w36 =>
    Run Try.prog (sOp (.load 3 (.const t32)) 3) w36 fun t33 w37 =>
    Run Try.prog (sOp (.load 30 (.const t4)) 30) w37 fun t34 w38 =>
    Run Try.prog (sCall (Value.func (.func 56) #[] #[]) [t33, t34, p2]) w38 fun t36 w39 =>
    CondV t36 (
      R (.returned (Value.bool false)) w39) (
      Run Try.prog (sOp (.fieldAddr 30 (.const t3) 1) 0) w39 fun t38 w40 =>
    Run Try.prog (sOp (.load 3 (.const t38)) 3) w40 fun t39 w41 =>
    Run Try.prog (sOp (.load 30 (.const t4)) 30) w41 fun t40 w42 =>
    Run Try.prog (sOp (.indexAddr 28 (.const p2) (.const t39)) 0) w42 fun t41 w43 =>
    Run Try.prog (sOp (.store 30 (.const t41) (.const t40)) 0) w43 fun _ w44 =>
    R (.returned (Value.bool true)) w44)) (
    Run Try.prog (sOp (.fieldAddr 30 (.const t4) 0) 0) w35 fun t42 w45 =>
  Run Try.prog (sOp (.load 3 (.const t42)) 3) w45 fun t43 w46 =>
  Run Try.prog (sBin .eql 3 false true t43 (Value.int .i64 1)) w46 fun t44 w47 =>
  CondV t44 (
    Run Try.prog (sOp (.load 30 (.const t4)) 30) w47 fun t45 w48 =>
    Run Try.prog (sOp (.load 30 (.const t3)) 30) w48 fun t46 w49 =>
    Run Try.prog (sCall (Value.func (.func 32) #[] #[]) [t45, t46, p2]) w49 fun t48 w50 =>
    R (.returned t48) w50) (
    (∃ J51 : Value → World → Prop, (
    Run Try.prog (sOp (.fieldAddr 30 (.const t3) 0) 0) w47 fun t49 w52 =>
    Run Try.prog (sOp (.load 3 (.const t49)) 3) w52 fun t50 w53 =>
    Run Try.prog (sOp (.fieldAddr 30 (.const t4) 0) 0) w53 fun t51 w54 =>
    Run Try.prog (sOp (.load 3 (.const t51)) 3) w54 fun t52 w55 =>
    Run Try.prog (sBin .neq 3 false false t50 t52) w55 fun t53 w56 =>
    GuardV t53 false (
      Run Try.prog (sOp (.fieldAddr 30 (.const t3) 1) 0) w56 fun t55 w57 =>
      Run Try.prog (sOp (.load 3 (.const t55)) 3) w57 fun t56 w58 =>
      Run Try.prog (sOp (.fieldAddr 30 (.const t4) 1) 0) w58 fun t57 w59 =>
      Run Try.prog (sOp (.load 3 (.const t57)) 3) w59 fun t58 w60 =>
      Run Try.prog (sBin .neq 3 false false t56 t58) w60 fun t59 w61 =>
      Run Try.prog (sOp (.pick (.const t53) (.const (Value.bool true)) (.const t59)) 4) w61 fun t60 w62 =>
      GuardV t60 false (
        Run Try.prog (sOp (.fieldAddr 30 (.const t3) 2) 0) w62 fun t62 w63 =>
        Run Try.prog (sOp (.load 9 (.const t62)) 9) w63 fun t63 w64 =>
        Run Try.prog (sOp (.fieldAddr 30 (.const t4) 2) 0) w64 fun t64 w65 =>
        Run Try.prog (sOp (.load 9 (.const t64)) 9) w65 fun t65 w66 =>
        Run Try.prog (sBin .neq 9 false false t63 t65) w66 fun t66 w67 =>
        Run Try.prog (sOp (.pick (.const t60) (.const (Value.bool true)) (.const t66)) 4) w67 fun t67 w68 =>
        GuardV t67 false (
          Run Try.prog (sOp (.fieldAddr 30 (.const t3) 3) 0) w68 fun t69 w69 =>
          Run Try.prog (sOp (.load 28 (.const t69)) 28) w69 fun t70 w70 =>
          Run Try.prog (sBuiltin .len #[28] 3 [false] [t70]) w70 fun t71 w71 =>
          Run Try.prog (sOp (.fieldAddr 30 (.const t4) 3) 0) w71 fun t72 w72 =>
          Run Try.prog (sOp (.load 28 (.const t72)) 28) w72 fun t73 w73 =>
          Run Try.prog (sBuiltin .len #[28] 3 [false] [t73]) w73 fun t74 w74 =>
          Run Try.prog (sBin .neq 3 false false t71 t74) w74 fun t75 w75 =>
          Run Try.prog (sOp (.pick (.const t67) (.const (Value.bool true)) (.const t75)) 4) w75 fun t76 w76 =>
          J51 t76 w76) (
          Run Try.prog (sOp (.pick (.const t67) (.const (Value.bool true)) (.const undef)) 4) w68 fun t76_2 w77 =>
          J51 t76_2 w77)) (
        Run Try.prog (sOp (.pick (.const t60) (.const (Value.bool true)) (.const undef)) 4) w62 fun t67_2 w78 =>
        GuardV t67_2 false (
          Run Try.prog (sOp (.fieldAddr 30 (.const t3) 3) 0) w78 fun t69_2 w79 =>
          Run Try.prog (sOp (.load 28 (.const t69_2)) 28) w79 fun t70_2 w80 =>
          Run Try.prog (sBuiltin .len #[28] 3 [false] [t70_2]) w80 fun t71_2 w81 =>
          Run Try.prog (sOp (.fieldAddr 30 (.const t4) 3) 0) w81 fun t72_2 w82 =>
          Run Try.prog (sOp (.load 28 (.const t72_2)) 28) w82 fun t73_2 w83 =>
          Run Try.prog (sBuiltin .len #[28] 3 [false] [t73_2]) w83 fun t74_2 w84 =>
          Run Try.prog (sBin .neq 3 false false t71_2 t74_2) w84 fun t75_2 w85 =>
          Run Try.prog (sOp (.pick (.const t67_2) (.const (Value.bool true)) (.const t75_2)) 4) w85 fun t76_3 w86 =>
          J51 t76_3 w86) (
          Run Try.prog (sOp (.pick (.const t67_2) (.const (Value.bool true)) (.const undef)) 4) w78 fun t76_4 w87 =>
          J51 t76_4 w87))) (
      Run Try.prog (sOp (.pick (.const t53) (.const (Value.bool true)) (.const undef)) 4) w56 fun t60_2 w88 =>
      GuardV t60_2 false (
        Run Try.prog (sOp (.fieldAddr 30 (.const t3) 2) 0) w88 fun t62_2 w89 =>
        Run Try.prog (sOp (.load 9 (.const t62_2)) 9) w89 fun t63_2 w90 =>
        Run Try.prog (sOp (.fieldAddr 30 (.const t4) 2) 0) w90 fun t64_2 w91 =>
        Run Try.prog (sOp (.load 9 (.const t64_2)) 9) w91 fun t65_2 w92 =>
        Run Try.prog (sBin .neq 9 false false t63_2 t65_2) w92 fun t66_2 w93 =>
        Run Try.prog (sOp (.pick (.const t60_2) (.const (Value.bool true)) (.const t66_2)) 4) w93 fun t67_3 w94 =>
        GuardV t67_3 false (
          Run Try.prog (sOp (.fieldAddr 30 (.const t3) 3) 0) w94 fun t69_3 w95 =>
          Run Try.prog (sOp (.load 28 (.const t69_3)) 28) w95 fun t70_3 w96 =>
          Run Try.prog (sBuiltin .len #[28] 3 [false] [t70_3]) w96 fun t71_3 w97 =>
          Run Try.prog (sOp (.fieldAddr 30 (.const t4) 3) 0) w97 fun t72_3 w98 =>
          Run Try.prog (sOp (.load 28 (.const t72_3)) 28) w98 fun t73_3 w99 =>
          Run Try.prog (sBuiltin .len #[28] 3 [false] [t73_3]) w99 fun t74_3 w100 =>
          Run Try.prog (sBin .neq 3 false false t71_3 t74_3) w100 fun t75_3 w101 =>
          Run Try.prog (sOp (.pick (.const t67_3) (.const (Value.bool true)) (.const t75_3)) 4) w101 fun t76_5 w102 =>
          J51 t76_5 w102) (
          Run Try.prog (sOp (.pick (.const t67_3) (.const (Value.bool true)) (.const undef)) 4) w94 fun t76_6 w103 =>
          J51 t76_6 w103)) (
        Run Try.prog (sOp (.pick (.const t60_2) (.const (Value.bool true)) (.const undef)) 4) w88 fun t67_4 w104 =>
        GuardV t67_4 false (
          Run Try.prog (sOp (.fieldAddr 30 (.const t3) 3) 0) w104 fun t69_4 w105 =>
          Run Try.prog (sOp (.load 28 (.const t69_4)) 28) w105 fun t70_4 w106 =>
          Run Try.prog (sBuiltin .len #[28] 3 [false] [t70_4]) w106 fun t71_4 w107 =>
          Run Try.prog (sOp (.fieldAddr 30 (.const t4) 3) 0) w107 fun t72_4 w108 =>
          Run Try.prog (sOp (.load 28 (.const t72_4)) 28) w108 fun t73_4 w109 =>
          Run Try.prog (sBuiltin .len #[28] 3 [false] [t73_4]) w109 fun t74_4 w110 =>
          Run Try.prog (sBin .neq 3 false false t71_4 t74_4) w110 fun t75_4 w111 =>
          Run Try.prog (sOp (.pick (.const t67_4) (.const (Value.bool true)) (.const t75_4)) 4) w111 fun t76_7 w112 =>
          J51 t76_7 w112) (
          Run Try.prog (sOp (.pick (.const t67_4) (.const (Value.bool true)) (.const undef)) 4) w104 fun t76_8 w113 =>
          J51 t76_8 w113)))) ∧
  ∀ t76_9 _ _ _ _ _ _ _ _ _ _ _ _ _ _ _ _ _ _ _ _ _ _ _ _ _ _ _ : Value, ∀ w114 : World, J51 t76_9 w114 →
  CondV t76_9 (
    R (.returned (Value.bool false)) w114) (
    (∃ (I115 : Value → World → Prop) (m116 : Value → World → Nat), I115 (Value.int .i64 0) w114 ∧
  ∀ t7 _ _ _ t96 t95 t94 t93 t92 t91 t90 t89 t88 t87 t86 t85 t84 _ _ _ _ _ : Value, ∀ w117 : World, I115 t7 w117 →
  Run Try.prog (sOp (.fieldAddr 30 (.const t3) 3) 0) w117 fun t78_2 w118 =>
  Run Try.prog (sOp (.load 28 (.const t78_2)) 28) w118 fun t79_2 w119 =>
  Run Try.prog (sBuiltin .len #[28] 3 [false] [t79_2]) w119 fun t80_2 w120 =>
  Run Try.prog (sBin .lss 3 false false t7 t80_2) w120 fun t81_2 w121 =>
  CondV t81_2 (
    (∃ A122 : (Nat → Bool) → Value → Value → Value → Value → Value → Value → Value → Value → Value → Value → Value → Value → Value → World → Prop, A122 (fun _ => false) t96 t95 t94 t93 t92 t91 t90 t89 t88 t87 t86 t85 t84 { w121 with drawn := w121.drawn + 1 } ∧ (
    (∀ D123 : Nat → Bool, D123 0 = false → ∀ t96_2 t95_2 t94_2 t93_2 t92_2 t91_2 t90_2 t89_2 t88_2 t87_2 t86_2 t85_2 t84_2 : Value, ∀ w124 : World, A122 D123 t96_2 t95_2 t94_2 t93_2 t92_2 t91_2 t90_2 t89_2 t88_2 t87_2 t86_2 t85_2 t84_2 w124 →
      Run Try.prog (sOp (.fieldAddr 30 (.const t3) 3) 0) w124 fun t84_3 w125 =>
      A122 (setD D123 0) t96_2 t95_2 t94_2 t93_2 t92_2 t91_2 t90_2 t89_2 t88_2 t87_2 t86_2 t85_2 t84_3 w125) ∧
    (∀ D123 : Nat → Bool, D123 1 = false → D123 0 = true → ∀ t96_2 t95_2 t94_2 t93_2 t92_2 t91_2 t90_2 t89_2 t88_2 t87_2 t86_2 t85_2 t84_2 : Value, ∀ w126 : World, A122 D123 t96_2 t95_2 t94_2 t93_2 t92_2 t91_2 t90_2 t89_2 t88_2 t87_2 t86_2 t85_2 t84_2 w126 →
      Run Try.prog (sOp (.load 28 (.const t84_2)) 28) w126 fun t85_3 w127 =>
      A122 (setD D123 1) t96_2 t95_2 t94_2 t93_2 t92_2 t91_2 t90_2 t89_2 t88_2 t87_2 t86_2 t85_3 t84_2 w127) ∧
    (∀ D123 : Nat → Bool, D123 2 = false → ∀ t96_2 t95_2 t94_2 t93_2 t92_2 t91_2 t90_2 t89_2 t88_2 t87_2 t86_2 t85_2 t84_2 : Value, ∀ w128 : World, A122 D123 t96_2 t95_2 t94_2 t93_2 t92_2 t91_2 t90_2 t89_2 t88_2 t87_2 t86_2 t85_2 t84_2 w128 →
      A122 (setD D123 2) t96_2 t95_2 t94_2 t93_2 t92_2 t91_2 t90_2 t89_2 t88_2 t87_2 t7 t85_2 t84_2 w128) ∧
    (∀ D123 : Nat → Bool, D123 3 = false → D123 1 = true → D123 2 = true → ∀ t96_2 t95_2 t94_2 t93_2 t92_2 t91_2 t90_2 t89_2 t88_2 t87_2 t86_2 t85_2 t84_2 : Value, ∀ w129 : World, A122 D123 t96_2 t95_2 t94_2 t93_2 t92_2 t91_2 t90_2 t89_2 t88_2 t87_2 t86_2 t85_2 t84_2 w129 →
      Run Try.prog (sOp (.indexAddr 28 (.const t85_2) (.const t86_2)) 0) w129 fun t87_3 w130 =>
      A122 (setD D123 3) t96_2 t95_2 t94_2 t93_2 t92_2 t91_2 t90_2 t89_2 t88_2 t87_3 t86_2 t85_2 t84_2 w130) ∧
    (∀ D123 : Nat → Bool, D123 4 = false → D123 3 = true → ∀ t96_2 t95_2 t94_2 t93_2 t92_2 t91_2 t90_2 t89_2 t88_2 t87_2 t86_2 t85_2 t84_2 : Value, ∀ w131 : World, A122 D123 t96_2 t95_2 t94_2 t93_2 t92_2 t91_2 t90_2 t89_2 t88_2 t87_2 t86_2 t85_2 t84_2 w131 →
      Run Try.prog (sOp (.load 30 (.const t87_2)) 30) w131 fun t88_3 w132 =>
      A122 (setD D123 4) t96_2 t95_2 t94_2 t93_2 t92_2 t91_2 t90_2 t89_2 t88_3 t87_2 t86_2 t85_2 t84_2 w132) ∧
    (∀ D123 : Nat → Bool, D123 5 = false → ∀ t96_2 t95_2 t94_2 t93_2 t92_2 t91_2 t90_2 t89_2 t88_2 t87_2 t86_2 t85_2 t84_2 : Value, ∀ w133 : World, A122 D123 t96_2 t95_2 t94_2 t93_2 t92_2 t91_2 t90_2 t89_2 t88_2 t87_2 t86_2 t85_2 t84_2 w133 →
      Run Try.prog (sOp (.fieldAddr 30 (.const t4) 3) 0) w133 fun t89_3 w134 =>
      A122 (setD D123 5) t96_2 t95_2 t94_2 t93_2 t92_2 t91_2 t90_2 t89_3 t88_2 t87_2 t86_2 t85_2 t84_2 w134) ∧
    (∀ D123 : Nat → Bool, D123 6 = false → D123 5 = true → ∀ t96_2 t95_2 t94_2 t93_2 t92_2 t91_2 t90_2 t89_2 t88_2 t87_2 t86_2 t85_2 t84_2 : Value, ∀ w135 : World, A122 D123 t96_2 t95_2 t94_2 t93_2 t92_2 t91_2 t90_2 t89_2 t88_2 t87_2 t86_2 t85_2 t84_2 w135 →
      Run Try.prog (sOp (.load 28 (.const t89_2)) 28) w135 fun t90_3 w136 =>
      A122 (setD D123 6) t96_2 t95_2 t94_2 t93_2 t92_2 t91_2 t90_3 t89_2 t88_2 t87_2 t86_2 t85_2 t84_2 w136) ∧
    (∀ D123 : Nat → Bool, D123 7 = false → ∀ t96_2 t95_2 t94_2 t93_2 t92_2 t91_2 t90_2 t89_2 t88_2 t87_2 t86_2 t85_2 t84_2 : Value, ∀ w137 : World, A122 D123 t96_2 t95_2 t94_2 t93_2 t92_2 t91_2 t90_2 t89_2 t88_2 t87_2 t86_2 t85_2 t84_2 w137 →
      A122 (setD D123 7) t96_2 t95_2 t94_2 t93_2 t92_2 t7 t90_2 t89_2 t88_2 t87_2 t86_2 t85_2 t84_2 w137) ∧
    (∀ D123 : Nat → Bool, D123 8 = false → D123 6 = true → D123 7 = true → ∀ t96_2 t95_2 t94_2 t93_2 t92_2 t91_2 t90_2 t89_2 t88_2 t87_2 t86_2 t85_2 t84_2 : Value, ∀ w138 : World, A122 D123 t96_2 t95_2 t94_2 t93_2 t92_2 t91_2 t90_2 t89_2 t88_2 t87_2 t86_2 t85_2 t84_2 w138 →
      Run Try.prog (sOp (.indexAddr 28 (.const t90_2) (.const t91_2)) 0) w138 fun t92_3 w139 =>
      A122 (setD D123 8) t96_2 t95_2 t94_2 t93_2 t92_3 t91_2 t90_2 t89_2 t88_2 t87_2 t86_2 t85_2 t84_2 w139) ∧
    (∀ D123 : Nat → Bool, D123 9 = false → D123 8 = true → ∀ t96_2 t95_2 t94_2 t93_2 t92_2 t91_2 t90_2 t89_2 t88_2 t87_2 t86_2 t85_2 t84_2 : Value, ∀ w140 : World, A122 D123 t96_2 t95_2 t94_2 t93_2 t92_2 t91_2 t90_2 t89_2 t88_2 t87_2 t86_2 t85_2 t84_2 w140 →
      Run Try.prog (sOp (.load 30 (.const t92_2)) 30) w140 fun t93_3 w141 =>
      A122 (setD D123 9) t96_2 t95_2 t94_2 t93_3 t92_2 t91_2 t90_2 t89_2 t88_2 t87_2 t86_2 t85_2 t84_2 w141) ∧
    (∀ D123 : Nat → Bool, D123 10 = false → ∀ t96_2 t95_2 t94_2 t93_2 t92_2 t91_2 t90_2 t89_2 t88_2 t87_2 t86_2 t85_2 t84_2 : Value, ∀ w142 : World, A122 D123 t96_2 t95_2 t94_2 t93_2 t92_2 t91_2 t90_2 t89_2 t88_2 t87_2 t86_2 t85_2 t84_2 w142 →
      A122 (setD D123 10) t96_2 t95_2 p2 t93_2 t92_2 t91_2 t90_2 t89_2 t88_2 t87_2 t86_2 t85_2 t84_2 w142) ∧
    (∀ D123 : Nat → Bool, D123 11 = false → D123 4 = true → D123 9 = true → D123 10 = true → ∀ t96_2 t95_2 t94_2 t93_2 t92_2 t91_2 t90_2 t89_2 t88_2 t87_2 t86_2 t85_2 t84_2 : Value, ∀ w143 : World, A122 D123 t96_2 t95_2 t94_2 t93_2 t92_2 t91_2 t90_2 t89_2 t88_2 t87_2 t86_2 t85_2 t84_2 w143 →
      Run Try.prog (sCall (Value.func (.func 32) #[] #[]) [t88_2, t93_2, t94_2]) w143 fun t95_3 w144 =>
      A122 (setD D123 11) t96_2 t95_3 t94_2 t93_2 t92_2 t91_2 t90_2 t89_2 t88_2 t87_2 t86_2 t85_2 t84_2 w144) ∧
    (∀ D123 : Nat → Bool, D123 12 = false → D123 11 = true → ∀ t96_2 t95_2 t94_2 t93_2 t92_2 t91_2 t90_2 t89_2 t88_2 t87_2 t86_2 t85_2 t84_2 : Value, ∀ w145 : World, A122 D123 t96_2 t95_2 t94_2 t93_2 t92_2 t91_2 t90_2 t89_2 t88_2 t87_2 t86_2 t85_2 t84_2 w145 →
      Run Try.prog (sOp (.unOp .not 4 (.const t95_2)) 4) w145 fun t96_3 w146 =>
      A122 (setD D123 12) t96_3 t95_2 t94_2 t93_2 t92_2 t91_2 t90_2 t89_2 t88_2 t87_2 t86_2 t85_2 t84_2 w146) ∧
    True) ∧
  ∀ D123 : Nat → Bool, D123 12 = true → D123 11 = true → D123 10 = true → D123 9 = true → D123 8 = true → D123 7 = true → D123 6 = true → D123 5 = true → D123 4 = true → D123 3 = true → D123 2 = true → D123 1 = true → D123 0 = true → ∀ t96_2 t95_2 t94_2 t93_2 t92_2 t91_2 t90_2 t89_2 t88_2 t87_2 t86_2 t85_2 t84_2 : Value, ∀ w147 : World, A122 D123 t96_2 t95_2 t94_2 t93_2 t92_2 t91_2 t90_2 t89_2 t88_2 t87_2 t86_2 t85_2 t84_2 w147 →
  CondV t96_2 (
    R (.returned (Value.bool false)) w147) (
    Run Try.prog (sBin .add 3 false true t7 (Value.int .i64 1)) w147 fun t83_2 w148 =>
  I115 t83_2 w148 ∧ m116 t83_2 w148 < m116 t7 w117))) (
    R (.returned (Value.bool true)) w121))))))))
theorem calls_s_l3Unify {p0 p1 p2 : Value} {w : World} {R : Ending → World → Prop} (h : sh_s_l3Unify p0 p1 p2 w R) : Calls Try.prog 32 #[p0, p1, p2] w R :=
  calls_sh (.seq none .leaf (.seq none .leaf (.seq none .leaf (.seq none (.seq (some [28]) .leaf .leaf) (.seq none .leaf (.seq none .leaf (.seq none (.seq (some [76]) .leaf .leaf) (.seq none (.seq none .leaf (.one (.loop [7] .leaf))) .leaf)))))))) [p0, p1, p2] mixed Try.func32 (by kernel_rfl) (by kernel_rfl) h


/- loop.example/prologserver/spec.l6Small : function 33 -/
def sh_s_l6Small (p0 p1 : Value) (w : World) (R : Ending → World → Prop) : Prop :=
  Run Try.prog (sOp (.box 30 (.const p0)) 0) w fun t2 w1 =>
  Run Try.prog (sOp (.alloc 30) 0) w1 fun t4 w2 =>
  Run Try.prog (sOp (.load 30 (.const t2)) 30) w2 fun t9 w3 =>
  Run Try.prog (sCall (Value.func (.func 57) #[] #[]) [t9, p1, (Value.int .i64 120)]) w3 fun t11 w4 =>
  Run Try.prog (sOp (.extract (.const t11) 0) 30) w4 fun t12 w5 =>
  Run Try.prog (sOp (.extract (.const t11) 1) 3) w5 fun t13 w6 =>
  Run Try.prog (sOp (.alloc 30) 0) w6 fun t6 w7 =>
  Run Try.prog (sOp (.store 30 (.const t6) (.const t12)) 0) w7 fun _u w8 =>
  (∃ A9 : (Nat → Bool) → Value → Value → Value → Value → Value → Value → Value → Value → World → Prop, A9 (fun _ => false) (Value.bool false) undef undef undef undef undef undef undef { w8 with drawn := w8.drawn + 1 } ∧ (
    (∀ D10 : Nat → Bool, D10 0 = false → ∀ t5 t20 t19 t18 t17 t16 t15 t14 : Value, ∀ w11 : World, A9 D10 t5 t20 t19 t18 t17 t16 t15 t14 w11 →
      Run Try.prog (sOp (.load 30 (.const t6)) 30) w11 fun t14_2 w12 =>
      A9 (setD D10 0) t5 t20 t19 t18 t17 t16 t15 t14_2 w12) ∧
    (∀ D10 : Nat → Bool, D10 1 = false → ∀ t5 t20 t19 t18 t17 t16 t15 t14 : Value, ∀ w13 : World, A9 D10 t5 t20 t19 t18 t17 t16 t15 t14 w13 →
      A9 (setD D10 1) t5 t20 t19 t18 t17 t16 t13 t14 w13) ∧
    (∀ D10 : Nat → Bool, D10 2 = false → D10 1 = true → ∀ t5 t20 t19 t18 t17 t16 t15 t14 : Value, ∀ w14 : World, A9 D10 t5 t20 t19 t18 t17 t16 t15 t14 w14 →
      Run Try.prog (sBin .geq 3 false true t15 (Value.int .i64 0)) w14 fun t16_2 w15 =>
      A9 (setD D10 2) t5 t20 t19 t18 t17 t16_2 t15 t14 w15) ∧
    (∀ D10 : Nat → Bool, D10 3 = false → D10 2 = true → ∀ t5 t20 t19 t18 t17 t16 t15 t14 : Value, ∀ w16 : World, A9 D10 t5 t20 t19 t18 t17 t16 t15 t14 w16 →
      A9 (setD D10 3) t5 t20 t19 t18 t16 t16 t15 t14 w16) ∧
    (∀ D10 : Nat → Bool, D10 4 = false → D10 3 = true → ∀ t5 t20 t19 t18 t17 t16 t15 t14 : Value, ∀ w17 : World, A9 D10 t5 t20 t19 t18 t17 t16 t15 t14 w17 →
      GuardV t17 true (Run Try.prog (sOp (.load 30 (.const t6)) 30) w17 fun t18_2 w18 =>
      A9 (setD D10 4) t5 t20 t19 t18_2 t17 t16 t15 t14 w18) (A9 (setD D10 4) t5 t20 t19 undef t17 t16 t15 t14 w17)) ∧
    (∀ D10 : Nat → Bool, D10 5 = false → D10 4 = true → D10 3 = true → D10 3 = true → ∀ t5 t20 t19 t18 t17 t16 t15 t14 : Value, ∀ w19 : World, A9 D10 t5 t20 t19 t18 t17 t16 t15 t14 w19 →
      GuardV t17 true (Run Try.prog (sCall (Value.func (.func 58) #[] #[]) [t18, (Value.int .i64 30)]) w19 fun t19_2 w20 =>
      A9 (setD D10 5) t5 t20 t19_2 t18 t17 t16 t15 t14 w20) (A9 (setD D10 5) t5 t20 undef t18 t17 t16 t15 t14 w19)) ∧
    (∀ D10 : Nat → Bool, D10 6 = false → D10 3 = true → D10 5 = true → ∀ t5 t20 t19 t18 t17 t16 t15 t14 : Value, ∀ w21 : World, A9 D10 t5 t20 t19 t18 t17 t16 t15 t14 w21 →
      Run Try.prog (sOp (.pick (.const t17) (.const t19) (.const (Value.bool false))) 4) w21 fun t20_2 w22 =>
      A9 (setD D10 6) t5 t20_2 t19 t18 t17 t16 t15 t14 w22) ∧
    (∀ D10 : Nat → Bool, D10 7 = false → D10 0 = true → D10 5 = true → D10 0 = true → ∀ t5 t20 t19 t18 t17 t16 t15 t14 : Value, ∀ w23 : World, A9 D10 t5 t20 t19 t18 t17 t16 t15 t14 w23 →
      Run Try.prog (sOp (.store 30 (.const t4) (.const t14)) 0) w23 fun _ w24 =>
      A9 (setD D10 7) t5 t20 t19 t18 t17 t16 t15 t14 w24) ∧
    (∀ D10 : Nat → Bool, D10 8 = false → D10 6 = true → D10 7 = true → D10 0 = true → D10 1 = true → D10 2 = true → D10 3 = true → D10 4 = true → D10 5 = true → D10 6 = true → D10 7 = true → ∀ t5 t20 t19 t18 t17 t16 t15 t14 : Value, ∀ w25 : World, A9 D10 t5 t20 t19 t18 t17 t16 t15 t14 w25 →
      A9 (setD D10 8) t20 t20 t19 t18 t17 t16 t15 t14 w25) ∧
    True) ∧
  ∀ D10 : Nat → Bool, D10 8 = true → D10 7 = true → D10 6 = true → D10 5 = true → D10 4 = true → D10 3 = true → D10 2 = true → D10 1 = true → D10 0 = true → ∀ t5 t20 t19 t18 t17 t16 t15 t14 : Value, ∀ w26 : World, A9 D10 t5 t20 t19 t18 t17 t16 t15 t14 w26 →
  (LoadV Try.prog 30 t4 w26 fun r0 => R (.returned (.tuple #[r0, t5])) w26))
theorem calls_s_l6Small {p0 p1 : Value} {w : World} {R : Ending → World → Prop} (h : sh_s_l6Small p0 p1 w R) : Calls Try.prog 33 #[p0, p1] w R :=
  calls_sh .leaf [p0, p1] mixed Try.func33 (by kernel_rfl) (by kernel_rfl) h


/- loop.example/prologserver/spec.l1Renumber : function 34 -/
def sh_s_l1Renumber (p0 : Value) (w : World) (R : Ending → World → Prop) : Prop :=
  Run Try.prog (sBuildSlice 74 0 []) w fun t7 w1 =>
  (∃ (I2 : Value → Value → World → Prop) (m3 : Value → Value → World → Nat), I2 (Value.int .i64 0) t7 w1 ∧
  ∀ t4 _ _ t3 _ _ _ _ _ _ _ _ _ _ : Value, ∀ w4 : World, I2 t4 t3 w4 →
  Run Try.prog (sBuiltin .len #[28] 3 [false] [p0]) w4 fun t10_2 w5 =>
  Run Try.prog (sBin .lss 3 false false t4 t10_2) w5 fun t11_2 w6 =>
  CondV t11_2 (
    Run Try.prog (sOp (.indexAddr 28 (.const p0) (.const t4)) 0) w6 fun t17_2 w7 =>
  Run Try.prog (sOp (.load 30 (.const t17_2)) 30) w7 fun t18_2 w8 =>
  Run Try.prog (sCall (Value.func (.func 59) #[] #[]) [t3, t18_2]) w8 fun t19_2 w9 =>
  Run Try.prog (sBin .add 3 false true t4 (Value.int .i64 1)) w9 fun t13_2 w10 =>
  I2 t13_2 t19_2 w10 ∧ m3 t13_2 t19_2 w10 < m3 t4 t3 w4) (
    Run Try.prog (sBuildSlice 28 0 []) w6 fun t20 w11 =>
  (∃ (I12 : Value → Value → World → Prop) (m13 : Value → Value → World → Nat), I12 (Value.int .i64 0) t20 w11 ∧
  ∀ t6 _ _ t5 _ _ _ _ _ _ _ _ _ _ _ _ _ : Value, ∀ w14 : World, I12 t6 t5 w14 →
  Run Try.prog (sBuiltin .len #[28] 3 [false] [p0]) w14 fun t23_2 w15 =>
  Run Try.prog (sBin .lss 3 false false t6 t23_2) w15 fun t24_2 w16 =>
  CondV t24_2 (
    Run Try.prog (sOp (.indexAddr 28 (.const p0) (.const t6)) 0) w16 fun t30_2 w17 =>
  Run Try.prog (sOp (.load 30 (.const t30_2)) 30) w17 fun t31_2 w18 =>
  Run Try.prog (sCall (Value.func (.func 60) #[] #[]) [t31_2, t3]) w18 fun t33_2 w19 =>
  Run Try.prog (sBuildSlice 28 1 [(0, t33_2)]) w19 fun t34_2 w20 =>
  Run Try.prog (sBuiltin .append #[28, 28] 28 [false, false] [t5, t34_2]) w20 fun t35_2 w21 =>
  Run Try.prog (sBin .add 3 false true t6 (Value.int .i64 1)) w21 fun t26_2 w22 =>
  I12 t26_2 t35_2 w22 ∧ m13 t26_2 t35_2 w22 < m13 t6 t5 w14) (
    R (.returned t5) w16))))
theorem calls_s_l1Renumber {p0 : Value} {w : World} {R : Ending → World → Prop} (h : sh_s_l1Renumber p0 w R) : Calls Try.prog 34 #[p0] w R :=
  calls_sh (.seq none .leaf (.seq none .leaf (.seq none (.seq none .leaf (.one (.loop [4, 3] .leaf))) (.seq none .leaf (.seq none (.seq none .leaf (.one (.loop [6, 5] .leaf))) .leaf))))) [p0] mixed Try.func34 (by kernel_rfl) (by kernel_rfl) h


/- loop.example/prologserver/spec.l1Copy : function 35 -/
def sh_s_l1Copy (p0 : Value) (w : World) (R : Ending → World → Prop) : Prop :=
  Run Try.prog (sOp (.box 30 (.const p0)) 0) w fun t1 w1 =>
  Run Try.prog (sOp (.alloc 30) 0) w1 fun t2 w2 =>
  Run Try.prog (sOp (.fieldAddr 30 (.const t1) 0) 0) w2 fun t5 w3 =>
  Run Try.prog (sOp (.load 3 (.const t5)) 3) w3 fun t6 w4 =>
  Run Try.prog (sOp (.fieldAddr 30 (.const t1) 1) 0) w4 fun t7 w5 =>
  Run Try.prog (sOp (.load 3 (.const t7)) 3) w5 fun t8 w6 =>
  Run Try.prog (sOp (.fieldAddr 30 (.const t1) 2) 0) w6 fun t9 w7 =>
  Run Try.prog (sOp (.load 9 (.const t9)) 9) w7 fun t10 w8 =>
  Run Try.prog (sBuild 30 [(0, t6), (1, t8), (2, t10)]) w8 fun t11 w9 =>
  Run Try.prog (sOp (.alloc 30) 0) w9 fun t3 w10 =>
  Run Try.prog (sOp (.store 30 (.const t3) (.const t11)) 0) w10 fun _u w11 =>
  (∃ (I12 : Value → World → Prop) (m13 : Value → World → Nat), I12 (Value.int .i64 0) w11 ∧
  ∀ t4 _ _ t29 t28 t27 t26 t25 t24 t23 t22 t21 t20 t19 _ _ _ _ _ : Value, ∀ w14 : World, I12 t4 w14 →
  Run Try.prog (sOp (.fieldAddr 30 (.const t1) 3) 0) w14 fun t13_2 w15 =>
  Run Try.prog (sOp (.load 28 (.const t13_2)) 28) w15 fun t14_2 w16 =>
  Run Try.prog (sBuiltin .len #[28] 3 [false] [t14_2]) w16 fun t15_2 w17 =>
  Run Try.prog (sBin .lss 3 false false t4 t15_2) w17 fun t16_2 w18 =>
  CondV t16_2 (
    (∃ A19 : (Nat → Bool) → Value → Value → Value → Value → Value → Value → Value → Value → Value → Value → Value → World → Prop, A19 (fun _ => false) t29 t28 t27 t26 t25 t24 t23 t22 t21 t20 t19 { w18 with drawn := w18.drawn + 1 } ∧ (
    (∀ D20 : Nat → Bool, D20 0 = false → ∀ t29_2 t28_2 t27_2 t26_2 t25_2 t24_2 t23_2 t22_2 t21_2 t20_2 t19_2 : Value, ∀ w21 : World, A19 D20 t29_2 t28_2 t27_2 t26_2 t25_2 t24_2 t23_2 t22_2 t21_2 t20_2 t19_2 w21 →
      Run Try.prog (sOp (.fieldAddr 30 (.const t3) 3) 0) w21 fun t19_3 w22 =>
      A19 (setD D20 0) t29_2 t28_2 t27_2 t26_2 t25_2 t24_2 t23_2 t22_2 t21_2 t20_2 t19_3 w22) ∧
    (∀ D20 : Nat → Bool, D20 1 = false → D20 0 = true → ∀ t29_2 t28_2 t27_2 t26_2 t25_2 t24_2 t23_2 t22_2 t21_2 t20_2 t19_2 : Value, ∀ w23 : World, A19 D20 t29_2 t28_2 t27_2 t26_2 t25_2 t24_2 t23_2 t22_2 t21_2 t20_2 t19_2 w23 →
      Run Try.prog (sOp (.load 28 (.const t19_2)) 28) w23 fun t20_3 w24 =>
      A19 (setD D20 1) t29_2 t28_2 t27_2 t26_2 t25_2 t24_2 t23_2 t22_2 t21_2 t20_3 t19_2 w24) ∧
    (∀ D20 : Nat → Bool, D20 2 = false → ∀ t29_2 t28_2 t27_2 t26_2 t25_2 t24_2 t23_2 t22_2 t21_2 t20_2 t19_2 : Value, ∀ w25 : World, A19 D20 t29_2 t28_2 t27_2 t26_2 t25_2 t24_2 t23_2 t22_2 t21_2 t20_2 t19_2 w25 →
      Run Try.prog (sOp (.fieldAddr 30 (.const t1) 3) 0) w25 fun t21_3 w26 =>
      A19 (setD D20 2) t29_2 t28_2 t27_2 t26_2 t25_2 t24_2 t23_2 t22_2 t21_3 t20_2 t19_2 w26) ∧
    (∀ D20 : Nat → Bool, D20 3 = false → D20 2 = true → ∀ t29_2 t28_2 t27_2 t26_2 t25_2 t24_2 t23_2 t22_2 t21_2 t20_2 t19_2 : Value, ∀ w27 : World, A19 D20 t29_2 t28_2 t27_2 t26_2 t25_2 t24_2 t23_2 t22_2 t21_2 t20_2 t19_2 w27 →
      Run Try.prog (sOp (.load 28 (.const t21_2)) 28) w27 fun t22_3 w28 =>
      A19 (setD D20 3) t29_2 t28_2 t27_2 t26_2 t25_2 t24_2 t23_2 t22_3 t21_2 t20_2 t19_2 w28) ∧
    (∀ D20 : Nat → Bool, D20 4 = false → ∀ t29_2 t28_2 t27_2 t26_2 t25_2 t24_2 t23_2 t22_2 t21_2 t20_2 t19_2 : Value, ∀ w29 : World, A19 D20 t29_2 t28_2 t27_2 t26_2 t25_2 t24_2 t23_2 t22_2 t21_2 t20_2 t19_2 w29 →
      A19 (setD D20 4) t29_2 t28_2 t27_2 t26_2 t25_2 t24_2 t4 t22_2 t21_2 t20_2 t19_2 w29) ∧
    (∀ D20 : Nat → Bool, D20 5 = false → D20 3 = true → D20 4 = true → ∀ t29_2 t28_2 t27_2 t26_2 t25_2 t24_2 t23_2 t22_2 t21_2 t20_2 t19_2 : Value, ∀ w30 : World, A19 D20 t29_2 t28_2 t27_2 t26_2 t25_2 t24_2 t23_2 t22_2 t21_2 t20_2 t19_2 w30 →
      Run Try.prog (sOp (.indexAddr 28 (.const t22_2) (.const t23_2)) 0) w30 fun t24_3 w31 =>
      A19 (setD D20 5) t29_2 t28_2 t27_2 t26_2 t25_2 t24_3 t23_2 t22_2 t21_2 t20_2 t19_2 w31) ∧
    (∀ D20 : Nat → Bool, D20 6 = false → D20 5 = true → ∀ t29_2 t28_2 t27_2 t26_2 t25_2 t24_2 t23_2 t22_2 t21_2 t20_2 t19_2 : Value, ∀ w32 : World, A19 D20 t29_2 t28_2 t27_2 t26_2 t25_2 t24_2 t23_2 t22_2 t21_2 t20_2 t19_2 w32 →
      Run Try.prog (sOp (.load 30 (.const t24_2)) 30) w32 fun t25_3 w33 =>
      A19 (setD D20 6) t29_2 t28_2 t27_2 t26_2 t25_3 t24_2 t23_2 t22_2 t21_2 t20_2 t19_2 w33) ∧
    (∀ D20 : Nat → Bool, D20 7 = false → D20 6 = true → ∀ t29_2 t28_2 t27_2 t26_2 t25_2 t24_2 t23_2 t22_2 t21_2 t20_2 t19_2 : Value, ∀ w34 : World, A19 D20 t29_2 t28_2 t27_2 t26_2 t25_2 t24_2 t23_2 t22_2 t21_2 t20_2 t19_2 w34 →
      Run Try.prog (sCall (Value.func (.func 35) #[] #[]) [t25_2]) w34 fun t26_3 w35 =>
      A19 (setD D20 7) t29_2 t28_2 t27_2 t26_3 t25_2 t24_2 t23_2 t22_2 t21_2 t20_2 t19_2 w35) ∧
    (∀ D20 : Nat → Bool, D20 8 = false → D20 7 = true → ∀ t29_2 t28_2 t27_2 t26_2 t25_2 t24_2 t23_2 t22_2 t21_2 t20_2 t19_2 : Value, ∀ w36 : World, A19 D20 t29_2 t28_2 t27_2 t26_2 t25_2 t24_2 t23_2 t22_2 t21_2 t20_2 t19_2 w36 →
      Run Try.prog (sBuildSlice 28 1 [(0, t26_2)]) w36 fun t27_3 w37 =>
      A19 (setD D20 8) t29_2 t28_2 t27_3 t26_2 t25_2 t24_2 t23_2 t22_2 t21_2 t20_2 t19_2 w37) ∧
    (∀ D20 : Nat → Bool, D20 9 = false → D20 1 = true → D20 8 = true → D20 7 = true → ∀ t29_2 t28_2 t27_2 t26_2 t25_2 t24_2 t23_2 t22_2 t21_2 t20_2 t19_2 : Value, ∀ w38 : World, A19 D20 t29_2 t28_2 t27_2 t26_2 t25_2 t24_2 t23_2 t22_2 t21_2 t20_2 t19_2 w38 →
      Run Try.prog (sBuiltin .append #[28, 28] 28 [false, false] [t20_2, t27_2]) w38 fun t28_3 w39 =>
      A19 (setD D20 9) t29_2 t28_3 t27_2 t26_2 t25_2 t24_2 t23_2 t22_2 t21_2 t20_2 t19_2 w39) ∧
    (∀ D20 : Nat → Bool, D20 10 = false → D20 0 = true → D20 1 = true → D20 2 = true → D20 3 = true → D20 4 = true → D20 5 = true → D20 6 = true → D20 7 = true → D20 8 = true → D20 9 = true → ∀ t29_2 t28_2 t27_2 t26_2 t25_2 t24_2 t23_2 t22_2 t21_2 t20_2 t19_2 : Value, ∀ w40 : World, A19 D20 t29_2 t28_2 t27_2 t26_2 t25_2 t24_2 t23_2 t22_2 t21_2 t20_2 t19_2 w40 →
      Run Try.prog (sOp (.fieldAddr 30 (.const t3) 3) 0) w40 fun t29_3 w41 =>
      A19 (setD D20 10) t29_3 t28_2 t27_2 t26_2 t25_2 t24_2 t23_2 t22_2 t21_2 t20_2 t19_2 w41) ∧
    (∀ D20 : Nat → Bool, D20 11 = false → D20 10 = true → D20 9 = true → D20 9 = true → D20 0 = true → D20 1 = true → D20 2 = true → D20 3 = true → D20 4 = true → D20 5 = true → D20 6 = true → D20 7 = true → D20 8 = true → D20 9 = true → ∀ t29_2 t28_2 t27_2 t26_2 t25_2 t24_2 t23_2 t22_2 t21_2 t20_2 t19_2 : Value, ∀ w42 : World, A19 D20 t29_2 t28_2 t27_2 t26_2 t25_2 t24_2 t23_2 t22_2 t21_2 t20_2 t19_2 w42 →
      Run Try.prog (sOp (.store 28 (.const t29_2) (.const t28_2)) 0) w42 fun _u w43 =>
      A19 (setD D20 11) t29_2 t28_2 t27_2 t26_2 t25_2 t24_2 t23_2 t22_2 t21_2 t20_2 t19_2 w43) ∧
    True) ∧
  ∀ D20 : Nat → Bool, D20 11 = true → D20 10 = true → D20 9 = true → D20 8 = true → D20 7 = true → D20 6 = true → D20 5 = true → D20 4 = true → D20 3 = true → D20 2 = true → D20 1 = true → D20 0 = true → ∀ t29_2 t28_2 t27_2 t26_2 t25_2 t24_2 t23_2 t22_2 t21_2 t20_2 t19_2 : Value, ∀ w44 : World, A19 D20 t29_2 t28_2 t27_2 t26_2 t25_2 t24_2 t23_2 t22_2 t21_2 t20_2 t19_2 w44 →
  Run Try.prog (sBin .add 3 false true t4 (Value.int .i64 1)) w44 fun t18_2 w45 =>
  I12 t18_2 w45 ∧ m13 t18_2 w45 < m13 t4 w14)) (
    Run Try.prog (sOp (.load 30 (.const t3)) 30) w18 fun t30 w46 =>
  Run Try.prog (sOp (.store 30 (.const t2) (.const t30)) 0) w46 fun _ w47 =>
  (LoadV Try.prog 30 t2 w47 fun r0 => R (.returned r0) w47)))
theorem calls_s_l1Copy {p0 : Value} {w : World} {R : Ending → World → Prop} (h : sh_s_l1Copy p0 w R) : Calls Try.prog 35 #[p0] w R :=
  calls_sh (.seq none .leaf (.seq none .leaf (.seq none (.seq none .leaf (.one (.loop [4] .leaf))) .leaf))) [p0] mixed Try.func35 (by kernel_rfl) (by kernel_rfl) h


/- loop.example/prologserver/impl.TermValid : function 36 -/
def sh_i_TermValid (p0 : Value) (w : World) (R : Ending → World → Prop) : Prop :=
  Run Try.prog (sOp (.box 30 (.const p0)) 0) w fun t1 w1 =>
  Run Try.prog (sOp (.alloc 3) 0) w1 fun t3 w2 =>
  Run Try.prog (sOp (.store 3 (.const t3) (.const (Value.int .i64 0))) 0) w2 fun _ w3 =>
  Run Try.prog (sOp (.load 30 (.const t1)) 30) w3 fun t4 w4 =>
  Run Try.prog (sCall (Value.func (.func 61) #[] #[]) [t4, (Value.int .i64 1), t3]) w4 fun t5 w5 =>
  R (.returned t5) w5
theorem calls_i_TermValid {p0 : Value} {w : World} {R : Ending → World → Prop} (h : sh_i_TermValid p0 w R) : Calls Try.prog 36 #[p0] w R :=
  calls_sh .leaf [p0] mixed Try.func36 (by kernel_rfl) (by kernel_rfl) h


/- loop.example/prologserver/impl.isPlain : function 37 -/
def sh_i_isPlain (p0 : Value) (w : World) (R : Ending → World → Prop) : Prop :=
  Run Try.prog (sOp (.box 30 (.const p0)) 0) w fun t1 w1 =>
  Run Try.prog (sOp (.fieldAddr 30 (.const t1) 0) 0) w1 fun t3 w2 =>
  Run Try.prog (sOp (.load 3 (.const t3)) 3) w2 fun t4 w3 =>
  Run Try.prog (sBin .eql 3 false true t4 (Value.int .i64 3)) w3 fun t5 w4 =>
  GuardV t5 true (
    Run Try.prog (sOp (.fieldAddr 30 (.const t1) 2) 0) w4 fun t7 w5 =>
    Run Try.prog (sOp (.load 9 (.const t7)) 9) w5 fun t8 w6 =>
    Run Try.prog (sCall (Value.func (.func 62) #[] #[]) [t8]) w6 fun t9 w7 =>
    Run Try.prog (sOp (.pick (.const t5) (.const t9) (.const (Value.bool false))) 4) w7 fun t10 w8 =>
    GuardV t10 true (
      Run Try.prog (sOp (.fieldAddr 30 (.const t1) 2) 0) w8 fun t12 w9 =>
      Run Try.prog (sOp (.load 9 (.const t12)) 9) w9 fun t13 w10 =>
      Run Try.prog (sCall (Value.func (.func 63) #[] #[]) [t13]) w10 fun t14 w11 =>
      Run Try.prog (sOp (.unOp .not 4 (.const t14)) 4) w11 fun t15 w12 =>
      Run Try.prog (sOp (.pick (.const t10) (.const t15) (.const (Value.bool false))) 4) w12 fun t16 w13 =>
      GuardV t16 true (
        Run Try.prog (sOp (.load 30 (.const t1)) 30) w13 fun t18 w14 =>
        Run Try.prog (sCall (Value.func (.func 64) #[] #[]) [t18]) w14 fun t19 w15 =>
        Run Try.prog (sOp (.unOp .not 4 (.const t19)) 4) w15 fun t20 w16 =>
        Run Try.prog (sOp (.pick (.const t16) (.const t20) (.const (Value.bool false))) 4) w16 fun t21 w17 =>
        R (.returned t21) w17) (
        Run Try.prog (sOp (.pick (.const t16) (.const undef) (.const (Value.bool false))) 4) w13 fun t21_2 w18 =>
        R (.returned t21_2) w18)) (
      Run Try.prog (sOp (.pick (.const t10) (.const undef) (.const (Value.bool false))) 4) w8 fun t16_2 w19 =>
      GuardV t16_2 true (
        Run Try.prog (sOp (.load 30 (.const t1)) 30) w19 fun t18_2 w20 =>
        Run Try.prog (sCall (Value.func (.func 64) #[] #[]) [t18_2]) w20 fun t19_2 w21 =>
        Run Try.prog (sOp (.unOp .not 4 (.const t19_2)) 4) w21 fun t20_2 w22 =>
        Run Try.prog (sOp (.pick (.const t16_2) (.const t20_2) (.const (Value.bool false))) 4) w22 fun t21_3 w23 =>
        R (.returned t21_3) w23) (
        Run Try.prog (sOp (.pick (.const t16_2) (.const undef) (.const (Value.bool false))) 4) w19 fun t21_4 w24 =>
        R (.returned t21_4) w24))) (
    Run Try.prog (sOp (.pick (.const t5) (.const undef) (.const (Value.bool false))) 4) w4 fun t10_2 w25 =>
    GuardV t10_2 true (
      Run Try.prog (sOp (.fieldAddr 30 (.const t1) 2) 0) w25 fun t12_2 w26 =>
      Run Try.prog (sOp (.load 9 (.const t12_2)) 9) w26 fun t13_2 w27 =>
      Run Try.prog (sCall (Value.func (.func 63) #[] #[]) [t13_2]) w27 fun t14_2 w28 =>
      Run Try.prog (sOp (.unOp .not 4 (.const t14_2)) 4) w28 fun t15_2 w29 =>
      Run Try.prog (sOp (.pick (.const t10_2) (.const t15_2) (.const (Value.bool false))) 4) w29 fun t16_3 w30 =>
      GuardV t16_3 true (
        Run Try.prog (sOp (.load 30 (.const t1)) 30) w30 fun t18_3 w31 =>
        Run Try.prog (sCall (Value.func (.func 64) #[] #[]) [t18_3]) w31 fun t19_3 w32 =>
        Run Try.prog (sOp (.unOp .not 4 (.const t19_3)) 4) w32 fun t20_3 w33 =>
        Run Try.prog (sOp (.pick (.const t16_3) (.const t20_3) (.const (Value.bool false))) 4) w33 fun t21_5 w34 =>
        R (.returned t21_5) w34) (
        Run Try.prog (sOp (.pick (.const t16_3) (.const undef) (.const (Value.bool false))) 4) w30 fun t21_6 w35 =>
        R (.returned t21_6) w35)) (
      Run Try.prog (sOp (.pick (.const t10_2) (.const undef) (.const (Value.bool false))) 4) w25 fun t16_4 w36 =>
      GuardV t16_4 true (
        Run Try.prog (sOp (.load 30 (.const t1)) 30) w36 fun t18_4 w37 =>
        Run Try.prog (sCall (Value.func (.func 64) #[] #[]) [t18_4]) w37 fun t19_4 w38 =>
        Run Try.prog (sOp (.unOp .not 4 (.const t19_4)) 4) w38 fun t20_4 w39 =>
        Run Try.prog (sOp (.pick (.const t16_4) (.const t20_4) (.const (Value.bool false))) 4) w39 fun t21_7 w40 =>
        R (.returned t21_7) w40) (
        Run Try.prog (sOp (.pick (.const t16_4) (.const undef) (.const (Value.bool false))) 4) w36 fun t21_8 w41 =>
        R (.returned t21_8) w41)))
theorem calls_i_isPlain {p0 : Value} {w : World} {R : Ending → World → Prop} (h : sh_i_isPlain p0 w R) : Calls Try.prog 37 #[p0] w R :=
  calls_sh .leaf [p0] mixed Try.func37 (by kernel_rfl) (by kernel_rfl) h


/- loop.example/prologserver/impl.goalsValid : function 38 -/
def sh_i_goalsValid (p0 : Value) (w : World) (R : Ending → World → Prop) : Prop :=
  Run Try.prog (sBuiltin .len #[28] 3 [false] [p0]) w fun t4 w1 =>
  Run Try.prog (sBin .leq 3 false true t4 (Value.int .i64 6)) w1 fun t5 w2 =>
  GuardV t5 true (
    Run Try.prog (sCall (Value.func (.func 65) #[] #[]) [p0, (Value.func (.func 66) #[] #[])]) w2 fun t8 w3 =>
    Run Try.prog (sOp (.unOp .not 4 (.const t8)) 4) w3 fun t9 w4 =>
    Run Try.prog (sOp (.pick (.const t5) (.const t9) (.const (Value.bool false))) 4) w4 fun t10 w5 =>
    R (.returned t10) w5) (
    Run Try.prog (sOp (.pick (.const t5) (.const undef) (.const (Value.bool false))) 4) w2 fun t10_2 w6 =>
    R (.returned t10_2) w6)
theorem calls_i_goalsValid {p0 : Value} {w : World} {R : Ending → World → Prop} (h : sh_i_goalsValid p0 w R) : Calls Try.prog 38 #[p0] w R :=
  calls_sh .leaf [p0] mixed Try.func38 (by kernel_rfl) (by kernel_rfl) h


/- loop.example/prologserver/impl.newStore : function 39 -/
def sh_i_newStore (w : World) (R : Ending → World → Prop) : Prop :=
  Run Try.prog (sOp (.makeMap 80 none) 80) w fun t1 w1 =>
  Run Try.prog (sBuild 82 [(0, t1)]) w1 fun t2 w2 =>
  Run Try.prog (sOp (.box 82 (.const t2)) 59) w2 fun t3 w3 =>
  R (.returned t3) w3
theorem calls_i_newStore {w : World} {R : Ending → World → Prop} (h : sh_i_newStore w R) : Calls Try.prog 39 #[] w R :=
  calls_sh .leaf [] mixed Try.func39 (by kernel_rfl) (by kernel_rfl) h


/- loop.example/prologserver/impl.resolvent$1 : function 40 -/
def sh_i_resolvent_1 (p0 : Value) (w : World) (R : Ending → World → Prop) : Prop :=
  Run Try.prog (sOp (.alloc 30) 0) w fun t2 w1 =>
  Run Try.prog (sBin .add 3 false true p0 (Value.int .i64 25)) w1 fun t4 w2 =>
  Run Try.prog (sBin .add 3 false true t4 (Value.int .i64 1)) w2 fun t5 w3 =>
  Run Try.prog (sCall (Value.func (.func 41) #[] #[]) [t5]) w3 fun t6 w4 =>
  Run Try.prog (sOp (.store 30 (.const t2) (.const t6)) 0) w4 fun _ w5 =>
  (LoadV Try.prog 30 t2 w5 fun r0 => R (.returned r0) w5)
theorem calls_i_resolvent_1 {p0 : Value} {w : World} {R : Ending → World → Prop} (h : sh_i_resolvent_1 p0 w R) : Calls Try.prog 40 #[p0] w R :=
  calls_sh .leaf [p0] mixed Try.func40 (by kernel_rfl) (by kernel_rfl) h


/- loop.example/prologserver/impl.variable : function 41 -/
def sh_i_variable (p0 : Value) (w : World) (R : Ending → World → Prop) : Prop :=
  Run Try.prog (sOp (.alloc 30) 0) w fun t2 w1 =>
  Run Try.prog (sBuild 30 [(0, (Value.int .i64 1)), (1, p0)]) w1 fun t4 w2 =>
  Run Try.prog (sOp (.store 30 (.const t2) (.const t4)) 0) w2 fun _ w3 =>
  (LoadV Try.prog 30 t2 w3 fun r0 => R (.returned r0) w3)
theorem calls_i_variable {p0 : Value} {w : World} {R : Ending → World → Prop} (h : sh_i_variable p0 w R) : Calls Try.prog 41 #[p0] w R :=
  calls_sh .leaf [p0] mixed Try.func41 (by kernel_rfl) (by kernel_rfl) h


/- (*loop.example/prologserver/impl.store).unify : function 42 -/
def sh_i_store_unify (p0 p1 p2 : Value) (w : World) (R : Ending → World → Prop) : Prop :=
  Run Try.prog (sOp (.box 30 (.const p1)) 0) w fun t4 w1 =>
  Run Try.prog (sOp (.box 30 (.const p2)) 0) w1 fun t5 w2 =>
  (∃ A3 : (Nat → Bool) → Value → Value → Value → Value → Value → Value → World → Prop, A3 (fun _ => false) undef undef undef undef undef undef { w2 with drawn := w2.drawn + 1 } ∧ (
    (∀ D4 : Nat → Bool, D4 0 = false → ∀ t13 t12 t11 t10 t9 t8 : Value, ∀ w5 : World, A3 D4 t13 t12 t11 t10 t9 t8 w5 →
      A3 (setD D4 0) t13 t12 t11 t10 t9 p0 w5) ∧
    (∀ D4 : Nat → Bool, D4 1 = false → ∀ t13 t12 t11 t10 t9 t8 : Value, ∀ w6 : World, A3 D4 t13 t12 t11 t10 t9 t8 w6 →
      Run Try.prog (sOp (.load 30 (.const t4)) 30) w6 fun t9_2 w7 =>
      A3 (setD D4 1) t13 t12 t11 t10 t9_2 t8 w7) ∧
    (∀ D4 : Nat → Bool, D4 2 = false → D4 0 = true → D4 1 = true → ∀ t13 t12 t11 t10 t9 t8 : Value, ∀ w8 : World, A3 D4 t13 t12 t11 t10 t9 t8 w8 →
      Run Try.prog (sCall (Value.func (.func 68) #[] #[]) [t8, t9]) w8 fun t10_2 w9 =>
      A3 (setD D4 2) t13 t12 t11 t10_2 t9 t8 w9) ∧
    (∀ D4 : Nat → Bool, D4 3 = false → ∀ t13 t12 t11 t10 t9 t8 : Value, ∀ w10 : World, A3 D4 t13 t12 t11 t10 t9 t8 w10 →
      A3 (setD D4 3) t13 t12 p0 t10 t9 t8 w10) ∧
    (∀ D4 : Nat → Bool, D4 4 = false → ∀ t13 t12 t11 t10 t9 t8 : Value, ∀ w11 : World, A3 D4 t13 t12 t11 t10 t9 t8 w11 →
      Run Try.prog (sOp (.load 30 (.const t5)) 30) w11 fun t12_2 w12 =>
      A3 (setD D4 4) t13 t12_2 t11 t10 t9 t8 w12) ∧
    (∀ D4 : Nat → Bool, D4 5 = false → D4 3 = true → D4 4 = true → D4 2 = true → ∀ t13 t12 t11 t10 t9 t8 : Value, ∀ w13 : World, A3 D4 t13 t12 t11 t10 t9 t8 w13 →
      Run Try.prog (sCall (Value.func (.func 68) #[] #[]) [t11, t12]) w13 fun t13_2 w14 =>
      A3 (setD D4 5) t13_2 t12 t11 t10 t9 t8 w14) ∧
    (∀ D4 : Nat → Bool, D4 6 = false → D4 2 = true → D4 5 = true → D4 0 = true → D4 1 = true → D4 2 = true → ∀ t13 t12 t11 t10 t9 t8 : Value, ∀ w15 : World, A3 D4 t13 t12 t11 t10 t9 t8 w15 →
      Run Try.prog (sOp (.store 30 (.const t4) (.const t10)) 0) w15 fun _u w16 =>
      A3 (setD D4 6) t13 t12 t11 t10 t9 t8 w16) ∧
    (∀ D4 : Nat → Bool, D4 7 = false → D4 5 = true → D4 6 = true → D4 0 = true → D4 1 = true → D4 2 = true → D4 3 = true → D4 4 = true → D4 5 = true → D4 6 = true → ∀ t13 t12 t11 t10 t9 t8 : Value, ∀ w17 : World, A3 D4 t13 t12 t11 t10 t9 t8 w17 →
      Run Try.prog (sOp (.store 30 (.const t5) (.const t13)) 0) w17 fun _ w18 =>
      A3 (setD D4 7) t13 t12 t11 t10 t9 t8 w18) ∧
    True) ∧
  ∀ D4 : Nat → Bool, D4 7 = true → D4 6 = true → D4 5 = true → D4 4 = true → D4 3 = true → D4 2 = true → D4 1 = true → D4 0 = true → ∀ t13 t12 t11 t10 t9 t8 : Value, ∀ w19 : World, A3 D4 t13 t12 t11 t10 t9 t8 w19 →
  (∃ J20 : Value → World → Prop, (
    Run Try.prog (sOp (.fieldAddr 30 (.const t4) 0) 0) w19 fun t15 w21 =>
    Run Try.prog (sOp (.load 3 (.const t15)) 3) w21 fun t16 w22 =>
    Run Try.prog (sBin .eql 3 false true t16 (Value.int .i64 1)) w22 fun t17 w23 =>
    GuardV t17 true (
      Run Try.prog (sOp (.fieldAddr 30 (.const t5) 0) 0) w23 fun t19 w24 =>
      Run Try.prog (sOp (.load 3 (.const t19)) 3) w24 fun t20 w25 =>
      Run Try.prog (sBin .eql 3 false true t20 (Value.int .i64 1)) w25 fun t21 w26 =>
      Run Try.prog (sOp (.pick (.const t17) (.const t21) (.const (Value.bool false))) 4) w26 fun t22 w27 =>
      GuardV t22 true (
        Run Try.prog (sOp (.fieldAddr 30 (.const t4) 1) 0) w27 fun t24 w28 =>
        Run Try.prog (sOp (.load 3 (.const t24)) 3) w28 fun t25 w29 =>
        Run Try.prog (sOp (.fieldAddr 30 (.const t5) 1) 0) w29 fun t26 w30 =>
        Run Try.prog (sOp (.load 3 (.const t26)) 3) w30 fun t27 w31 =>
        Run Try.prog (sBin .eql 3 false false t25 t27) w31 fun t28 w32 =>
        Run Try.prog (sOp (.pick (.const t22) (.const t28) (.const (Value.bool false))) 4) w32 fun t29 w33 =>
        J20 t29 w33) (
        Run Try.prog (sOp (.pick (.const t22) (.const undef) (.const (Value.bool false))) 4) w27 fun t29_2 w34 =>
        J20 t29_2 w34)) (
      Run Try.prog (sOp (.pick (.const t17) (.const undef) (.const (Value.bool false))) 4) w23 fun t22_2 w35 =>
      GuardV t22_2 true (
        Run Try.prog (sOp (.fieldAddr 30 (.const t4) 1) 0) w35 fun t24_2 w36 =>
        Run Try.prog (sOp (.load 3 (.const t24_2)) 3) w36 fun t25_2 w37 =>
        Run Try.prog (sOp (.fieldAddr 30 (.const t5) 1) 0) w37 fun t26_2 w38 =>
        Run Try.prog (sOp (.load 3 (.const t26_2)) 3) w38 fun t27_2 w39 =>
        Run Try.prog (sBin .eql 3 false false t25_2 t27_2) w39 fun t28_2 w40 =>
        Run Try.prog (sOp (.pick (.const t22_2) (.const t28_2) (.const (Value.bool false))) 4) w40 fun t29_3 w41 =>
        J20 t29_3 w41) (
        Run Try.prog (sOp (.pick (.const t22_2) (.const undef) (.const (Value.bool false))) 4) w35 fun t29_4 w42 =>
        J20 t29_4 w42))) ∧
  ∀ t14 _ _ _ _ _ _ _ _ _ _ _ _ _ _ _ : Value, ∀ w43 : World, J20 t14 w43 →
  CondV t14 (
    R (.returned (Value.bool true)) w43) (
    Run Try.prog (sOp (.fieldAddr 30 (.const t4) 0) 0) w43 fun t31 w44 =>
    Run Try.prog (sOp (.load 3 (.const t31)) 3) w44 fun t32 w45 =>
    Run Try.prog (sBin .eql 3 false true t32 (Value.int .i64 1)) w45 fun t33 w46 =>
    CondV t33 (
      Run Try.prog (sOp (.fieldAddr 30 (.const t4) 1) 0) w46 fun t35 w47 =>
      Run Try.prog (sOp (.load 3 (.const t35)) 3) w47 fun t36 w48 =>
      Run Try.prog (sOp (.load 30 (.const t5)) 30) w48 fun t37 w49 =>
      Run Try.prog (sCall (Value.func (.func 69) #[] #[]) [p0, t36, t37]) w49 fun t38 w50 =>
      R (.returned t38) w50) (
      Run Try.prog (sOp (.fieldAddr 30 (.const t5) 0) 0) w46 fun t40 w51 =>
      Run Try.prog (sOp (.load 3 (.const t40)) 3) w51 fun t41 w52 =>
      Run Try.prog (sBin .eql 3 false true t41 (Value.int .i64 1)) w52 fun t42 w53 =>
      CondV t42 (
        Run Try.prog (sOp (.fieldAddr 30 (.const t5) 1) 0) w53 fun t44 w54 =>
        Run Try.prog (sOp (.load 3 (.const t44)) 3) w54 fun t45 w55 =>
        Run Try.prog (sOp (.load 30 (.const t4)) 30) w55 fun t46 w56 =>
        Run Try.prog (sCall (Value.func (.func 69) #[] #[]) [p0, t45, t46]) w56 fun t47 w57 =>
        R (.returned t47) w57) (
        (∃ J58 : Value → World → Prop, (
          Run Try.prog (sOp (.fieldAddr 30 (.const t4) 0) 0) w53 fun t49 w59 =>
          Run Try.prog (sOp (.load 3 (.const t49)) 3) w59 fun t50 w60 =>
          Run Try.prog (sOp (.fieldAddr 30 (.const t5) 0) 0) w60 fun t51 w61 =>
          Run Try.prog (sOp (.load 3 (.const t51)) 3) w61 fun t52 w62 =>
          Run Try.prog (sBin .neq 3 false false t50 t52) w62 fun t53 w63 =>
          GuardV t53 false (
            Run Try.prog (sOp (.fieldAddr 30 (.const t4) 1) 0) w63 fun t55 w64 =>
            Run Try.prog (sOp (.load 3 (.const t55)) 3) w64 fun t56 w65 =>
            Run Try.prog (sOp (.fieldAddr 30 (.const t5) 1) 0) w65 fun t57 w66 =>
            Run Try.prog (sOp (.load 3 (.const t57)) 3) w66 fun t58 w67 =>
            Run Try.prog (sBin .neq 3 false false t56 t58) w67 fun t59 w68 =>
            Run Try.prog (sOp (.pick (.const t53) (.const (Value.bool true)) (.const t59)) 4) w68 fun t60 w69 =>
            GuardV t60 false (
              Run Try.prog (sOp (.fieldAddr 30 (.const t4) 2) 0) w69 fun t62 w70 =>
              Run Try.prog (sOp (.load 9 (.const t62)) 9) w70 fun t63 w71 =>
              Run Try.prog (sOp (.fieldAddr 30 (.const t5) 2) 0) w71 fun t64 w72 =>
              Run Try.prog (sOp (.load 9 (.const t64)) 9) w72 fun t65 w73 =>
              Run Try.prog (sBin .neq 9 false false t63 t65) w73 fun t66 w74 =>
              Run Try.prog (sOp (.pick (.const t60) (.const (Value.bool true)) (.const t66)) 4) w74 fun t67 w75 =>
              GuardV t67 false (
                Run Try.prog (sOp (.fieldAddr 30 (.const t4) 3) 0) w75 fun t69 w76 =>
                Run Try.prog (sOp (.load 28 (.const t69)) 28) w76 fun t70 w77 =>
                Run Try.prog (sBuiltin .len #[28] 3 [false] [t70]) w77 fun t71 w78 =>
                Run Try.prog (sOp (.fieldAddr 30 (.const t5) 3) 0) w78 fun t72 w79 =>
                Run Try.prog (sOp (.load 28 (.const t72)) 28) w79 fun t73 w80 =>
                Run Try.prog (sBuiltin .len #[28] 3 [false] [t73]) w80 fun t74 w81 =>
                Run Try.prog (sBin .neq 3 false false t71 t74) w81 fun t75 w82 =>
                Run Try.prog (sOp (.pick (.const t67) (.const (Value.bool true)) (.const t75)) 4) w82 fun t76 w83 =>
                J58 t76 w83) (
                Run Try.prog (sOp (.pick (.const t67) (.const (Value.bool true)) (.const undef)) 4) w75 fun t76_2 w84 =>
                J58 t76_2 w84)) (
              Run Try.prog (sOp (.pick (.const t60) (.const (Value.bool true)) (.const undef)) 4) w69 fun t67_2 w85 =>
              GuardV t67_2 false (
                Run Try.prog (sOp (.fieldAddr 30 (.const t4) 3) 0) w85 fun t69_2 w86 =>
                Run Try.prog (sOp (.load 28 (.const t69_2)) 28) w86 fun t70_2 w87 =>
                Run Try.prog (sBuiltin .len #[28] 3 [false] [t70_2]) w87 fun t71_2 w88 =>
                Run Try.prog (sOp (.fieldAddr 30 (.const t5) 3) 0) w88 fun t72_2 w89 =>
                Run Try.prog (sOp (.load 28 (.const t72_2)) 28) w89 fun t73_2 w90 =>
                Run Try.prog (sBuiltin .len #[28] 3 [false] [t73_2]) w90 fun t74_2 w91 =>
                Run Try.prog (sBin .neq 3 false false t71_2 t74_2) w91 fun t75_2 w92 =>
                Run Try.prog (sOp (.pick (.const t67_2) (.const (Value.bool true)) (.const t75_2)) 4) w92 fun t76_3 w93 =>
                J58 t76_3 w93) (
                Run Try.prog (sOp (.pick (.const t67_2) (.const (Value.bool true)) (.const undef)) 4) w85 fun t76_4 w94 =>
                J58 t76_4 w94))) (
            Run Try.prog (sOp (.pick (.const t53) (.const (Value.bool true)) (.const undef)) 4) w63 fun t60_2 w95 =>
            GuardV t60_2 false (
              Run Try.prog (sOp (.fieldAddr 30 (.const t4) 2) 0) w95 fun t62_2 w96 =>
              Run Try.prog (sOp (.load 9 (.const t62_2)) 9) w96 fun t63_2 w97 =>
              Run Try.prog (sOp (.fieldAddr 30 (.const t5) 2) 0) w97 fun t64_2 w98 =>
              Run Try.prog (sOp (.load 9 (.const t64_2)) 9) w98 fun t65_2 w99 =>
              Run Try.prog (sBin .neq 9 false false t63_2 t65_2) w99 fun t66_2 w100 =>
              Run Try.prog (sOp (.pick (.const t60_2) (.const (Value.bool true)) (.const t66_2)) 4) w100 fun t67_3 w101 =>
              GuardV t67_3 false (
                Run Try.prog (sOp (.fieldAddr 30 (.const t4) 3) 0) w101 fun t69_3 w102 =>
                Run Try.prog (sOp (.load 28 (.const t69_3)) 28) w102 fun t70_3 w103 =>
                Run Try.prog (sBuiltin .len #[28] 3 [false] [t70_3]) w103 fun t71_3 w104 =>
                Run Try.prog (sOp (.fieldAddr 30 (.const t5) 3) 0) w104 fun t72_3 w105 =>
                Run Try.prog (sOp (.load 28 (.const t72_3)) 28) w105 fun t73_3 w106 =>
                Run Try.prog (sBuiltin .len #[28] 3 [false] [t73_3]) w106 fun t74_3 w107 =>
                Run Try.prog (sBin .neq 3 false false t71_3 t74_3) w107 fun t75_3 w108 =>
                Run Try.prog (sOp (.pick (.const t67_3) (.const (Value.bool true)) (.const t75_3)) 4) w108 fun t76_5 w109 =>
                J58 t76_5 w109) (
                Run Try.prog (sOp (.pick (.const t67_3) (.const (Value.bool true)) (.const undef)) 4) w101 fun t76_6 w110 =>
                J58 t76_6 w110)) (
              Run Try.prog (sOp (.pick (.const t60_2) (.const (Value.bool true)) (.const undef)) 4) w95 fun t67_4 w111 =>
              GuardV t67_4 false (
                Run Try.prog (sOp (.fieldAddr 30 (.const t4) 3) 0) w111 fun t69_4 w112 =>
                Run Try.prog (sOp (.load 28 (.const t69_4)) 28) w112 fun t70_4 w113 =>
                Run Try.prog (sBuiltin .len #[28] 3 [false] [t70_4]) w113 fun t71_4 w114 =>
                Run Try.prog (sOp (.fieldAddr 30 (.const t5) 3) 0) w114 fun t72_4 w115 =>
                Run Try.prog (sOp (.load 28 (.const t72_4)) 28) w115 fun t73_4 w116 =>
                Run Try.prog (sBuiltin .len #[28] 3 [false] [t73_4]) w116 fun t74_4 w117 =>
                Run Try.prog (sBin .neq 3 false false t71_4 t74_4) w117 fun t75_4 w118 =>
                Run Try.prog (sOp (.pick (.const t67_4) (.const (Value.bool true)) (.const t75_4)) 4) w118 fun t76_7 w119 =>
                J58 t76_7 w119) (
                Run Try.prog (sOp (.pick (.const t67_4) (.const (Value.bool true)) (.const undef)) 4) w111 fun t76_8 w120 =>
                J58 t76_8 w120)))) ∧
        ∀ t48 _ _ _ _ _ _ _ _ _ _ _ _ _ _ _ _ _ _ _ _ _ _ _ _ _ _ _ _ : Value, ∀ w121 : World, J58 t48 w121 →
        CondV t48 (
          R (.returned (Value.bool false)) w121) (
          Run Try.prog (sOp (.fieldAddr 30 (.const t4) 3) 0) w121 fun t77 w122 =>
  Run Try.prog (sOp (.load 28 (.const t77)) 28) w122 fun t78 w123 =>
  Run Try.prog (sBuiltin .len #[28] 3 [false] [t78]) w123 fun t79 w124 =>
  (∃ (I125 : Value → World → Prop) (m126 : Value → World → Nat), I125 (Value.int .i64 0) w124 ∧
  ∀ t80 _ _ t95 t94 t93 t92 t91 t90 t89 t88 t87 t86 t85 t84 t83 _ _ _ : Value, ∀ w127 : World, I125 t80 w127 →
  Run Try.prog (sBin .lss 3 false false t80 t79) w127 fun t81_2 w128 =>
  CondV t81_2 (
    (∃ A129 : (Nat → Bool) → Value → Value → Value → Value → Value → Value → Value → Value → Value → Value → Value → Value → Value → World → Prop, A129 (fun _ => false) t95 t94 t93 t92 t91 t90 t89 t88 t87 t86 t85 t84 t83 { w128 with drawn := w128.drawn + 1 } ∧ (
    (∀ D130 : Nat → Bool, D130 0 = false → ∀ t95_2 t94_2 t93_2 t92_2 t91_2 t90_2 t89_2 t88_2 t87_2 t86_2 t85_2 t84_2 t83_2 : Value, ∀ w131 : World, A129 D130 t95_2 t94_2 t93_2 t92_2 t91_2 t90_2 t89_2 t88_2 t87_2 t86_2 t85_2 t84_2 t83_2 w131 →
      A129 (setD D130 0) t95_2 t94_2 t93_2 t92_2 t91_2 t90_2 t89_2 t88_2 t87_2 t86_2 t85_2 t84_2 p0 w131) ∧
    (∀ D130 : Nat → Bool, D130 1 = false → ∀ t95_2 t94_2 t93_2 t92_2 t91_2 t90_2 t89_2 t88_2 t87_2 t86_2 t85_2 t84_2 t83_2 : Value, ∀ w132 : World, A129 D130 t95_2 t94_2 t93_2 t92_2 t91_2 t90_2 t89_2 t88_2 t87_2 t86_2 t85_2 t84_2 t83_2 w132 →
      Run Try.prog (sOp (.fieldAddr 30 (.const t4) 3) 0) w132 fun t84_3 w133 =>
      A129 (setD D130 1) t95_2 t94_2 t93_2 t92_2 t91_2 t90_2 t89_2 t88_2 t87_2 t86_2 t85_2 t84_3 t83_2 w133) ∧
    (∀ D130 : Nat → Bool, D130 2 = false → D130 1 = true → ∀ t95_2 t94_2 t93_2 t92_2 t91_2 t90_2 t89_2 t88_2 t87_2 t86_2 t85_2 t84_2 t83_2 : Value, ∀ w134 : World, A129 D130 t95_2 t94_2 t93_2 t92_2 t91_2 t90_2 t89_2 t88_2 t87_2 t86_2 t85_2 t84_2 t83_2 w134 →
      Run Try.prog (sOp (.load 28 (.const t84_2)) 28) w134 fun t85_3 w135 =>
      A129 (setD D130 2) t95_2 t94_2 t93_2 t92_2 t91_2 t90_2 t89_2 t88_2 t87_2 t86_2 t85_3 t84_2 t83_2 w135) ∧
    (∀ D130 : Nat → Bool, D130 3 = false → ∀ t95_2 t94_2 t93_2 t92_2 t91_2 t90_2 t89_2 t88_2 t87_2 t86_2 t85_2 t84_2 t83_2 : Value, ∀ w136 : World, A129 D130 t95_2 t94_2 t93_2 t92_2 t91_2 t90_2 t89_2 t88_2 t87_2 t86_2 t85_2 t84_2 t83_2 w136 →
      A129 (setD D130 3) t95_2 t94_2 t93_2 t92_2 t91_2 t90_2 t89_2 t88_2 t87_2 t80 t85_2 t84_2 t83_2 w136) ∧
    (∀ D130 : Nat → Bool, D130 4 = false → D130 2 = true → D130 3 = true → ∀ t95_2 t94_2 t93_2 t92_2 t91_2 t90_2 t89_2 t88_2 t87_2 t86_2 t85_2 t84_2 t83_2 : Value, ∀ w137 : World, A129 D130 t95_2 t94_2 t93_2 t92_2 t91_2 t90_2 t89_2 t88_2 t87_2 t86_2 t85_2 t84_2 t83_2 w137 →
      Run Try.prog (sOp (.indexAddr 28 (.const t85_2) (.const t86_2)) 0) w137 fun t87_3 w138 =>
      A129 (setD D130 4) t95_2 t94_2 t93_2 t92_2 t91_2 t90_2 t89_2 t88_2 t87_3 t86_2 t85_2 t84_2 t83_2 w138) ∧
    (∀ D130 : Nat → Bool, D130 5 = false → D130 4 = true → ∀ t95_2 t94_2 t93_2 t92_2 t91_2 t90_2 t89_2 t88_2 t87_2 t86_2 t85_2 t84_2 t83_2 : Value, ∀ w139 : World, A129 D130 t95_2 t94_2 t93_2 t92_2 t91_2 t90_2 t89_2 t88_2 t87_2 t86_2 t85_2 t84_2 t83_2 w139 →
      Run Try.prog (sOp (.load 30 (.const t87_2)) 30) w139 fun t88_3 w140 =>
      A129 (setD D130 5) t95_2 t94_2 t93_2 t92_2 t91_2 t90_2 t89_2 t88_3 t87_2 t86_2 t85_2 t84_2 t83_2 w140) ∧
    (∀ D130 : Nat → Bool, D130 6 = false → ∀ t95_2 t94_2 t93_2 t92_2 t91_2 t90_2 t89_2 t88_2 t87_2 t86_2 t85_2 t84_2 t83_2 : Value, ∀ w141 : World, A129 D130 t95_2 t94_2 t93_2 t92_2 t91_2 t90_2 t89_2 t88_2 t87_2 t86_2 t85_2 t84_2 t83_2 w141 →
      Run Try.prog (sOp (.fieldAddr 30 (.const t5) 3) 0) w141 fun t89_3 w142 =>
      A129 (setD D130 6) t95_2 t94_2 t93_2 t92_2 t91_2 t90_2 t89_3 t88_2 t87_2 t86_2 t85_2 t84_2 t83_2 w142) ∧
    (∀ D130 : Nat → Bool, D130 7 = false → D130 6 = true → ∀ t95_2 t94_2 t93_2 t92_2 t91_2 t90_2 t89_2 t88_2 t87_2 t86_2 t85_2 t84_2 t83_2 : Value, ∀ w143 : World, A129 D130 t95_2 t94_2 t93_2 t92_2 t91_2 t90_2 t89_2 t88_2 t87_2 t86_2 t85_2 t84_2 t83_2 w143 →
      Run Try.prog (sOp (.load 28 (.const t89_2)) 28) w143 fun t90_3 w144 =>
      A129 (setD D130 7) t95_2 t94_2 t93_2 t92_2 t91_2 t90_3 t89_2 t88_2 t87_2 t86_2 t85_2 t84_2 t83_2 w144) ∧
    (∀ D130 : Nat → Bool, D130 8 = false → ∀ t95_2 t94_2 t93_2 t92_2 t91_2 t90_2 t89_2 t88_2 t87_2 t86_2 t85_2 t84_2 t83_2 : Value, ∀ w145 : World, A129 D130 t95_2 t94_2 t93_2 t92_2 t91_2 t90_2 t89_2 t88_2 t87_2 t86_2 t85_2 t84_2 t83_2 w145 →
      A129 (setD D130 8) t95_2 t94_2 t93_2 t92_2 t80 t90_2 t89_2 t88_2 t87_2 t86_2 t85_2 t84_2 t83_2 w145) ∧
    (∀ D130 : Nat → Bool, D130 9 = false → D130 7 = true → D130 8 = true → ∀ t95_2 t94_2 t93_2 t92_2 t91_2 t90_2 t89_2 t88_2 t87_2 t86_2 t85_2 t84_2 t83_2 : Value, ∀ w146 : World, A129 D130 t95_2 t94_2 t93_2 t92_2 t91_2 t90_2 t89_2 t88_2 t87_2 t86_2 t85_2 t84_2 t83_2 w146 →
      Run Try.prog (sOp (.indexAddr 28 (.const t90_2) (.const t91_2)) 0) w146 fun t92_3 w147 =>
      A129 (setD D130 9) t95_2 t94_2 t93_2 t92_3 t91_2 t90_2 t89_2 t88_2 t87_2 t86_2 t85_2 t84_2 t83_2 w147) ∧
    (∀ D130 : Nat → Bool, D130 10 = false → D130 9 = true → ∀ t95_2 t94_2 t93_2 t92_2 t91_2 t90_2 t89_2 t88_2 t87_2 t86_2 t85_2 t84_2 t83_2 : Value, ∀ w148 : World, A129 D130 t95_2 t94_2 t93_2 t92_2 t91_2 t90_2 t89_2 t88_2 t87_2 t86_2 t85_2 t84_2 t83_2 w148 →
      Run Try.prog (sOp (.load 30 (.const t92_2)) 30) w148 fun t93_3 w149 =>
      A129 (setD D130 10) t95_2 t94_2 t93_3 t92_2 t91_2 t90_2 t89_2 t88_2 t87_2 t86_2 t85_2 t84_2 t83_2 w149) ∧
    (∀ D130 : Nat → Bool, D130 11 = false → D130 0 = true → D130 5 = true → D130 10 = true → ∀ t95_2 t94_2 t93_2 t92_2 t91_2 t90_2 t89_2 t88_2 t87_2 t86_2 t85_2 t84_2 t83_2 : Value, ∀ w150 : World, A129 D130 t95_2 t94_2 t93_2 t92_2 t91_2 t90_2 t89_2 t88_2 t87_2 t86_2 t85_2 t84_2 t83_2 w150 →
      Run Try.prog (sCall (Value.func (.func 42) #[] #[]) [t83_2, t88_2, t93_2]) w150 fun t94_3 w151 =>
      A129 (setD D130 11) t95_2 t94_3 t93_2 t92_2 t91_2 t90_2 t89_2 t88_2 t87_2 t86_2 t85_2 t84_2 t83_2 w151) ∧
    (∀ D130 : Nat → Bool, D130 12 = false → D130 11 = true → ∀ t95_2 t94_2 t93_2 t92_2 t91_2 t90_2 t89_2 t88_2 t87_2 t86_2 t85_2 t84_2 t83_2 : Value, ∀ w152 : World, A129 D130 t95_2 t94_2 t93_2 t92_2 t91_2 t90_2 t89_2 t88_2 t87_2 t86_2 t85_2 t84_2 t83_2 w152 →
      Run Try.prog (sOp (.unOp .not 4 (.const t94_2)) 4) w152 fun t95_3 w153 =>
      A129 (setD D130 12) t95_3 t94_2 t93_2 t92_2 t91_2 t90_2 t89_2 t88_2 t87_2 t86_2 t85_2 t84_2 t83_2 w153) ∧
    True) ∧
  ∀ D130 : Nat → Bool, D130 12 = true → D130 11 = true → D130 10 = true → D130 9 = true → D130 8 = true → D130 7 = true → D130 6 = true → D130 5 = true → D130 4 = true → D130 3 = true → D130 2 = true → D130 1 = true → D130 0 = true → ∀ t95_2 t94_2 t93_2 t92_2 t91_2 t90_2 t89_2 t88_2 t87_2 t86_2 t85_2 t84_2 t83_2 : Value, ∀ w154 : World, A129 D130 t95_2 t94_2 t93_2 t92_2 t91_2 t90_2 t89_2 t88_2 t87_2 t86_2 t85_2 t84_2 t83_2 w154 →
  CondV t95_2 (
    R (.returned (Value.bool false)) w154) (
    Run Try.prog (sBin .add 3 false true t80 (Value.int .i64 1)) w154 fun t96_2 w155 =>
  I125 t96_2 w155 ∧ m126 t96_2 w155 < m126 t80 w127))) (
    R (.returned (Value.bool true)) w128)))))))))
theorem calls_i_store_unify {p0 p1 p2 : Value} {w : World} {R : Ending → World → Prop} (h : sh_i_store_unify p0 p1 p2 w R) : Calls Try.prog 42 #[p0, p1, p2] w R :=
  calls_sh (.seq none .leaf (.seq none .leaf (.seq none (.one (.seq (some [14]) .leaf (.two .leaf (.seq none .leaf (.two .leaf (.seq none .leaf (.two .leaf (.seq (some [48]) .leaf .leaf)))))))) (.seq none (.seq none .leaf (.one (.loop [80] .leaf))) .leaf)))) [p0, p1, p2] mixed Try.func42 (by kernel_rfl) (by kernel_rfl) h


/- loop.example/prologserver/impl.mapVars : function 43 -/
def sh_i_mapVars (p0 p1 : Value) (w : World) (R : Ending → World → Prop) : Prop :=
  Run Try.prog (sOp (.box 30 (.const p0)) 0) w fun t2 w1 =>
  Run Try.prog (sOp (.alloc 30) 0) w1 fun t4 w2 =>
  Run Try.prog (sOp (.fieldAddr 30 (.const t2) 0) 0) w2 fun t8 w3 =>
  Run Try.prog (sOp (.load 3 (.const t8)) 3) w3 fun t9 w4 =>
  Run Try.prog (sBin .eql 3 false true t9 (Value.int .i64 1)) w4 fun t10 w5 =>
  CondV t10 (
    Run Try.prog (sOp (.fieldAddr 30 (.const t2) 1) 0) w5 fun t12 w6 =>
    Run Try.prog (sOp (.load 3 (.const t12)) 3) w6 fun t13 w7 =>
    Run Try.prog (sCall p1 [t13]) w7 fun t14 w8 =>
    Run Try.prog (sOp (.store 30 (.const t4) (.const t14)) 0) w8 fun _u w9 =>
    (LoadV Try.prog 30 t4 w9 fun r0 => R (.returned r0) w9)) (
    Run Try.prog (sOp (.fieldAddr 30 (.const t2) 3) 0) w5 fun t15 w10 =>
  Run Try.prog (sOp (.load 28 (.const t15)) 28) w10 fun t16 w11 =>
  Run Try.prog (sOp (.fieldAddr 30 (.const t2) 3) 0) w11 fun t17 w12 =>
  Run Try.prog (sOp (.store 28 (.const t17) (.const (Value.slice none 0 0))) 0) w12 fun _u w13 =>
  Run Try.prog (sBuiltin .len #[28] 3 [false] [t16]) w13 fun t19 w14 =>
  (∃ (I15 : Value → World → Prop) (m16 : Value → World → Nat), I15 (Value.int .i64 0) w14 ∧
  ∀ t20 _ t31 t30 t29 t28 t27 t26 t25 t24 _ _ _ _ : Value, ∀ w17 : World, I15 t20 w17 →
  Run Try.prog (sBin .lss 3 false false t20 t19) w17 fun t21_2 w18 =>
  CondV t21_2 (
    Run Try.prog (sOp (.indexAddr 28 (.const t16) (.const t20)) 0) w18 fun t22_2 w19 =>
  Run Try.prog (sOp (.load 30 (.const t22_2)) 30) w19 fun t23_2 w20 =>
  Run Try.prog (sOp (.alloc 30) 0) w20 fun t7_2 w21 =>
  Run Try.prog (sOp (.store 30 (.const t7_2) (.const t23_2)) 0) w21 fun _u w22 =>
  (∃ A23 : (Nat → Bool) → Value → Value → Value → Value → Value → Value → Value → Value → World → Prop, A23 (fun _ => false) t31 t30 t29 t28 t27 t26 t25 t24 { w22 with drawn := w22.drawn + 1 } ∧ (
    (∀ D24 : Nat → Bool, D24 0 = false → ∀ t31_2 t30_2 t29_2 t28_2 t27_2 t26_2 t25_2 t24_2 : Value, ∀ w25 : World, A23 D24 t31_2 t30_2 t29_2 t28_2 t27_2 t26_2 t25_2 t24_2 w25 →
      Run Try.prog (sOp (.fieldAddr 30 (.const t2) 3) 0) w25 fun t24_3 w26 =>
      A23 (setD D24 0) t31_2 t30_2 t29_2 t28_2 t27_2 t26_2 t25_2 t24_3 w26) ∧
    (∀ D24 : Nat → Bool, D24 1 = false → D24 0 = true → ∀ t31_2 t30_2 t29_2 t28_2 t27_2 t26_2 t25_2 t24_2 : Value, ∀ w27 : World, A23 D24 t31_2 t30_2 t29_2 t28_2 t27_2 t26_2 t25_2 t24_2 w27 →
      Run Try.prog (sOp (.load 28 (.const t24_2)) 28) w27 fun t25_3 w28 =>
      A23 (setD D24 1) t31_2 t30_2 t29_2 t28_2 t27_2 t26_2 t25_3 t24_2 w28) ∧
    (∀ D24 : Nat → Bool, D24 2 = false → ∀ t31_2 t30_2 t29_2 t28_2 t27_2 t26_2 t25_2 t24_2 : Value, ∀ w29 : World, A23 D24 t31_2 t30_2 t29_2 t28_2 t27_2 t26_2 t25_2 t24_2 w29 →
      Run Try.prog (sOp (.load 30 (.const t7_2)) 30) w29 fun t26_3 w30 =>
      A23 (setD D24 2) t31_2 t30_2 t29_2 t28_2 t27_2 t26_3 t25_2 t24_2 w30) ∧
    (∀ D24 : Nat → Bool, D24 3 = false → ∀ t31_2 t30_2 t29_2 t28_2 t27_2 t26_2 t25_2 t24_2 : Value, ∀ w31 : World, A23 D24 t31_2 t30_2 t29_2 t28_2 t27_2 t26_2 t25_2 t24_2 w31 →
      A23 (setD D24 3) t31_2 t30_2 t29_2 t28_2 p1 t26_2 t25_2 t24_2 w31) ∧
    (∀ D24 : Nat → Bool, D24 4 = false → D24 2 = true → D24 3 = true → ∀ t31_2 t30_2 t29_2 t28_2 t27_2 t26_2 t25_2 t24_2 : Value, ∀ w32 : World, A23 D24 t31_2 t30_2 t29_2 t28_2 t27_2 t26_2 t25_2 t24_2 w32 →
      Run Try.prog (sCall (Value.func (.func 43) #[] #[]) [t26_2, t27_2]) w32 fun t28_3 w33 =>
      A23 (setD D24 4) t31_2 t30_2 t29_2 t28_3 t27_2 t26_2 t25_2 t24_2 w33) ∧
    (∀ D24 : Nat → Bool, D24 5 = false → D24 4 = true → ∀ t31_2 t30_2 t29_2 t28_2 t27_2 t26_2 t25_2 t24_2 : Value, ∀ w34 : World, A23 D24 t31_2 t30_2 t29_2 t28_2 t27_2 t26_2 t25_2 t24_2 w34 →
      Run Try.prog (sBuildSlice 28 1 [(0, t28_2)]) w34 fun t29_3 w35 =>
      A23 (setD D24 5) t31_2 t30_2 t29_3 t28_2 t27_2 t26_2 t25_2 t24_2 w35) ∧
    (∀ D24 : Nat → Bool, D24 6 = false → D24 1 = true → D24 5 = true → D24 4 = true → ∀ t31_2 t30_2 t29_2 t28_2 t27_2 t26_2 t25_2 t24_2 : Value, ∀ w36 : World, A23 D24 t31_2 t30_2 t29_2 t28_2 t27_2 t26_2 t25_2 t24_2 w36 →
      Run Try.prog (sBuiltin .append #[28, 28] 28 [false, false] [t25_2, t29_2]) w36 fun t30_3 w37 =>
      A23 (setD D24 6) t31_2 t30_3 t29_2 t28_2 t27_2 t26_2 t25_2 t24_2 w37) ∧
    (∀ D24 : Nat → Bool, D24 7 = false → D24 0 = true → D24 1 = true → D24 2 = true → D24 3 = true → D24 4 = true → D24 5 = true → D24 6 = true → ∀ t31_2 t30_2 t29_2 t28_2 t27_2 t26_2 t25_2 t24_2 : Value, ∀ w38 : World, A23 D24 t31_2 t30_2 t29_2 t28_2 t27_2 t26_2 t25_2 t24_2 w38 →
      Run Try.prog (sOp (.fieldAddr 30 (.const t2) 3) 0) w38 fun t31_3 w39 =>
      A23 (setD D24 7) t31_3 t30_2 t29_2 t28_2 t27_2 t26_2 t25_2 t24_2 w39) ∧
    (∀ D24 : Nat → Bool, D24 8 = false → D24 7 = true → D24 6 = true → D24 6 = true → D24 0 = true → D24 1 = true → D24 2 = true → D24 3 = true → D24 4 = true → D24 5 = true → D24 6 = true → ∀ t31_2 t30_2 t29_2 t28_2 t27_2 t26_2 t25_2 t24_2 : Value, ∀ w40 : World, A23 D24 t31_2 t30_2 t29_2 t28_2 t27_2 t26_2 t25_2 t24_2 w40 →
      Run Try.prog (sOp (.store 28 (.const t31_2) (.const t30_2)) 0) w40 fun _u w41 =>
      A23 (setD D24 8) t31_2 t30_2 t29_2 t28_2 t27_2 t26_2 t25_2 t24_2 w41) ∧
    True) ∧
  ∀ D24 : Nat → Bool, D24 8 = true → D24 7 = true → D24 6 = true → D24 5 = true → D24 4 = true → D24 3 = true → D24 2 = true → D24 1 = true → D24 0 = true → ∀ t31_2 t30_2 t29_2 t28_2 t27_2 t26_2 t25_2 t24_2 : Value, ∀ w42 : World, A23 D24 t31_2 t30_2 t29_2 t28_2 t27_2 t26_2 t25_2 t24_2 w42 →
  Run Try.prog (sBin .add 3 false true t20 (Value.int .i64 1)) w42 fun t32_2 w43 =>
  I15 t32_2 w43 ∧ m16 t32_2 w43 < m16 t20 w17)) (
    Run Try.prog (sOp (.load 30 (.const t2)) 30) w18 fun t33 w44 =>
  Run Try.prog (sOp (.store 30 (.const t4) (.const t33)) 0) w44 fun _ w45 =>
  (LoadV Try.prog 30 t4 w45 fun r0 => R (.returned r0) w45))))
theorem calls_i_mapVars {p0 p1 : Value} {w : World} {R : Ending → World → Prop} (h : sh_i_mapVars p0 p1 w R) : Calls Try.prog 43 #[p0, p1] w R :=
  calls_sh (.seq none .leaf (.seq none .leaf (.seq none .leaf (.seq none .leaf (.seq none (.seq none .leaf (.one (.loop [20] .leaf))) .leaf))))) [p0, p1] mixed Try.func43 (by kernel_rfl) (by kernel_rfl) h


/- (*loop.example/prologserver/impl.store).resolve : function 44 -/
def sh_i_store_resolve (p0 p1 : Value) (w : World) (R : Ending → World → Prop) : Prop :=
  Run Try.prog (sOp (.box 30 (.const p1)) 0) w fun t3 w1 =>
  Run Try.prog (sOp (.alloc 30) 0) w1 fun t4 w2 =>
  Run Try.prog (sOp (.alloc 3) 0) w2 fun t6 w3 =>
  Run Try.prog (sOp (.store 3 (.const t6) (.const (Value.int .i64 0))) 0) w3 fun _u w4 =>
  Run Try.prog (sOp (.load 30 (.const t3)) 30) w4 fun t8 w5 =>
  Run Try.prog (sCall (Value.func (.func 70) #[] #[]) [p0, t8, (Value.int .i64 1), t6]) w5 fun t9 w6 =>
  Run Try.prog (sOp (.extract (.const t9) 0) 30) w6 fun t10 w7 =>
  Run Try.prog (sOp (.extract (.const t9) 1) 4) w7 fun t11 w8 =>
  Run Try.prog (sOp (.store 30 (.const t4) (.const t10)) 0) w8 fun _ w9 =>
  (LoadV Try.prog 30 t4 w9 fun r0 => R (.returned (.tuple #[r0, t11])) w9)
theorem calls_i_store_resolve {p0 p1 : Value} {w : World} {R : Ending → World → Prop} (h : sh_i_store_resolve p0 p1 w R) : Calls Try.prog 44 #[p0, p1] w R :=
  calls_sh .leaf [p0, p1] mixed Try.func44 (by kernel_rfl) (by kernel_rfl) h


/- loop.example/prologserver/impl.numbered : function 45 -/
def sh_i_numbered (p0 : Value) (w : World) (R : Ending → World → Prop) : Prop :=
  Run Try.prog (sOp (.box 32 (.const p0)) 0) w fun t1 w1 =>
  Run Try.prog (sOp (.alloc 32) 0) w1 fun t2 w2 =>
  Run Try.prog (sOp (.fieldAddr 32 (.const t1) 0) 0) w2 fun t4 w3 =>
  Run Try.prog (sOp (.load 30 (.const t4)) 30) w3 fun t5 w4 =>
  Run Try.prog (sBuildSlice 28 1 [(0, t5)]) w4 fun t6 w5 =>
  Run Try.prog (sOp (.fieldAddr 32 (.const t1) 1) 0) w5 fun t7 w6 =>
  Run Try.prog (sOp (.load 28 (.const t7)) 28) w6 fun t8 w7 =>
  Run Try.prog (sBuiltin .append #[28, 28] 28 [false, false] [t6, t8]) w7 fun t9 w8 =>
  Run Try.prog (sCall (Value.func (.func 71) #[] #[]) [t9]) w8 fun t10 w9 =>
  (∃ A10 : (Nat → Bool) → Value → Value → Value → Value → Value → Value → Value → World → Prop, A10 (fun _ => false) undef undef undef undef undef undef undef { w9 with drawn := w9.drawn + 1 } ∧ (
    (∀ D11 : Nat → Bool, D11 0 = false → ∀ t17 t16 t15 t14 t13 t12 t11 : Value, ∀ w12 : World, A10 D11 t17 t16 t15 t14 t13 t12 t11 w12 →
      A10 (setD D11 0) t17 t16 t15 t14 t13 t12 t10 w12) ∧
    (∀ D11 : Nat → Bool, D11 1 = false → D11 0 = true → ∀ t17 t16 t15 t14 t13 t12 t11 : Value, ∀ w13 : World, A10 D11 t17 t16 t15 t14 t13 t12 t11 w13 →
      Run Try.prog (sOp (.indexAddr 28 (.const t11) (.const (Value.int .i64 0))) 0) w13 fun t12_2 w14 =>
      A10 (setD D11 1) t17 t16 t15 t14 t13 t12_2 t11 w14) ∧
    (∀ D11 : Nat → Bool, D11 2 = false → D11 1 = true → ∀ t17 t16 t15 t14 t13 t12 t11 : Value, ∀ w15 : World, A10 D11 t17 t16 t15 t14 t13 t12 t11 w15 →
      Run Try.prog (sOp (.load 30 (.const t12)) 30) w15 fun t13_2 w16 =>
      A10 (setD D11 2) t17 t16 t15 t14 t13_2 t12 t11 w16) ∧
    (∀ D11 : Nat → Bool, D11 3 = false → ∀ t17 t16 t15 t14 t13 t12 t11 : Value, ∀ w17 : World, A10 D11 t17 t16 t15 t14 t13 t12 t11 w17 →
      A10 (setD D11 3) t17 t16 t15 t10 t13 t12 t11 w17) ∧
    (∀ D11 : Nat → Bool, D11 4 = false → D11 3 = true → ∀ t17 t16 t15 t14 t13 t12 t11 : Value, ∀ w18 : World, A10 D11 t17 t16 t15 t14 t13 t12 t11 w18 →
      Run Try.prog (sOp (.slice 28 (.const t14) (some (.const (Value.int .i64 1))) none none) 28) w18 fun t15_2 w19 =>
      A10 (setD D11 4) t17 t16 t15_2 t14 t13 t12 t11 w19) ∧
    (∀ D11 : Nat → Bool, D11 5 = false → D11 4 = true → ∀ t17 t16 t15 t14 t13 t12 t11 : Value, ∀ w20 : World, A10 D11 t17 t16 t15 t14 t13 t12 t11 w20 →
      Run Try.prog (sCall (Value.func (.func 72) #[] #[]) [t15]) w20 fun t16_2 w21 =>
      A10 (setD D11 5) t17 t16_2 t15 t14 t13 t12 t11 w21) ∧
    (∀ D11 : Nat → Bool, D11 6 = false → D11 2 = true → D11 5 = true → ∀ t17 t16 t15 t14 t13 t12 t11 : Value, ∀ w22 : World, A10 D11 t17 t16 t15 t14 t13 t12 t11 w22 →
      Run Try.prog (sBuild 32 [(0, t13), (1, t16)]) w22 fun t17_2 w23 =>
      A10 (setD D11 6) t17_2 t16 t15 t14 t13 t12 t11 w23) ∧
    (∀ D11 : Nat → Bool, D11 7 = false → D11 6 = true → D11 5 = true → D11 0 = true → D11 1 = true → D11 2 = true → D11 3 = true → D11 4 = true → D11 5 = true → D11 6 = true → ∀ t17 t16 t15 t14 t13 t12 t11 : Value, ∀ w24 : World, A10 D11 t17 t16 t15 t14 t13 t12 t11 w24 →
      Run Try.prog (sOp (.store 32 (.const t2) (.const t17)) 0) w24 fun _ w25 =>
      A10 (setD D11 7) t17 t16 t15 t14 t13 t12 t11 w25) ∧
    True) ∧
  ∀ D11 : Nat → Bool, D11 7 = true → D11 6 = true → D11 5 = true → D11 4 = true → D11 3 = true → D11 2 = true → D11 1 = true → D11 0 = true → ∀ t17 t16 t15 t14 t13 t12 t11 : Value, ∀ w26 : World, A10 D11 t17 t16 t15 t14 t13 t12 t11 w26 →
  (LoadV Try.prog 32 t2 w26 fun r0 => R (.returned r0) w26))
theorem calls_i_numbered {p0 : Value} {w : World} {R : Ending → World → Prop} (h : sh_i_numbered p0 w R) : Calls Try.prog 45 #[p0] w R :=
  calls_sh .leaf [p0] mixed Try.func45 (by kernel_rfl) (by kernel_rfl) h


/- loop.example/prologserver/impl.ownClause : function 46 -/
def sh_i_ownClause (p0 : Value) (w : World) (R : Ending → World → Prop) : Prop :=
  Run Try.prog (sOp (.box 32 (.const p0)) 0) w fun t1 w1 =>
  Run Try.prog (sOp (.alloc 32) 0) w1 fun t2 w2 =>
  (∃ A3 : (Nat → Bool) → Value → Value → Value → Value → Value → Value → Value → World → Prop, A3 (fun _ => false) undef undef undef undef undef undef undef { w2 with drawn := w2.drawn + 1 } ∧ (
    (∀ D4 : Nat → Bool, D4 0 = false → ∀ t9 t8 t7 t6 t5 t4 t3 : Value, ∀ w5 : World, A3 D4 t9 t8 t7 t6 t5 t4 t3 w5 →
      Run Try.prog (sOp (.fieldAddr 32 (.const t1) 0) 0) w5 fun t3_2 w6 =>
      A3 (setD D4 0) t9 t8 t7 t6 t5 t4 t3_2 w6) ∧
    (∀ D4 : Nat → Bool, D4 1 = false → D4 0 = true → ∀ t9 t8 t7 t6 t5 t4 t3 : Value, ∀ w7 : World, A3 D4 t9 t8 t7 t6 t5 t4 t3 w7 →
      Run Try.prog (sOp (.load 30 (.const t3)) 30) w7 fun t4_2 w8 =>
      A3 (setD D4 1) t9 t8 t7 t6 t5 t4_2 t3 w8) ∧
    (∀ D4 : Nat → Bool, D4 2 = false → D4 1 = true → ∀ t9 t8 t7 t6 t5 t4 t3 : Value, ∀ w9 : World, A3 D4 t9 t8 t7 t6 t5 t4 t3 w9 →
      Run Try.prog (sCall (Value.func (.func 73) #[] #[]) [t4]) w9 fun t5_2 w10 =>
      A3 (setD D4 2) t9 t8 t7 t6 t5_2 t4 t3 w10) ∧
    (∀ D4 : Nat → Bool, D4 3 = false → ∀ t9 t8 t7 t6 t5 t4 t3 : Value, ∀ w11 : World, A3 D4 t9 t8 t7 t6 t5 t4 t3 w11 →
      Run Try.prog (sOp (.fieldAddr 32 (.const t1) 1) 0) w11 fun t6_2 w12 =>
      A3 (setD D4 3) t9 t8 t7 t6_2 t5 t4 t3 w12) ∧
    (∀ D4 : Nat → Bool, D4 4 = false → D4 3 = true → ∀ t9 t8 t7 t6 t5 t4 t3 : Value, ∀ w13 : World, A3 D4 t9 t8 t7 t6 t5 t4 t3 w13 →
      Run Try.prog (sOp (.load 28 (.const t6)) 28) w13 fun t7_2 w14 =>
      A3 (setD D4 4) t9 t8 t7_2 t6 t5 t4 t3 w14) ∧
    (∀ D4 : Nat → Bool, D4 5 = false → D4 4 = true → D4 2 = true → ∀ t9 t8 t7 t6 t5 t4 t3 : Value, ∀ w15 : World, A3 D4 t9 t8 t7 t6 t5 t4 t3 w15 →
      Run Try.prog (sCall (Value.func (.func 74) #[] #[]) [t7]) w15 fun t8_2 w16 =>
      A3 (setD D4 5) t9 t8_2 t7 t6 t5 t4 t3 w16) ∧
    (∀ D4 : Nat → Bool, D4 6 = false → D4 2 = true → D4 5 = true → ∀ t9 t8 t7 t6 t5 t4 t3 : Value, ∀ w17 : World, A3 D4 t9 t8 t7 t6 t5 t4 t3 w17 →
      Run Try.prog (sBuild 32 [(0, t5), (1, t8)]) w17 fun t9_2 w18 =>
      A3 (setD D4 6) t9_2 t8 t7 t6 t5 t4 t3 w18) ∧
    (∀ D4 : Nat → Bool, D4 7 = false → D4 6 = true → D4 5 = true → D4 0 = true → D4 1 = true → D4 2 = true → D4 3 = true → D4 4 = true → D4 5 = true → D4 6 = true → ∀ t9 t8 t7 t6 t5 t4 t3 : Value, ∀ w19 : World, A3 D4 t9 t8 t7 t6 t5 t4 t3 w19 →
      Run Try.prog (sOp (.store 32 (.const t2) (.const t9)) 0) w19 fun _ w20 =>
      A3 (setD D4 7) t9 t8 t7 t6 t5 t4 t3 w20) ∧
    True) ∧
  ∀ D4 : Nat → Bool, D4 7 = true → D4 6 = true → D4 5 = true → D4 4 = true → D4 3 = true → D4 2 = true → D4 1 = true → D4 0 = true → ∀ t9 t8 t7 t6 t5 t4 t3 : Value, ∀ w21 : World, A3 D4 t9 t8 t7 t6 t5 t4 t3 w21 →
  (LoadV Try.prog 32 t2 w21 fun r0 => R (.returned r0) w21))
theorem calls_i_ownClause {p0 : Value} {w : World} {R : Ending → World → Prop} (h : sh_i_ownClause p0 w R) : Calls Try.prog 46 #[p0] w R :=
  calls_sh .leaf [p0] mixed Try.func46 (by kernel_rfl) (by kernel_rfl) h


/- loop.example/prologserver/laws.markText : function 47 -/
def sh_l_markText (p0 : Value) (w : World) (R : Ending → World → Prop) : Prop :=
  Run Try.prog (sBin .leq 3 false true p0 (Value.int .i64 0)) w fun t5 w1 =>
  CondV t5 (
    R (.returned (Value.string ⟨#[109, 48]⟩)) w1) (
    (∃ (I2 : Value → Value → World → Prop) (m3 : Value → Value → World → Nat), I2 p0 (Value.string ⟨#[]⟩) w1 ∧
  ∀ t0 _ _ t3 _ _ _ _ _ _ _ _ _ _ : Value, ∀ w4 : World, I2 t0 t3 w4 →
  Run Try.prog (sBin .gtr 3 false true t0 (Value.int .i64 0)) w4 fun t7_2 w5 =>
  CondV t7_2 (
    Run Try.prog (sBin .rem 3 false true t0 (Value.int .i64 10)) w5 fun t9_2 w6 =>
  Run Try.prog (sBin .add 3 true false (Value.int .i64 48) t9_2) w6 fun t10_2 w7 =>
  Run Try.prog (sOp (.convert 3 5 (.const t10_2)) 5) w7 fun t11_2 w8 =>
  Run Try.prog (sBuildSlice 85 1 [(0, t11_2)]) w8 fun t12_2 w9 =>
  Run Try.prog (sOp (.convert 85 9 (.const t12_2)) 9) w9 fun t13_2 w10 =>
  Run Try.prog (sBin .add 9 false false t13_2 t3) w10 fun t15_2 w11 =>
  Run Try.prog (sBin .quo 3 false true t0 (Value.int .i64 10)) w11 fun t17_2 w12 =>
  I2 t17_2 t15_2 w12 ∧ m3 t17_2 t15_2 w12 < m3 t0 t3 w4) (
    Run Try.prog (sBin .add 9 true false (Value.string ⟨#[109]⟩) t3) w5 fun t19 w13 =>
  R (.returned t19) w13)))
theorem calls_l_markText {p0 : Value} {w : World} {R : Ending → World → Prop} (h : sh_l_markText p0 w R) : Calls Try.prog 47 #[p0] w R :=
  calls_sh (.seq none .leaf (.seq none .leaf (.seq none .leaf (.seq none (.one (.loop [0, 3] .leaf)) .leaf)))) [p0] mixed Try.func47 (by kernel_rfl) (by kernel_rfl) h


/- loop.example/prologserver/spec.l4Goal : function 48 -/
def sh_s_l4Goal (p0 : Value) (w : World) (R : Ending → World → Prop) : Prop :=
  Run Try.prog (sOp (.box 30 (.const p0)) 0) w fun t1 w1 =>
  Run Try.prog (sOp (.load 30 (.const t1)) 30) w1 fun t3 w2 =>
  Run Try.prog (sCall (Value.func (.func 75) #[] #[]) [t3]) w2 fun t4 w3 =>
  GuardV t4 false (
    Run Try.prog (sOp (.load 30 (.const t1)) 30) w3 fun t6 w4 =>
    Run Try.prog (sCall (Value.func (.func 30) #[] #[]) [t6]) w4 fun t7 w5 =>
    Run Try.prog (sOp (.pick (.const t4) (.const (Value.bool true)) (.const t7)) 4) w5 fun t8 w6 =>
    GuardV t8 false (
      Run Try.prog (sOp (.fieldAddr 30 (.const t1) 0) 0) w6 fun t10 w7 =>
      Run Try.prog (sOp (.load 3 (.const t10)) 3) w7 fun t11 w8 =>
      Run Try.prog (sBin .eql 3 false true t11 (Value.int .i64 3)) w8 fun t12 w9 =>
      GuardV t12 true (
        Run Try.prog (sOp (.fieldAddr 30 (.const t1) 2) 0) w9 fun t14 w10 =>
        Run Try.prog (sOp (.load 9 (.const t14)) 9) w10 fun t15 w11 =>
        Run Try.prog (sOp (.fieldAddr 30 (.const t1) 3) 0) w11 fun t16 w12 =>
        Run Try.prog (sOp (.load 28 (.const t16)) 28) w12 fun t17 w13 =>
        Run Try.prog (sBuiltin .len #[28] 3 [false] [t17]) w13 fun t18 w14 =>
        Run Try.prog (sCall (Value.func (.func 52) #[] #[]) [t15, t18]) w14 fun t19 w15 =>
        GuardV t8 false (
          Run Try.prog (sOp (.pick (.const t12) (.const t19) (.const (Value.bool false))) 4) w15 fun t20 w16 =>
          Run Try.prog (sOp (.pick (.const t8) (.const (Value.bool true)) (.const t20)) 4) w16 fun t21 w17 =>
          R (.returned t21) w17) (
          Run Try.prog (sOp (.pick (.const t8) (.const (Value.bool true)) (.const undef)) 4) w15 fun t21_2 w18 =>
          R (.returned t21_2) w18)) (
        GuardV t8 false (
          Run Try.prog (sOp (.pick (.const t12) (.const undef) (.const (Value.bool false))) 4) w9 fun t20_2 w19 =>
          Run Try.prog (sOp (.pick (.const t8) (.const (Value.bool true)) (.const t20_2)) 4) w19 fun t21_3 w20 =>
          R (.returned t21_3) w20) (
          Run Try.prog (sOp (.pick (.const t8) (.const (Value.bool true)) (.const undef)) 4) w9 fun t21_4 w21 =>
          R (.returned t21_4) w21))) (
      GuardV undef true (
        Run Try.prog (sOp (.fieldAddr 30 (.const t1) 2) 0) w6 fun t14_2 w22 =>
        Run Try.prog (sOp (.load 9 (.const t14_2)) 9) w22 fun t15_2 w23 =>
        Run Try.prog (sOp (.fieldAddr 30 (.const t1) 3) 0) w23 fun t16_2 w24 =>
        Run Try.prog (sOp (.load 28 (.const t16_2)) 28) w24 fun t17_2 w25 =>
        Run Try.prog (sBuiltin .len #[28] 3 [false] [t17_2]) w25 fun t18_2 w26 =>
        Run Try.prog (sCall (Value.func (.func 52) #[] #[]) [t15_2, t18_2]) w26 fun t19_2 w27 =>
        GuardV t8 false (
          Run Try.prog (sOp (.pick (.const undef) (.const t19_2) (.const (Value.bool false))) 4) w27 fun t20_3 w28 =>
          Run Try.prog (sOp (.pick (.const t8) (.const (Value.bool true)) (.const t20_3)) 4) w28 fun t21_5 w29 =>
          R (.returned t21_5) w29) (
          Run Try.prog (sOp (.pick (.const t8) (.const (Value.bool true)) (.const undef)) 4) w27 fun t21_6 w30 =>
          R (.returned t21_6) w30)) (
        GuardV t8 false (
          Run Try.prog (sOp (.pick (.const undef) (.const undef) (.const (Value.bool false))) 4) w6 fun t20_4 w31 =>
          Run Try.prog (sOp (.pick (.const t8) (.const (Value.bool true)) (.const t20_4)) 4) w31 fun t21_7 w32 =>
          R (.returned t21_7) w32) (
          Run Try.prog (sOp (.pick (.const t8) (.const (Value.bool true)) (.const undef)) 4) w6 fun t21_8 w33 =>
          R (.returned t21_8) w33)))) (
    Run Try.prog (sOp (.pick (.const t4) (.const (Value.bool true)) (.const undef)) 4) w3 fun t8_2 w34 =>
    GuardV t8_2 false (
      Run Try.prog (sOp (.fieldAddr 30 (.const t1) 0) 0) w34 fun t10_2 w35 =>
      Run Try.prog (sOp (.load 3 (.const t10_2)) 3) w35 fun t11_2 w36 =>
      Run Try.prog (sBin .eql 3 false true t11_2 (Value.int .i64 3)) w36 fun t12_2 w37 =>
      GuardV t12_2 true (
        Run Try.prog (sOp (.fieldAddr 30 (.const t1) 2) 0) w37 fun t14_3 w38 =>
        Run Try.prog (sOp (.load 9 (.const t14_3)) 9) w38 fun t15_3 w39 =>
        Run Try.prog (sOp (.fieldAddr 30 (.const t1) 3) 0) w39 fun t16_3 w40 =>
        Run Try.prog (sOp (.load 28 (.const t16_3)) 28) w40 fun t17_3 w41 =>
        Run Try.prog (sBuiltin .len #[28] 3 [false] [t17_3]) w41 fun t18_3 w42 =>
        Run Try.prog (sCall (Value.func (.func 52) #[] #[]) [t15_3, t18_3]) w42 fun t19_3 w43 =>
        GuardV t8_2 false (
          Run Try.prog (sOp (.pick (.const t12_2) (.const t19_3) (.const (Value.bool false))) 4) w43 fun t20_5 w44 =>
          Run Try.prog (sOp (.pick (.const t8_2) (.const (Value.bool true)) (.const t20_5)) 4) w44 fun t21_9 w45 =>
          R (.returned t21_9) w45) (
          Run Try.prog (sOp (.pick (.const t8_2) (.const (Value.bool true)) (.const undef)) 4) w43 fun t21_10 w46 =>
          R (.returned t21_10) w46)) (
        GuardV t8_2 false (
          Run Try.prog (sOp (.pick (.const t12_2) (.const undef) (.const (Value.bool false))) 4) w37 fun t20_6 w47 =>
          Run Try.prog (sOp (.pick (.const t8_2) (.const (Value.bool true)) (.const t20_6)) 4) w47 fun t21_11 w48 =>
          R (.returned t21_11) w48) (
          Run Try.prog (sOp (.pick (.const t8_2) (.const (Value.bool true)) (.const undef)) 4) w37 fun t21_12 w49 =>
          R (.returned t21_12) w49))) (
      GuardV undef true (
        Run Try.prog (sOp (.fieldAddr 30 (.const t1) 2) 0) w34 fun t14_4 w50 =>
        Run Try.prog (sOp (.load 9 (.const t14_4)) 9) w50 fun t15_4 w51 =>
        Run Try.prog (sOp (.fieldAddr 30 (.const t1) 3) 0) w51 fun t16_4 w52 =>
        Run Try.prog (sOp (.load 28 (.const t16_4)) 28) w52 fun t17_4 w53 =>
        Run Try.prog (sBuiltin .len #[28] 3 [false] [t17_4]) w53 fun t18_4 w54 =>
        Run Try.prog (sCall (Value.func (.func 52) #[] #[]) [t15_4, t18_4]) w54 fun t19_4 w55 =>
        GuardV t8_2 false (
          Run Try.prog (sOp (.pick (.const undef) (.const t19_4) (.const (Value.bool false))) 4) w55 fun t20_7 w56 =>
          Run Try.prog (sOp (.pick (.const t8_2) (.const (Value.bool true)) (.const t20_7)) 4) w56 fun t21_13 w57 =>
          R (.returned t21_13) w57) (
          Run Try.prog (sOp (.pick (.const t8_2) (.const (Value.bool true)) (.const undef)) 4) w55 fun t21_14 w58 =>
          R (.returned t21_14) w58)) (
        GuardV t8_2 false (
          Run Try.prog (sOp (.pick (.const undef) (.const undef) (.const (Value.bool false))) 4) w34 fun t20_8 w59 =>
          Run Try.prog (sOp (.pick (.const t8_2) (.const (Value.bool true)) (.const t20_8)) 4) w59 fun t21_15 w60 =>
          R (.returned t21_15) w60) (
          Run Try.prog (sOp (.pick (.const t8_2) (.const (Value.bool true)) (.const undef)) 4) w34 fun t21_16 w61 =>
          R (.returned t21_16) w61))))
theorem calls_s_l4Goal {p0 : Value} {w : World} {R : Ending → World → Prop} (h : sh_s_l4Goal p0 w R) : Calls Try.prog 48 #[p0] w R :=
  calls_sh .leaf [p0] mixed Try.func48 (by kernel_rfl) (by kernel_rfl) h


/- loop.example/prologserver/spec.l1Shape : function 49 -/
def sh_s_l1Shape (p0 p1 : Value) (w : World) (R : Ending → World → Prop) : Prop :=
  Run Try.prog (sOp (.box 30 (.const p0)) 0) w fun t2 w1 =>
  (∃ J2 : Value → World → Prop, (
    Run Try.prog (sBin .lss 3 false true p1 (Value.int .i64 1)) w1 fun t7 w3 =>
    GuardV t7 false (
      Run Try.prog (sOp (.load 30 (.const t2)) 30) w3 fun t9 w4 =>
      Run Try.prog (sCall (Value.func (.func 76) #[] #[]) [t9]) w4 fun t10 w5 =>
      Run Try.prog (sOp (.unOp .not 4 (.const t10)) 4) w5 fun t11 w6 =>
      Run Try.prog (sOp (.pick (.const t7) (.const (Value.bool true)) (.const t11)) 4) w6 fun t12 w7 =>
      J2 t12 w7) (
      Run Try.prog (sOp (.pick (.const t7) (.const (Value.bool true)) (.const undef)) 4) w3 fun t12_2 w8 =>
      J2 t12_2 w8)) ∧
  ∀ t12_3 _ _ _ _ _ _ : Value, ∀ w9 : World, J2 t12_3 w9 →
  CondV t12_3 (
    R (.returned (Value.bool false)) w9) (
    (∃ (I10 : Value → World → Prop) (m11 : Value → World → Nat), I10 (Value.int .i64 0) w9 ∧
  ∀ t5 _ _ _ _ _ _ _ _ _ _ _ _ _ _ _ _ _ : Value, ∀ w12 : World, I10 t5 w12 →
  Run Try.prog (sOp (.fieldAddr 30 (.const t2) 3) 0) w12 fun t14_2 w13 =>
  Run Try.prog (sOp (.load 28 (.const t14_2)) 28) w13 fun t15_2 w14 =>
  Run Try.prog (sBuiltin .len #[28] 3 [false] [t15_2]) w14 fun t16_2 w15 =>
  Run Try.prog (sBin .lss 3 false false t5 t16_2) w15 fun t17_2 w16 =>
  CondV t17_2 (
    Run Try.prog (sOp (.fieldAddr 30 (.const t2) 3) 0) w16 fun t20_2 w17 =>
  Run Try.prog (sOp (.load 28 (.const t20_2)) 28) w17 fun t21_2 w18 =>
  Run Try.prog (sOp (.indexAddr 28 (.const t21_2) (.const t5)) 0) w18 fun t23_2 w19 =>
  Run Try.prog (sOp (.load 30 (.const t23_2)) 30) w19 fun t24_2 w20 =>
  Run Try.prog (sBin .sub 3 false true p1 (Value.int .i64 1)) w20 fun t26_2 w21 =>
  Run Try.prog (sCall (Value.func (.func 49) #[] #[]) [t24_2, t26_2]) w21 fun t27_2 w22 =>
  Run Try.prog (sOp (.unOp .not 4 (.const t27_2)) 4) w22 fun t28_2 w23 =>
  CondV t28_2 (
    R (.returned (Value.bool false)) w23) (
    Run Try.prog (sBin .add 3 false true t5 (Value.int .i64 1)) w23 fun t19_2 w24 =>
  I10 t19_2 w24 ∧ m11 t19_2 w24 < m11 t5 w12)) (
    R (.returned (Value.bool true)) w16))))
theorem calls_s_l1Shape {p0 p1 : Value} {w : World} {R : Ending → World → Prop} (h : sh_s_l1Shape p0 p1 w R) : Calls Try.prog 49 #[p0, p1] w R :=
  calls_sh (.seq none .leaf (.seq none (.seq (some [12]) .leaf .leaf) (.seq none (.seq none .leaf (.one (.loop [5] .leaf))) .leaf))) [p0, p1] mixed Try.func49 (by kernel_rfl) (by kernel_rfl) h


/- loop.example/prologserver/spec.l1Count : function 50 -/
def sh_s_l1Count (p0 p1 : Value) (w : World) (R : Ending → World → Prop) : Prop :=
  Run Try.prog (sOp (.box 30 (.const p0)) 0) w fun t2 w1 =>
  (∃ (I2 : Value → Value → World → Prop) (m3 : Value → Value → World → Nat), I2 (Value.int .i64 0) (Value.int .i64 1) w1 ∧
  ∀ t6 _ _ t5 _ _ _ _ _ _ _ _ _ _ _ _ _ _ _ _ _ _ _ _ _ : Value, ∀ w4 : World, I2 t6 t5 w4 →
  (∃ J5 : Value → World → Prop, (
    Run Try.prog (sOp (.fieldAddr 30 (.const t2) 3) 0) w4 fun t8_2 w6 =>
    Run Try.prog (sOp (.load 28 (.const t8_2)) 28) w6 fun t9_2 w7 =>
    Run Try.prog (sBuiltin .len #[28] 3 [false] [t9_2]) w7 fun t10_2 w8 =>
    Run Try.prog (sBin .lss 3 false false t6 t10_2) w8 fun t11_2 w9 =>
    GuardV t11_2 true (
      Run Try.prog (sBin .leq 3 false false t5 p1) w9 fun t15_2 w10 =>
      Run Try.prog (sOp (.pick (.const t11_2) (.const t15_2) (.const (Value.bool false))) 4) w10 fun t16_2 w11 =>
      J5 t16_2 w11) (
      Run Try.prog (sOp (.pick (.const t11_2) (.const undef) (.const (Value.bool false))) 4) w9 fun t16_3 w12 =>
      J5 t16_3 w12)) ∧
  ∀ t16_4 _ _ _ _ _ _ _ _ _ : Value, ∀ w13 : World, J5 t16_4 w13 →
  CondV t16_4 (
    Run Try.prog (sOp (.fieldAddr 30 (.const t2) 3) 0) w13 fun t20_2 w14 =>
  Run Try.prog (sOp (.load 28 (.const t20_2)) 28) w14 fun t21_2 w15 =>
  Run Try.prog (sOp (.indexAddr 28 (.const t21_2) (.const t6)) 0) w15 fun t23_2 w16 =>
  Run Try.prog (sOp (.load 30 (.const t23_2)) 30) w16 fun t24_2 w17 =>
  Run Try.prog (sBin .sub 3 false false p1 t5) w17 fun t27_2 w18 =>
  Run Try.prog (sCall (Value.func (.func 50) #[] #[]) [t24_2, t27_2]) w18 fun t28_2 w19 =>
  Run Try.prog (sBin .add 3 false false t5 t28_2) w19 fun t29_2 w20 =>
  Run Try.prog (sBin .add 3 false true t6 (Value.int .i64 1)) w20 fun t18_2 w21 =>
  I2 t18_2 t29_2 w21 ∧ m3 t18_2 t29_2 w21 < m3 t6 t5 w4) (
    R (.returned t5) w13)))
theorem calls_s_l1Count {p0 p1 : Value} {w : World} {R : Ending → World → Prop} (h : sh_s_l1Count p0 p1 w R) : Calls Try.prog 50 #[p0, p1] w R :=
  calls_sh (.seq none .leaf (.seq none .leaf (.seq none (.seq none .leaf (.one (.loop [6, 5] (.seq none (.seq (some [16]) .leaf .leaf) .leaf)))) .leaf))) [p0, p1] mixed Try.func50 (by kernel_rfl) (by kernel_rfl) h


/- loop.example/prologserver/spec.l1Word : function 51 -/
def sh_s_l1Word (p0 : Value) (w : World) (R : Ending → World → Prop) : Prop :=
  (∃ (I1 : Value → World → Prop) (m2 : Value → World → Nat), I1 (Value.int .i64 0) w ∧
  ∀ t3 _ _ _ _ _ _ _ _ _ _ _ _ _ _ _ _ _ : Value, ∀ w3 : World, I1 t3 w3 →
  Run Try.prog (sBuiltin .len #[9] 3 [false] [p0]) w3 fun t6_2 w4 =>
  Run Try.prog (sBin .lss 3 false false t3 t6_2) w4 fun t7_2 w5 =>
  CondV t7_2 (
    (∃ J6 : Value → World → Prop, (
    Run Try.prog (sOp (.index 9 (.const p0) (.const t3)) 5) w5 fun t12_2 w7 =>
    Run Try.prog (sBin .lss 5 false true t12_2 (Value.int .u8 97)) w7 fun t13_2 w8 =>
    GuardV t13_2 false (
      Run Try.prog (sOp (.index 9 (.const p0) (.const t3)) 5) w8 fun t17_2 w9 =>
      Run Try.prog (sBin .gtr 5 false true t17_2 (Value.int .u8 122)) w9 fun t18_2 w10 =>
      Run Try.prog (sOp (.pick (.const t13_2) (.const (Value.bool true)) (.const t18_2)) 4) w10 fun t19_2 w11 =>
      J6 t19_2 w11) (
      Run Try.prog (sOp (.pick (.const t13_2) (.const (Value.bool true)) (.const undef)) 4) w8 fun t19_3 w12 =>
      J6 t19_3 w12)) ∧
  ∀ t19_4 _ _ _ _ _ _ _ _ _ : Value, ∀ w13 : World, J6 t19_4 w13 →
  CondV t19_4 (
    R (.returned (Value.bool false)) w13) (
    Run Try.prog (sBin .add 3 false true t3 (Value.int .i64 1)) w13 fun t9_2 w14 =>
  I1 t9_2 w14 ∧ m2 t9_2 w14 < m2 t3 w3))) (
    Run Try.prog (sBuiltin .len #[9] 3 [false] [p0]) w5 fun t21 w15 =>
  Run Try.prog (sBin .geq 3 false true t21 (Value.int .i64 1)) w15 fun t22 w16 =>
  GuardV t22 true (
    Run Try.prog (sBuiltin .len #[9] 3 [false] [p0]) w16 fun t25 w17 =>
    Run Try.prog (sBin .leq 3 false true t25 (Value.int .i64 6)) w17 fun t26 w18 =>
    Run Try.prog (sOp (.pick (.const t22) (.const t26) (.const (Value.bool false))) 4) w18 fun t27 w19 =>
    R (.returned t27) w19) (
    Run Try.prog (sOp (.pick (.const t22) (.const undef) (.const (Value.bool false))) 4) w16 fun t27_2 w20 =>
    R (.returned t27_2) w20)))
theorem calls_s_l1Word {p0 : Value} {w : World} {R : Ending → World → Prop} (h : sh_s_l1Word p0 w R) : Calls Try.prog 51 #[p0] w R :=
  calls_sh (.seq none .leaf (.seq none (.seq none .leaf (.one (.loop [3] (.seq none .leaf (.seq none (.one (.seq (some [19]) .leaf .leaf)) .leaf))))) .leaf)) [p0] mixed Try.func51 (by kernel_rfl) (by kernel_rfl) h


/- loop.example/prologserver/spec.IsBuiltin : function 52 -/
def sh_s_IsBuiltin (p0 p1 : Value) (w : World) (R : Ending → World → Prop) : Prop :=
  (∃ J1 : Value → World → Prop, (
    Run Try.prog (sBin .eql 9 false true p0 (Value.string ⟨#[61]⟩)) w fun t7 w2 =>
    CondV t7 (
      J1 t7 w2) (
      Run Try.prog (sBin .eql 9 false true p0 (Value.string ⟨#[92, 61]⟩)) w2 fun t8 w3 =>
      CondV t8 (
        J1 t8 w3) (
        Run Try.prog (sBin .eql 9 false true p0 (Value.string ⟨#[61, 61]⟩)) w3 fun t9 w4 =>
        CondV t9 (
          J1 t9 w4) (
          Run Try.prog (sBin .eql 9 false true p0 (Value.string ⟨#[60]⟩)) w4 fun t10 w5 =>
          CondV t10 (
            J1 t10 w5) (
            Run Try.prog (sBin .eql 9 false true p0 (Value.string ⟨#[62]⟩)) w5 fun t11 w6 =>
            CondV t11 (
              J1 t11 w6) (
              Run Try.prog (sBin .eql 9 false true p0 (Value.string ⟨#[61, 60]⟩)) w6 fun t12 w7 =>
              CondV t12 (
                J1 t12 w7) (
                Run Try.prog (sBin .eql 9 false true p0 (Value.string ⟨#[62, 61]⟩)) w7 fun t13 w8 =>
                CondV t13 (
                  J1 t13 w8) (
                  Run Try.prog (sBin .eql 9 false true p0 (Value.string ⟨#[61, 58, 61]⟩)) w8 fun t14 w9 =>
                  CondV t14 (
                    J1 t14 w9) (
                    Run Try.prog (sBin .eql 9 false true p0 (Value.string ⟨#[105, 115]⟩)) w9 fun t15 w10 =>
                    J1 t15 w10))))))))) ∧
  ∀ _ _ _ _ _ _ _ _ t6 _ : Value, ∀ w11 : World, J1 t6 w11 →
  CondV t6 (
    Run Try.prog (sBin .eql 3 false true p1 (Value.int .i64 2)) w11 fun t17 w12 =>
    R (.returned t17) w12) (
    (∃ J13 : Value → World → Prop, (
      Run Try.prog (sBin .eql 9 false true p0 (Value.string ⟨#[116, 114, 117, 101]⟩)) w11 fun t19 w14 =>
      CondV t19 (
        J13 t19 w14) (
        Run Try.prog (sBin .eql 9 false true p0 (Value.string ⟨#[102, 97, 105, 108]⟩)) w14 fun t20 w15 =>
        J13 t20 w15)) ∧
    ∀ _ t18 _ : Value, ∀ w16 : World, J13 t18 w16 →
    CondV t18 (
      Run Try.prog (sBin .eql 3 false true p1 (Value.int .i64 0)) w16 fun t22 w17 =>
      R (.returned t22) w17) (
      (∃ J18 : Value → World → Prop, (
        Run Try.prog (sBin .eql 9 false true p0 (Value.string ⟨#[118, 97, 114]⟩)) w16 fun t24 w19 =>
        CondV t24 (
          J18 t24 w19) (
          Run Try.prog (sBin .eql 9 false true p0 (Value.string ⟨#[110, 111, 110, 118, 97, 114]⟩)) w19 fun t25 w20 =>
          CondV t25 (
            J18 t25 w20) (
            Run Try.prog (sBin .eql 9 false true p0 (Value.string ⟨#[97, 116, 111, 109]⟩)) w20 fun t26 w21 =>
            CondV t26 (
              J18 t26 w21) (
              Run Try.prog (sBin .eql 9 false true p0 (Value.string ⟨#[105, 110, 116]⟩)) w21 fun t27 w22 =>
              J18 t27 w22)))) ∧
      ∀ _ _ _ t23 _ : Value, ∀ w23 : World, J18 t23 w23 →
      CondV t23 (
        Run Try.prog (sBin .eql 3 false true p1 (Value.int .i64 1)) w23 fun t29 w24 =>
        R (.returned t29) w24) (
        Run Try.prog (sBin .eql 9 false true p0 (Value.string ⟨#[97, 114, 103]⟩)) w23 fun t31 w25 =>
        CondV t31 (
          Run Try.prog (sBin .eql 3 false true p1 (Value.int .i64 3)) w25 fun t33 w26 =>
          R (.returned t33) w26) (
          R (.returned (Value.bool false)) w25)))))))
theorem calls_s_IsBuiltin {p0 p1 : Value} {w : World} {R : Ending → World → Prop} (h : sh_s_IsBuiltin p0 p1 w R) : Calls Try.prog 52 #[p0, p1] w R :=
  calls_sh (.seq none .leaf (.seq none (.seq none .leaf (.one (.seq (some [6]) .leaf (.two .leaf (.seq (some [18]) .leaf (.two .leaf (.seq (some [23]) .leaf .leaf))))))) .leaf)) [p0, p1] mixed Try.func52 (by kernel_rfl) (by kernel_rfl) h


/- loop.example/prologserver/spec.l2Level : function 53 -/
def sh_s_l2Level (p0 : Value) (w : World) (R : Ending → World → Prop) : Prop :=
  (∃ J1 : Value → World → Prop, (
    Run Try.prog (sBin .eql 9 false true p0 (Value.string ⟨#[61]⟩)) w fun t5 w2 =>
    CondV t5 (
      J1 t5 w2) (
      Run Try.prog (sBin .eql 9 false true p0 (Value.string ⟨#[92, 61]⟩)) w2 fun t6 w3 =>
      CondV t6 (
        J1 t6 w3) (
        Run Try.prog (sBin .eql 9 false true p0 (Value.string ⟨#[61, 61]⟩)) w3 fun t7 w4 =>
        CondV t7 (
          J1 t7 w4) (
          Run Try.prog (sBin .eql 9 false true p0 (Value.string ⟨#[60]⟩)) w4 fun t8 w5 =>
          CondV t8 (
            J1 t8 w5) (
            Run Try.prog (sBin .eql 9 false true p0 (Value.string ⟨#[62]⟩)) w5 fun t9 w6 =>
            CondV t9 (
              J1 t9 w6) (
              Run Try.prog (sBin .eql 9 false true p0 (Value.string ⟨#[61, 60]⟩)) w6 fun t10 w7 =>
              CondV t10 (
                J1 t10 w7) (
                Run Try.prog (sBin .eql 9 false true p0 (Value.string ⟨#[62, 61]⟩)) w7 fun t11 w8 =>
                CondV t11 (
                  J1 t11 w8) (
                  Run Try.prog (sBin .eql 9 false true p0 (Value.string ⟨#[61, 58, 61]⟩)) w8 fun t12 w9 =>
                  CondV t12 (
                    J1 t12 w9) (
                    Run Try.prog (sBin .eql 9 false true p0 (Value.string ⟨#[105, 115]⟩)) w9 fun t13 w10 =>
                    J1 t13 w10))))))))) ∧
  ∀ _ _ _ _ _ _ _ _ t4 _ : Value, ∀ w11 : World, J1 t4 w11 →
  CondV t4 (
    R (.returned (Value.int .i64 3)) w11) (
    (∃ J12 : Value → World → Prop, (
      Run Try.prog (sBin .eql 9 false true p0 (Value.string ⟨#[43]⟩)) w11 fun t15 w13 =>
      CondV t15 (
        J12 t15 w13) (
        Run Try.prog (sBin .eql 9 false true p0 (Value.string ⟨#[45]⟩)) w13 fun t16 w14 =>
        J12 t16 w14)) ∧
    ∀ _ t14 _ : Value, ∀ w15 : World, J12 t14 w15 →
    CondV t14 (
      R (.returned (Value.int .i64 2)) w15) (
      (∃ J16 : Value → World → Prop, (
        Run Try.prog (sBin .eql 9 false true p0 (Value.string ⟨#[42]⟩)) w15 fun t18 w17 =>
        CondV t18 (
          J16 t18 w17) (
          Run Try.prog (sBin .eql 9 false true p0 (Value.string ⟨#[47, 47]⟩)) w17 fun t19 w18 =>
          CondV t19 (
            J16 t19 w18) (
            Run Try.prog (sBin .eql 9 false true p0 (Value.string ⟨#[109, 111, 100]⟩)) w18 fun t20 w19 =>
            J16 t20 w19))) ∧
      ∀ _ _ t17 _ : Value, ∀ w20 : World, J16 t17 w20 →
      CondV t17 (
        R (.returned (Value.int .i64 1)) w20) (
        R (.returned (Value.int .i64 0)) w20))))))
theorem calls_s_l2Level {p0 : Value} {w : World} {R : Ending → World → Prop} (h : sh_s_l2Level p0 w R) : Calls Try.prog 53 #[p0] w R :=
  calls_sh (.seq none .leaf (.seq none (.seq none .leaf (.one (.seq (some [4]) .leaf (.two .leaf (.seq (some [14]) .leaf (.two .leaf (.seq (some [17]) .leaf .leaf))))))) .leaf)) [p0] mixed Try.func53 (by kernel_rfl) (by kernel_rfl) h


/- loop.example/prologserver/spec.l3Shift : function 54 -/
def sh_s_l3Shift (p0 p1 : Value) (w : World) (R : Ending → World → Prop) : Prop :=
  Run Try.prog (sOp (.box 30 (.const p0)) 0) w fun t2 w1 =>
  Run Try.prog (sOp (.alloc 30) 0) w1 fun t4 w2 =>
  Run Try.prog (sOp (.fieldAddr 30 (.const t2) 0) 0) w2 fun t7 w3 =>
  Run Try.prog (sOp (.load 3 (.const t7)) 3) w3 fun t8 w4 =>
  Run Try.prog (sOp (.fieldAddr 30 (.const t2) 1) 0) w4 fun t9 w5 =>
  Run Try.prog (sOp (.load 3 (.const t9)) 3) w5 fun t10 w6 =>
  Run Try.prog (sOp (.fieldAddr 30 (.const t2) 2) 0) w6 fun t11 w7 =>
  Run Try.prog (sOp (.load 9 (.const t11)) 9) w7 fun t12 w8 =>
  Run Try.prog (sBuild 30 [(0, t8), (1, t10), (2, t12)]) w8 fun t13 w9 =>
  Run Try.prog (sOp (.alloc 30) 0) w9 fun t5 w10 =>
  Run Try.prog (sOp (.store 30 (.const t5) (.const t13)) 0) w10 fun _u w11 =>
  (∃ J12 : World → Prop, (
    Run Try.prog (sOp (.fieldAddr 30 (.const t2) 0) 0) w11 fun t14 w13 =>
    Run Try.prog (sOp (.load 3 (.const t14)) 3) w13 fun t15 w14 =>
    Run Try.prog (sBin .eql 3 false true t15 (Value.int .i64 1)) w14 fun t16 w15 =>
    CondV t16 (
      Run Try.prog (sOp (.fieldAddr 30 (.const t2) 1) 0) w15 fun t17 w16 =>
      Run Try.prog (sOp (.load 3 (.const t17)) 3) w16 fun t18 w17 =>
      Run Try.prog (sBin .add 3 false false t18 p1) w17 fun t20 w18 =>
      Run Try.prog (sOp (.fieldAddr 30 (.const t5) 1) 0) w18 fun t21 w19 =>
      Run Try.prog (sOp (.store 3 (.const t21) (.const t20)) 0) w19 fun _u w20 =>
      J12 w20) (
      J12 w15)) ∧
  ∀ _ _ _ _ _ _ _ _ : Value, ∀ w21 : World, J12 w21 →
  (∃ (I22 : Value → World → Prop) (m23 : Value → World → Nat), I22 (Value.int .i64 0) w21 ∧
  ∀ t6 _ _ t40 t39 t38 t37 t36 t35 t34 t33 t32 t31 t30 t29 _ _ _ _ _ : Value, ∀ w24 : World, I22 t6 w24 →
  Run Try.prog (sOp (.fieldAddr 30 (.const t2) 3) 0) w24 fun t23_2 w25 =>
  Run Try.prog (sOp (.load 28 (.const t23_2)) 28) w25 fun t24_2 w26 =>
  Run Try.prog (sBuiltin .len #[28] 3 [false] [t24_2]) w26 fun t25_2 w27 =>
  Run Try.prog (sBin .lss 3 false false t6 t25_2) w27 fun t26_2 w28 =>
  CondV t26_2 (
    (∃ A29 : (Nat → Bool) → Value → Value → Value → Value → Value → Value → Value → Value → Value → Value → Value → Value → World → Prop, A29 (fun _ => false) t40 t39 t38 t37 t36 t35 t34 t33 t32 t31 t30 t29 { w28 with drawn := w28.drawn + 1 } ∧ (
    (∀ D30 : Nat → Bool, D30 0 = false → ∀ t40_2 t39_2 t38_2 t37_2 t36_2 t35_2 t34_2 t33_2 t32_2 t31_2 t30_2 t29_2 : Value, ∀ w31 : World, A29 D30 t40_2 t39_2 t38_2 t37_2 t36_2 t35_2 t34_2 t33_2 t32_2 t31_2 t30_2 t29_2 w31 →
      Run Try.prog (sOp (.fieldAddr 30 (.const t5) 3) 0) w31 fun t29_3 w32 =>
      A29 (setD D30 0) t40_2 t39_2 t38_2 t37_2 t36_2 t35_2 t34_2 t33_2 t32_2 t31_2 t30_2 t29_3 w32) ∧
    (∀ D30 : Nat → Bool, D30 1 = false → D30 0 = true → ∀ t40_2 t39_2 t38_2 t37_2 t36_2 t35_2 t34_2 t33_2 t32_2 t31_2 t30_2 t29_2 : Value, ∀ w33 : World, A29 D30 t40_2 t39_2 t38_2 t37_2 t36_2 t35_2 t34_2 t33_2 t32_2 t31_2 t30_2 t29_2 w33 →
      Run Try.prog (sOp (.load 28 (.const t29_2)) 28) w33 fun t30_3 w34 =>
      A29 (setD D30 1) t40_2 t39_2 t38_2 t37_2 t36_2 t35_2 t34_2 t33_2 t32_2 t31_2 t30_3 t29_2 w34) ∧
    (∀ D30 : Nat → Bool, D30 2 = false → ∀ t40_2 t39_2 t38_2 t37_2 t36_2 t35_2 t34_2 t33_2 t32_2 t31_2 t30_2 t29_2 : Value, ∀ w35 : World, A29 D30 t40_2 t39_2 t38_2 t37_2 t36_2 t35_2 t34_2 t33_2 t32_2 t31_2 t30_2 t29_2 w35 →
      Run Try.prog (sOp (.fieldAddr 30 (.const t2) 3) 0) w35 fun t31_3 w36 =>
      A29 (setD D30 2) t40_2 t39_2 t38_2 t37_2 t36_2 t35_2 t34_2 t33_2 t32_2 t31_3 t30_2 t29_2 w36) ∧
    (∀ D30 : Nat → Bool, D30 3 = false → D30 2 = true → ∀ t40_2 t39_2 t38_2 t37_2 t36_2 t35_2 t34_2 t33_2 t32_2 t31_2 t30_2 t29_2 : Value, ∀ w37 : World, A29 D30 t40_2 t39_2 t38_2 t37_2 t36_2 t35_2 t34_2 t33_2 t32_2 t31_2 t30_2 t29_2 w37 →
      Run Try.prog (sOp (.load 28 (.const t31_2)) 28) w37 fun t32_3 w38 =>
      A29 (setD D30 3) t40_2 t39_2 t38_2 t37_2 t36_2 t35_2 t34_2 t33_2 t32_3 t31_2 t30_2 t29_2 w38) ∧
    (∀ D30 : Nat → Bool, D30 4 = false → ∀ t40_2 t39_2 t38_2 t37_2 t36_2 t35_2 t34_2 t33_2 t32_2 t31_2 t30_2 t29_2 : Value, ∀ w39 : World, A29 D30 t40_2 t39_2 t38_2 t37_2 t36_2 t35_2 t34_2 t33_2 t32_2 t31_2 t30_2 t29_2 w39 →
      A29 (setD D30 4) t40_2 t39_2 t38_2 t37_2 t36_2 t35_2 t34_2 t6 t32_2 t31_2 t30_2 t29_2 w39) ∧
    (∀ D30 : Nat → Bool, D30 5 = false → D30 3 = true → D30 4 = true → ∀ t40_2 t39_2 t38_2 t37_2 t36_2 t35_2 t34_2 t33_2 t32_2 t31_2 t30_2 t29_2 : Value, ∀ w40 : World, A29 D30 t40_2 t39_2 t38_2 t37_2 t36_2 t35_2 t34_2 t33_2 t32_2 t31_2 t30_2 t29_2 w40 →
      Run Try.prog (sOp (.indexAddr 28 (.const t32_2) (.const t33_2)) 0) w40 fun t34_3 w41 =>
      A29 (setD D30 5) t40_2 t39_2 t38_2 t37_2 t36_2 t35_2 t34_3 t33_2 t32_2 t31_2 t30_2 t29_2 w41) ∧
    (∀ D30 : Nat → Bool, D30 6 = false → D30 5 = true → ∀ t40_2 t39_2 t38_2 t37_2 t36_2 t35_2 t34_2 t33_2 t32_2 t31_2 t30_2 t29_2 : Value, ∀ w42 : World, A29 D30 t40_2 t39_2 t38_2 t37_2 t36_2 t35_2 t34_2 t33_2 t32_2 t31_2 t30_2 t29_2 w42 →
      Run Try.prog (sOp (.load 30 (.const t34_2)) 30) w42 fun t35_3 w43 =>
      A29 (setD D30 6) t40_2 t39_2 t38_2 t37_2 t36_2 t35_3 t34_2 t33_2 t32_2 t31_2 t30_2 t29_2 w43) ∧
    (∀ D30 : Nat → Bool, D30 7 = false → ∀ t40_2 t39_2 t38_2 t37_2 t36_2 t35_2 t34_2 t33_2 t32_2 t31_2 t30_2 t29_2 : Value, ∀ w44 : World, A29 D30 t40_2 t39_2 t38_2 t37_2 t36_2 t35_2 t34_2 t33_2 t32_2 t31_2 t30_2 t29_2 w44 →
      A29 (setD D30 7) t40_2 t39_2 t38_2 t37_2 p1 t35_2 t34_2 t33_2 t32_2 t31_2 t30_2 t29_2 w44) ∧
    (∀ D30 : Nat → Bool, D30 8 = false → D30 6 = true → D30 7 = true → ∀ t40_2 t39_2 t38_2 t37_2 t36_2 t35_2 t34_2 t33_2 t32_2 t31_2 t30_2 t29_2 : Value, ∀ w45 : World, A29 D30 t40_2 t39_2 t38_2 t37_2 t36_2 t35_2 t34_2 t33_2 t32_2 t31_2 t30_2 t29_2 w45 →
      Run Try.prog (sCall (Value.func (.func 54) #[] #[]) [t35_2, t36_2]) w45 fun t37_3 w46 =>
      A29 (setD D30 8) t40_2 t39_2 t38_2 t37_3 t36_2 t35_2 t34_2 t33_2 t32_2 t31_2 t30_2 t29_2 w46) ∧
    (∀ D30 : Nat → Bool, D30 9 = false → D30 8 = true → ∀ t40_2 t39_2 t38_2 t37_2 t36_2 t35_2 t34_2 t33_2 t32_2 t31_2 t30_2 t29_2 : Value, ∀ w47 : World, A29 D30 t40_2 t39_2 t38_2 t37_2 t36_2 t35_2 t34_2 t33_2 t32_2 t31_2 t30_2 t29_2 w47 →
      Run Try.prog (sBuildSlice 28 1 [(0, t37_2)]) w47 fun t38_3 w48 =>
      A29 (setD D30 9) t40_2 t39_2 t38_3 t37_2 t36_2 t35_2 t34_2 t33_2 t32_2 t31_2 t30_2 t29_2 w48) ∧
    (∀ D30 : Nat → Bool, D30 10 = false → D30 1 = true → D30 9 = true → D30 8 = true → ∀ t40_2 t39_2 t38_2 t37_2 t36_2 t35_2 t34_2 t33_2 t32_2 t31_2 t30_2 t29_2 : Value, ∀ w49 : World, A29 D30 t40_2 t39_2 t38_2 t37_2 t36_2 t35_2 t34_2 t33_2 t32_2 t31_2 t30_2 t29_2 w49 →
      Run Try.prog (sBuiltin .append #[28, 28] 28 [false, false] [t30_2, t38_2]) w49 fun t39_3 w50 =>
      A29 (setD D30 10) t40_2 t39_3 t38_2 t37_2 t36_2 t35_2 t34_2 t33_2 t32_2 t31_2 t30_2 t29_2 w50) ∧
    (∀ D30 : Nat → Bool, D30 11 = false → D30 0 = true → D30 1 = true → D30 2 = true → D30 3 = true → D30 4 = true → D30 5 = true → D30 6 = true → D30 7 = true → D30 8 = true → D30 9 = true → D30 10 = true → ∀ t40_2 t39_2 t38_2 t37_2 t36_2 t35_2 t34_2 t33_2 t32_2 t31_2 t30_2 t29_2 : Value, ∀ w51 : World, A29 D30 t40_2 t39_2 t38_2 t37_2 t36_2 t35_2 t34_2 t33_2 t32_2 t31_2 t30_2 t29_2 w51 →
      Run Try.prog (sOp (.fieldAddr 30 (.const t5) 3) 0) w51 fun t40_3 w52 =>
      A29 (setD D30 11) t40_3 t39_2 t38_2 t37_2 t36_2 t35_2 t34_2 t33_2 t32_2 t31_2 t30_2 t29_2 w52) ∧
    (∀ D30 : Nat → Bool, D30 12 = false → D30 11 = true → D30 10 = true → D30 10 = true → D30 0 = true → D30 1 = true → D30 2 = true → D30 3 = true → D30 4 = true → D30 5 = true → D30 6 = true → D30 7 = true → D30 8 = true → D30 9 = true → D30 10 = true → ∀ t40_2 t39_2 t38_2 t37_2 t36_2 t35_2 t34_2 t33_2 t32_2 t31_2 t30_2 t29_2 : Value, ∀ w53 : World, A29 D30 t40_2 t39_2 t38_2 t37_2 t36_2 t35_2 t34_2 t33_2 t32_2 t31_2 t30_2 t29_2 w53 →
      Run Try.prog (sOp (.store 28 (.const t40_2) (.const t39_2)) 0) w53 fun _u w54 =>
      A29 (setD D30 12) t40_2 t39_2 t38_2 t37_2 t36_2 t35_2 t34_2 t33_2 t32_2 t31_2 t30_2 t29_2 w54) ∧
    True) ∧
  ∀ D30 : Nat → Bool, D30 12 = true → D30 11 = true → D30 10 = true → D30 9 = true → D30 8 = true → D30 7 = true → D30 6 = true → D30 5 = true → D30 4 = true → D30 3 = true → D30 2 = true → D30 1 = true → D30 0 = true → ∀ t40_2 t39_2 t38_2 t37_2 t36_2 t35_2 t34_2 t33_2 t32_2 t31_2 t30_2 t29_2 : Value, ∀ w55 : World, A29 D30 t40_2 t39_2 t38_2 t37_2 t36_2 t35_2 t34_2 t33_2 t32_2 t31_2 t30_2 t29_2 w55 →
  Run Try.prog (sBin .add 3 false true t6 (Value.int .i64 1)) w55 fun t28_2 w56 =>
  I22 t28_2 w56 ∧ m23 t28_2 w56 < m23 t6 w24)) (
    Run Try.prog (sOp (.load 30 (.const t5)) 30) w28 fun t41 w57 =>
  Run Try.prog (sOp (.store 30 (.const t4) (.const t41)) 0) w57 fun _ w58 =>
  (LoadV Try.prog 30 t4 w58 fun r0 => R (.returned r0) w58))))
theorem calls_s_l3Shift {p0 p1 : Value} {w : World} {R : Ending → World → Prop} (h : sh_s_l3Shift p0 p1 w R) : Calls Try.prog 54 #[p0, p1] w R :=
  calls_sh (.seq none .leaf (.seq none .leaf (.seq (some []) .leaf (.seq none (.seq none .leaf (.one (.loop [6] .leaf))) .leaf)))) [p0, p1] mixed Try.func54 (by kernel_rfl) (by kernel_rfl) h


/- loop.example/prologserver/spec.l3Walk : function 55 -/
def sh_s_l3Walk (p0 p1 : Value) (w : World) (R : Ending → World → Prop) : Prop :=
  Run Try.prog (sOp (.box 30 (.const p0)) 0) w fun t2 w1 =>
  Run Try.prog (sOp (.alloc 30) 0) w1 fun t4 w2 =>
  (∃ (I3 : World → Prop) (m4 : World → Nat), I3 w2 ∧
  ∀ _ _ _ _ _ _ _ _ _ _ _ _ _ _ _ _ _ _ _ _ _ _ _ _ : Value, ∀ w5 : World, I3 w5 →
  (∃ J6 : Value → World → Prop, (
    Run Try.prog (sOp (.fieldAddr 30 (.const t2) 0) 0) w5 fun t5_2 w7 =>
    Run Try.prog (sOp (.load 3 (.const t5_2)) 3) w7 fun t6_2 w8 =>
    Run Try.prog (sBin .eql 3 false true t6_2 (Value.int .i64 1)) w8 fun t7_2 w9 =>
    GuardV t7_2 true (
      Run Try.prog (sOp (.fieldAddr 30 (.const t2) 1) 0) w9 fun t9_2 w10 =>
      Run Try.prog (sOp (.load 3 (.const t9_2)) 3) w10 fun t10_2 w11 =>
      Run Try.prog (sBuiltin .len #[28] 3 [false] [p1]) w11 fun t12_2 w12 =>
      Run Try.prog (sBin .lss 3 false false t10_2 t12_2) w12 fun t13_2 w13 =>
      Run Try.prog (sOp (.pick (.const t7_2) (.const t13_2) (.const (Value.bool false))) 4) w13 fun t14_2 w14 =>
      GuardV t14_2 true (
        Run Try.prog (sOp (.fieldAddr 30 (.const t2) 1) 0) w14 fun t17_2 w15 =>
        Run Try.prog (sOp (.load 3 (.const t17_2)) 3) w15 fun t18_2 w16 =>
        Run Try.prog (sOp (.indexAddr 28 (.const p1) (.const t18_2)) 0) w16 fun t19_2 w17 =>
        Run Try.prog (sOp (.fieldAddr 30 (.const t19_2) 0) 0) w17 fun t20_2 w18 =>
        Run Try.prog (sOp (.load 3 (.const t20_2)) 3) w18 fun t21_2 w19 =>
        Run Try.prog (sBin .neq 3 false true t21_2 (Value.int .i64 0)) w19 fun t22_2 w20 =>
        Run Try.prog (sOp (.pick (.const t14_2) (.const t22_2) (.const (Value.bool false))) 4) w20 fun t23_2 w21 =>
        J6 t23_2 w21) (
        Run Try.prog (sOp (.pick (.const t14_2) (.const undef) (.const (Value.bool false))) 4) w14 fun t23_3 w22 =>
        J6 t23_3 w22)) (
      Run Try.prog (sOp (.pick (.const t7_2) (.const undef) (.const (Value.bool false))) 4) w9 fun t14_3 w23 =>
      GuardV t14_3 true (
        Run Try.prog (sOp (.fieldAddr 30 (.const t2) 1) 0) w23 fun t17_3 w24 =>
        Run Try.prog (sOp (.load 3 (.const t17_3)) 3) w24 fun t18_3 w25 =>
        Run Try.prog (sOp (.indexAddr 28 (.const p1) (.const t18_3)) 0) w25 fun t19_3 w26 =>
        Run Try.prog (sOp (.fieldAddr 30 (.const t19_3) 0) 0) w26 fun t20_3 w27 =>
        Run Try.prog (sOp (.load 3 (.const t20_3)) 3) w27 fun t21_3 w28 =>
        Run Try.prog (sBin .neq 3 false true t21_3 (Value.int .i64 0)) w28 fun t22_3 w29 =>
        Run Try.prog (sOp (.pick (.const t14_3) (.const t22_3) (.const (Value.bool false))) 4) w29 fun t23_4 w30 =>
        J6 t23_4 w30) (
        Run Try.prog (sOp (.pick (.const t14_3) (.const undef) (.const (Value.bool false))) 4) w23 fun t23_5 w31 =>
        J6 t23_5 w31))) ∧
  ∀ t23_6 _ _ _ _ _ _ _ _ _ _ _ _ _ _ _ _ _ _ : Value, ∀ w32 : World, J6 t23_6 w32 →
  CondV t23_6 (
    Run Try.prog (sOp (.fieldAddr 30 (.const t2) 1) 0) w32 fun t25_2 w33 =>
  Run Try.prog (sOp (.load 3 (.const t25_2)) 3) w33 fun t26_2 w34 =>
  Run Try.prog (sOp (.indexAddr 28 (.const p1) (.const t26_2)) 0) w34 fun t27_2 w35 =>
  Run Try.prog (sOp (.load 30 (.const t27_2)) 30) w35 fun t28_2 w36 =>
  Run Try.prog (sOp (.store 30 (.const t2) (.const t28_2)) 0) w36 fun _u w37 =>
  I3 w37 ∧ m4 w37 < m4 w5) (
    Run Try.prog (sOp (.load 30 (.const t2)) 30) w32 fun t29 w38 =>
  Run Try.prog (sOp (.store 30 (.const t4) (.const t29)) 0) w38 fun _ w39 =>
  (LoadV Try.prog 30 t4 w39 fun r0 => R (.returned r0) w39))))
theorem calls_s_l3Walk {p0 p1 : Value} {w : World} {R : Ending → World → Prop} (h : sh_s_l3Walk p0 p1 w R) : Calls Try.prog 55 #[p0, p1] w R :=
  calls_sh (.seq none .leaf (.seq none (.one (.loop [] (.seq none (.seq (some [23]) .leaf .leaf) .leaf))) .leaf)) [p0, p1] mixed Try.func55 (by kernel_rfl) (by kernel_rfl) h


/- loop.example/prologserver/spec.l3Within : function 56 -/
def sh_s_l3Within (p0 p1 p2 : Value) (w : World) (R : Ending → World → Prop) : Prop :=
  Run Try.prog (sOp (.box 30 (.const p1)) 0) w fun t4 w1 =>
  Run Try.prog (sOp (.load 30 (.const t4)) 30) w1 fun t9 w2 =>
  Run Try.prog (sCall (Value.func (.func 59) #[] #[]) [(Value.slice none 0 0), t9]) w2 fun t10 w3 =>
  (∃ (I4 : Value → Value → World → Prop) (m5 : Value → Value → World → Nat), I4 (Value.int .i64 0) t10 w3 ∧
  ∀ t8 _ _ t7 _ _ _ _ _ _ _ _ _ _ _ _ _ _ _ _ _ _ _ _ _ _ _ _ _ _ _ _ _ _ _ _ _ _ _ _ _ _ : Value, ∀ w6 : World, I4 t8 t7 w6 →
  Run Try.prog (sBuiltin .len #[74] 3 [false] [t7]) w6 fun t13_2 w7 =>
  Run Try.prog (sBin .lss 3 false false t8 t13_2) w7 fun t14_2 w8 =>
  CondV t14_2 (
    (∃ J9 : Value → World → Prop, (
    Run Try.prog (sOp (.indexAddr 74 (.const t7) (.const t8)) 0) w8 fun t19_2 w10 =>
    Run Try.prog (sOp (.load 3 (.const t19_2)) 3) w10 fun t20_2 w11 =>
    Run Try.prog (sBin .eql 3 false false t20_2 p0) w11 fun t22_2 w12 =>
    CondV t22_2 (
      R (.returned (Value.bool true)) w12) (
      (∃ J13 : Value → World → Prop, (
      Run Try.prog (sOp (.indexAddr 74 (.const t7) (.const t8)) 0) w12 fun t25_2 w14 =>
      Run Try.prog (sOp (.load 3 (.const t25_2)) 3) w14 fun t26_2 w15 =>
      Run Try.prog (sBuiltin .len #[28] 3 [false] [p2]) w15 fun t28_2 w16 =>
      Run Try.prog (sBin .lss 3 false false t26_2 t28_2) w16 fun t29_2 w17 =>
      GuardV t29_2 true (
        Run Try.prog (sOp (.indexAddr 74 (.const t7) (.const t8)) 0) w17 fun t34_2 w18 =>
        Run Try.prog (sOp (.load 3 (.const t34_2)) 3) w18 fun t35_2 w19 =>
        Run Try.prog (sOp (.indexAddr 28 (.const p2) (.const t35_2)) 0) w19 fun t36_2 w20 =>
        Run Try.prog (sOp (.fieldAddr 30 (.const t36_2) 0) 0) w20 fun t37_2 w21 =>
        Run Try.prog (sOp (.load 3 (.const t37_2)) 3) w21 fun t38_2 w22 =>
        Run Try.prog (sBin .neq 3 false true t38_2 (Value.int .i64 0)) w22 fun t39_2 w23 =>
        Run Try.prog (sOp (.pick (.const t29_2) (.const t39_2) (.const (Value.bool false))) 4) w23 fun t40_2 w24 =>
        J13 t40_2 w24) (
        Run Try.prog (sOp (.pick (.const t29_2) (.const undef) (.const (Value.bool false))) 4) w17 fun t40_3 w25 =>
        J13 t40_3 w25)) ∧
    ∀ t40_4 _ _ _ _ _ _ _ _ _ _ _ _ _ _ _ _ _ : Value, ∀ w26 : World, J13 t40_4 w26 →
    CondV t40_4 (
      Run Try.prog (sOp (.indexAddr 74 (.const t7) (.const t8)) 0) w26 fun t45_2 w27 =>
      Run Try.prog (sOp (.load 3 (.const t45_2)) 3) w27 fun t46_2 w28 =>
      Run Try.prog (sOp (.indexAddr 28 (.const p2) (.const t46_2)) 0) w28 fun t47_2 w29 =>
      Run Try.prog (sOp (.load 30 (.const t47_2)) 30) w29 fun t48_2 w30 =>
      Run Try.prog (sCall (Value.func (.func 59) #[] #[]) [t7, t48_2]) w30 fun t49_2 w31 =>
      J9 t49_2 w31) (
      J9 t7 w26)))) ∧
  ∀ t7_2 _ _ _ _ _ _ _ _ _ _ _ _ _ _ _ _ _ _ _ _ _ _ _ _ _ _ _ _ _ _ _ _ _ _ : Value, ∀ w32 : World, J9 t7_2 w32 →
  Run Try.prog (sBin .add 3 false true t8 (Value.int .i64 1)) w32 fun t16_2 w33 =>
  I4 t16_2 t7_2 w33 ∧ m5 t16_2 t7_2 w33 < m5 t8 t7 w6)) (
    R (.returned (Value.bool false)) w8))
theorem calls_s_l3Within {p0 p1 p2 : Value} {w : World} {R : Ending → World → Prop} (h : sh_s_l3Within p0 p1 p2 w R) : Calls Try.prog 56 #[p0, p1, p2] w R :=
  calls_sh (.seq none .leaf (.seq none .leaf (.seq none (.seq none .leaf (.one (.loop [8, 7] (.seq none .leaf (.seq (some [7]) (.one (.seq none .leaf (.seq (some [40]) .leaf .leaf))) .leaf))))) .leaf))) [p0, p1, p2] mixed Try.func56 (by kernel_rfl) (by kernel_rfl) h

end Go.Proofs.Ytaaihodhhacapaa

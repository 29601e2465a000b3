/- Made by program: the functions in a shallow form; each form gives Calls. -/
import Derived.Test.YtaaihodhhacapaaGreatVcCalls
import Derived.Test.YtaaihodhhacapaaGreatProg
import Derived.Test.YtaaihodhhacapaaGreatZUfh0
import Derived.KernelRfl
set_option maxRecDepth 100000
namespace Go.Proofs.YtaaihodhhacapaaGreat
open Go
/- loop.example/prologserver/spec.l1Copy : function 70 -/
def sh_s_l1Copy (p0 : Value) (w : World) (R : Ending → World → Prop) : Prop :=
 RR (sOp (.box 42 (.const p0)) 0) w fun a0 b0 =>
 RR (sOp (.alloc 42) 0) b0 fun c0 d0 =>
 RR (sOp (.fieldAddr 42 (.const a0) 0) 0) d0 fun e0 f0 =>
 RR (sOp (.load 3 (.const e0)) 3) f0 fun g0 h0 =>
 RR (sOp (.fieldAddr 42 (.const a0) 1) 0) h0 fun i0 j0 =>
 RR (sOp (.load 3 (.const i0)) 3) j0 fun k0 l0 =>
 RR (sOp (.fieldAddr 42 (.const a0) 2) 0) l0 fun m0 n0 =>
 RR (sOp (.load 9 (.const m0)) 9) n0 fun o0 q0 =>
 RR (sBuild 42 [(0, g0), (1, k0), (2, o0)]) q0 fun s0 t0 =>
 RR (sOp (.alloc 42) 0) t0 fun u0 v0 =>
 RR (sOp (.store 42 (.const u0) (.const s0)) 0) v0 fun _u w0 =>
 (∃ (x0 : Value → World → Prop) (y0 : Value → World → Nat), x0 (Value.int .i64 0) w0 ∧
 ∀ z0 _ _ A0 B0 C0 D0 E0 F0 G0 H0 I0 J0 K0 _ _ _ _ _ : Value, ∀ L0 : World, x0 z0 L0 →
 RR (sOp (.fieldAddr 42 (.const a0) 3) 0) L0 fun M0 N0 =>
 RR (sOp (.load 40 (.const M0)) 40) N0 fun O0 P0 =>
 RR (sBuiltin .len #[40] 3 [false] [O0]) P0 fun Q0 S0 =>
 RR (sBin .lss 3 false false z0 Q0) S0 fun T0 U0 =>
 CondV T0 (
 (∃ V0 : (Nat → Bool) → Value → Value → Value → Value → Value → Value → Value → Value → Value → Value → Value → World → Prop, V0 (fun _ => false) A0 B0 C0 D0 E0 F0 G0 H0 I0 J0 K0 { U0 with drawn := U0.drawn + 1 } ∧ (
 (∀ W0 : Nat → Bool, W0 0 = false → ∀ X0 Y0 Z0 a1 b1 c1 d1 e1 f1 g1 h1 : Value, ∀ i1 : World, V0 W0 X0 Y0 Z0 a1 b1 c1 d1 e1 f1 g1 h1 i1 →
 RR (sOp (.fieldAddr 42 (.const u0) 3) 0) i1 fun j1 k1 =>
 V0 (setD W0 0) X0 Y0 Z0 a1 b1 c1 d1 e1 f1 g1 j1 k1) ∧
 (∀ W0 : Nat → Bool, W0 1 = false → W0 0 = true → ∀ X0 Y0 Z0 a1 b1 c1 d1 e1 f1 g1 h1 : Value, ∀ l1 : World, V0 W0 X0 Y0 Z0 a1 b1 c1 d1 e1 f1 g1 h1 l1 →
 RR (sOp (.load 40 (.const h1)) 40) l1 fun m1 n1 =>
 V0 (setD W0 1) X0 Y0 Z0 a1 b1 c1 d1 e1 f1 m1 h1 n1) ∧
 (∀ W0 : Nat → Bool, W0 2 = false → ∀ X0 Y0 Z0 a1 b1 c1 d1 e1 f1 g1 h1 : Value, ∀ o1 : World, V0 W0 X0 Y0 Z0 a1 b1 c1 d1 e1 f1 g1 h1 o1 →
 RR (sOp (.fieldAddr 42 (.const a0) 3) 0) o1 fun q1 s1 =>
 V0 (setD W0 2) X0 Y0 Z0 a1 b1 c1 d1 e1 q1 g1 h1 s1) ∧
 (∀ W0 : Nat → Bool, W0 3 = false → W0 2 = true → ∀ X0 Y0 Z0 a1 b1 c1 d1 e1 f1 g1 h1 : Value, ∀ t1 : World, V0 W0 X0 Y0 Z0 a1 b1 c1 d1 e1 f1 g1 h1 t1 →
 RR (sOp (.load 40 (.const f1)) 40) t1 fun u1 v1 =>
 V0 (setD W0 3) X0 Y0 Z0 a1 b1 c1 d1 u1 f1 g1 h1 v1) ∧
 (∀ W0 : Nat → Bool, W0 4 = false → ∀ X0 Y0 Z0 a1 b1 c1 d1 e1 f1 g1 h1 : Value, ∀ w1 : World, V0 W0 X0 Y0 Z0 a1 b1 c1 d1 e1 f1 g1 h1 w1 →
 V0 (setD W0 4) X0 Y0 Z0 a1 b1 c1 z0 e1 f1 g1 h1 w1) ∧
 (∀ W0 : Nat → Bool, W0 5 = false → W0 3 = true → W0 4 = true → ∀ X0 Y0 Z0 a1 b1 c1 d1 e1 f1 g1 h1 : Value, ∀ x1 : World, V0 W0 X0 Y0 Z0 a1 b1 c1 d1 e1 f1 g1 h1 x1 →
 RR (sOp (.indexAddr 40 (.const e1) (.const d1)) 0) x1 fun y1 z1 =>
 V0 (setD W0 5) X0 Y0 Z0 a1 b1 y1 d1 e1 f1 g1 h1 z1) ∧
 (∀ W0 : Nat → Bool, W0 6 = false → W0 5 = true → ∀ X0 Y0 Z0 a1 b1 c1 d1 e1 f1 g1 h1 : Value, ∀ A1 : World, V0 W0 X0 Y0 Z0 a1 b1 c1 d1 e1 f1 g1 h1 A1 →
 RR (sOp (.load 42 (.const c1)) 42) A1 fun B1 C1 =>
 V0 (setD W0 6) X0 Y0 Z0 a1 B1 c1 d1 e1 f1 g1 h1 C1) ∧
 (∀ W0 : Nat → Bool, W0 7 = false → W0 6 = true → ∀ X0 Y0 Z0 a1 b1 c1 d1 e1 f1 g1 h1 : Value, ∀ D1 : World, V0 W0 X0 Y0 Z0 a1 b1 c1 d1 e1 f1 g1 h1 D1 →
 RR (sCall (Value.func (.func 70) #[] #[]) [b1]) D1 fun E1 F1 =>
 V0 (setD W0 7) X0 Y0 Z0 E1 b1 c1 d1 e1 f1 g1 h1 F1) ∧
 (∀ W0 : Nat → Bool, W0 8 = false → W0 7 = true → ∀ X0 Y0 Z0 a1 b1 c1 d1 e1 f1 g1 h1 : Value, ∀ G1 : World, V0 W0 X0 Y0 Z0 a1 b1 c1 d1 e1 f1 g1 h1 G1 →
 RR (sBuildSlice 40 1 [(0, a1)]) G1 fun H1 I1 =>
 V0 (setD W0 8) X0 Y0 H1 a1 b1 c1 d1 e1 f1 g1 h1 I1) ∧
 (∀ W0 : Nat → Bool, W0 9 = false → W0 1 = true → W0 8 = true → W0 7 = true → ∀ X0 Y0 Z0 a1 b1 c1 d1 e1 f1 g1 h1 : Value, ∀ J1 : World, V0 W0 X0 Y0 Z0 a1 b1 c1 d1 e1 f1 g1 h1 J1 →
 RR (sBuiltin .append #[40, 40] 40 [false, false] [g1, Z0]) J1 fun K1 L1 =>
 V0 (setD W0 9) X0 K1 Z0 a1 b1 c1 d1 e1 f1 g1 h1 L1) ∧
 (∀ W0 : Nat → Bool, W0 10 = false → W0 0 = true → W0 1 = true → W0 2 = true → W0 3 = true → W0 4 = true → W0 5 = true → W0 6 = true → W0 7 = true → W0 8 = true → W0 9 = true → ∀ X0 Y0 Z0 a1 b1 c1 d1 e1 f1 g1 h1 : Value, ∀ M1 : World, V0 W0 X0 Y0 Z0 a1 b1 c1 d1 e1 f1 g1 h1 M1 →
 RR (sOp (.fieldAddr 42 (.const u0) 3) 0) M1 fun N1 O1 =>
 V0 (setD W0 10) N1 Y0 Z0 a1 b1 c1 d1 e1 f1 g1 h1 O1) ∧
 (∀ W0 : Nat → Bool, W0 11 = false → W0 10 = true → W0 9 = true → W0 9 = true → W0 0 = true → W0 1 = true → W0 2 = true → W0 3 = true → W0 4 = true → W0 5 = true → W0 6 = true → W0 7 = true → W0 8 = true → W0 9 = true → ∀ X0 Y0 Z0 a1 b1 c1 d1 e1 f1 g1 h1 : Value, ∀ P1 : World, V0 W0 X0 Y0 Z0 a1 b1 c1 d1 e1 f1 g1 h1 P1 →
 RR (sOp (.store 40 (.const X0) (.const Y0)) 0) P1 fun _u Q1 =>
 V0 (setD W0 11) X0 Y0 Z0 a1 b1 c1 d1 e1 f1 g1 h1 Q1) ∧
 True) ∧
 ∀ W0 : Nat → Bool, W0 11 = true → W0 10 = true → W0 9 = true → W0 8 = true → W0 7 = true → W0 6 = true → W0 5 = true → W0 4 = true → W0 3 = true → W0 2 = true → W0 1 = true → W0 0 = true → ∀ X0 Y0 Z0 a1 b1 c1 d1 e1 f1 g1 h1 : Value, ∀ S1 : World, V0 W0 X0 Y0 Z0 a1 b1 c1 d1 e1 f1 g1 h1 S1 →
 RR (sBin .add 3 false true z0 (Value.int .i64 1)) S1 fun T1 U1 =>
 x0 T1 U1 ∧ y0 T1 U1 < y0 z0 L0)) (
 RR (sOp (.load 42 (.const u0)) 42) U0 fun V1 W1 =>
 RR (sOp (.store 42 (.const c0) (.const V1)) 0) W1 fun _ X1 =>
 (LoadV Tryz.prog 42 c0 X1 fun r0 => R (.returned r0) X1)))
theorem calls_s_l1Copy {p0 : Value} {w : World} {R : Ending → World → Prop} (h : sh_s_l1Copy p0 w R) : Calls Tryz.prog 70 #[p0] w R :=
  calls_sh (.seq none .leaf (.seq none .leaf (.seq none (.seq none .leaf (.one (.loop [4] .leaf))) .leaf))) [p0] mixed Tryz.func70 (by kernel_rfl) (by kernel_rfl) h


/- loop.example/prologserver/impl.isPlain : function 71 -/
def sh_i_isPlain (p0 : Value) (w : World) (R : Ending → World → Prop) : Prop :=
 RR (sOp (.box 42 (.const p0)) 0) w fun a0 b0 =>
 RR (sOp (.fieldAddr 42 (.const a0) 0) 0) b0 fun c0 d0 =>
 RR (sOp (.load 3 (.const c0)) 3) d0 fun e0 f0 =>
 RR (sBin .eql 3 false true e0 (Value.int .i64 3)) f0 fun g0 h0 =>
 GuardV g0 true (
 RR (sOp (.fieldAddr 42 (.const a0) 2) 0) h0 fun i0 j0 =>
 RR (sOp (.load 9 (.const i0)) 9) j0 fun k0 l0 =>
 RR (sCall (Value.func (.func 92) #[] #[]) [k0]) l0 fun m0 n0 =>
 RR (sOp (.pick (.const g0) (.const m0) (.const (Value.bool false))) 4) n0 fun o0 q0 =>
 GuardV o0 true (
 RR (sOp (.fieldAddr 42 (.const a0) 2) 0) q0 fun s0 t0 =>
 RR (sOp (.load 9 (.const s0)) 9) t0 fun u0 v0 =>
 RR (sCall (Value.func (.func 93) #[] #[]) [u0]) v0 fun w0 x0 =>
 RR (sOp (.unOp .not 4 (.const w0)) 4) x0 fun y0 z0 =>
 RR (sOp (.pick (.const o0) (.const y0) (.const (Value.bool false))) 4) z0 fun A0 B0 =>
 GuardV A0 true (
 RR (sOp (.load 42 (.const a0)) 42) B0 fun C0 D0 =>
 RR (sCall (Value.func (.func 94) #[] #[]) [C0]) D0 fun E0 F0 =>
 RR (sOp (.unOp .not 4 (.const E0)) 4) F0 fun G0 H0 =>
 RR (sOp (.pick (.const A0) (.const G0) (.const (Value.bool false))) 4) H0 fun I0 J0 =>
 R (.returned I0) J0) (
 RR (sOp (.pick (.const A0) (.const undef) (.const (Value.bool false))) 4) B0 fun K0 L0 =>
 R (.returned K0) L0)) (
 RR (sOp (.pick (.const o0) (.const undef) (.const (Value.bool false))) 4) q0 fun M0 N0 =>
 GuardV M0 true (
 RR (sOp (.load 42 (.const a0)) 42) N0 fun O0 P0 =>
 RR (sCall (Value.func (.func 94) #[] #[]) [O0]) P0 fun Q0 S0 =>
 RR (sOp (.unOp .not 4 (.const Q0)) 4) S0 fun T0 U0 =>
 RR (sOp (.pick (.const M0) (.const T0) (.const (Value.bool false))) 4) U0 fun V0 W0 =>
 R (.returned V0) W0) (
 RR (sOp (.pick (.const M0) (.const undef) (.const (Value.bool false))) 4) N0 fun X0 Y0 =>
 R (.returned X0) Y0))) (
 RR (sOp (.pick (.const g0) (.const undef) (.const (Value.bool false))) 4) h0 fun Z0 a1 =>
 GuardV Z0 true (
 RR (sOp (.fieldAddr 42 (.const a0) 2) 0) a1 fun b1 c1 =>
 RR (sOp (.load 9 (.const b1)) 9) c1 fun d1 e1 =>
 RR (sCall (Value.func (.func 93) #[] #[]) [d1]) e1 fun f1 g1 =>
 RR (sOp (.unOp .not 4 (.const f1)) 4) g1 fun h1 i1 =>
 RR (sOp (.pick (.const Z0) (.const h1) (.const (Value.bool false))) 4) i1 fun j1 k1 =>
 GuardV j1 true (
 RR (sOp (.load 42 (.const a0)) 42) k1 fun l1 m1 =>
 RR (sCall (Value.func (.func 94) #[] #[]) [l1]) m1 fun n1 o1 =>
 RR (sOp (.unOp .not 4 (.const n1)) 4) o1 fun q1 s1 =>
 RR (sOp (.pick (.const j1) (.const q1) (.const (Value.bool false))) 4) s1 fun t1 u1 =>
 R (.returned t1) u1) (
 RR (sOp (.pick (.const j1) (.const undef) (.const (Value.bool false))) 4) k1 fun v1 w1 =>
 R (.returned v1) w1)) (
 RR (sOp (.pick (.const Z0) (.const undef) (.const (Value.bool false))) 4) a1 fun x1 y1 =>
 GuardV x1 true (
 RR (sOp (.load 42 (.const a0)) 42) y1 fun z1 A1 =>
 RR (sCall (Value.func (.func 94) #[] #[]) [z1]) A1 fun B1 C1 =>
 RR (sOp (.unOp .not 4 (.const B1)) 4) C1 fun D1 E1 =>
 RR (sOp (.pick (.const x1) (.const D1) (.const (Value.bool false))) 4) E1 fun F1 G1 =>
 R (.returned F1) G1) (
 RR (sOp (.pick (.const x1) (.const undef) (.const (Value.bool false))) 4) y1 fun H1 I1 =>
 R (.returned H1) I1)))
theorem calls_i_isPlain {p0 : Value} {w : World} {R : Ending → World → Prop} (h : sh_i_isPlain p0 w R) : Calls Tryz.prog 71 #[p0] w R :=
  calls_sh .leaf [p0] mixed Tryz.func71 (by kernel_rfl) (by kernel_rfl) h


/- slices.ContainsFunc[[]loop.example/prologserver/impl.Term,loop.example/prologserver/impl.Term] : function 72 -/
def sh_x_ContainsFunc_Term (p0 p1 : Value) (w : World) (R : Ending → World → Prop) : Prop :=
 RR (sCall (Value.func (.func 95) #[] #[]) [p0, p1]) w fun a0 b0 =>
 RR (sBin .geq 3 false true a0 (Value.int .i64 0)) b0 fun c0 d0 =>
 R (.returned c0) d0
theorem calls_x_ContainsFunc_Term {p0 p1 : Value} {w : World} {R : Ending → World → Prop} (h : sh_x_ContainsFunc_Term p0 p1 w R) : Calls Tryz.prog 72 #[p0, p1] w R :=
  calls_sh .leaf [p0, p1] mixed Tryz.func72 (by kernel_rfl) (by kernel_rfl) h


/- loop.example/prologserver/impl.isCut : function 73 -/
def sh_i_isCut (p0 : Value) (w : World) (R : Ending → World → Prop) : Prop :=
 RR (sOp (.box 42 (.const p0)) 0) w fun a0 b0 =>
 RR (sOp (.load 42 (.const a0)) 42) b0 fun c0 d0 =>
 RR (sCall (Value.func (.func 96) #[] #[]) [c0]) d0 fun e0 f0 =>
 GuardV e0 true (
 RR (sOp (.fieldAddr 42 (.const a0) 2) 0) f0 fun g0 h0 =>
 RR (sOp (.load 9 (.const g0)) 9) h0 fun i0 j0 =>
 RR (sBin .eql 9 false true i0 (Value.string ⟨#[33]⟩)) j0 fun k0 l0 =>
 RR (sOp (.pick (.const e0) (.const k0) (.const (Value.bool false))) 4) l0 fun m0 n0 =>
 R (.returned m0) n0) (
 RR (sOp (.pick (.const e0) (.const undef) (.const (Value.bool false))) 4) f0 fun o0 q0 =>
 R (.returned o0) q0)
theorem calls_i_isCut {p0 : Value} {w : World} {R : Ending → World → Prop} (h : sh_i_isCut p0 w R) : Calls Tryz.prog 73 #[p0] w R :=
  calls_sh .leaf [p0] mixed Tryz.func73 (by kernel_rfl) (by kernel_rfl) h


/- slices.Index[[]int,int] : function 74 -/
def sh_x_Index_int (p0 p1 : Value) (w : World) (R : Ending → World → Prop) : Prop :=
 RR (sBuiltin .len #[38] 3 [false] [p0]) w fun a0 b0 =>
 (∃ (c0 : Value → World → Prop) (d0 : Value → World → Nat), c0 (Value.int .i64 0) b0 ∧
 ∀ e0 _ _ _ _ _ _ _ _ _ _ _ _ : Value, ∀ f0 : World, c0 e0 f0 →
 RR (sBin .lss 3 false false e0 a0) f0 fun g0 h0 =>
 CondV g0 (
 RR (sOp (.indexAddr 38 (.const p0) (.const e0)) 0) h0 fun i0 j0 =>
 RR (sOp (.load 3 (.const i0)) 3) j0 fun k0 l0 =>
 RR (sBin .eql 3 false false p1 k0) l0 fun m0 n0 =>
 CondV m0 (
 R (.returned e0) n0) (
 RR (sBin .add 3 false true e0 (Value.int .i64 1)) n0 fun o0 q0 =>
 c0 o0 q0 ∧ d0 o0 q0 < d0 e0 f0)) (
 R (.returned (Value.int .i64 (-1))) h0))
theorem calls_x_Index_int {p0 p1 : Value} {w : World} {R : Ending → World → Prop} (h : sh_x_Index_int p0 p1 w R) : Calls Tryz.prog 74 #[p0, p1] w R :=
  calls_sh (.seq none .leaf (.seq none (.seq none .leaf (.one (.loop [8] .leaf))) .leaf)) [p0, p1] mixed Tryz.func74 (by kernel_rfl) (by kernel_rfl) h


/- slices.IndexFunc[[]int,int] : function 75 -/
def sh_x_IndexFunc_int (p0 p1 : Value) (w : World) (R : Ending → World → Prop) : Prop :=
 RR (sBuiltin .len #[38] 3 [false] [p0]) w fun a0 b0 =>
 (∃ (c0 : Value → World → Prop) (d0 : Value → World → Nat), c0 (Value.int .i64 0) b0 ∧
 ∀ e0 _ _ _ _ _ _ _ _ _ _ _ _ : Value, ∀ f0 : World, c0 e0 f0 →
 RR (sBin .lss 3 false false e0 a0) f0 fun g0 h0 =>
 CondV g0 (
 RR (sOp (.indexAddr 38 (.const p0) (.const e0)) 0) h0 fun i0 j0 =>
 RR (sOp (.load 3 (.const i0)) 3) j0 fun k0 l0 =>
 RR (sCall p1 [k0]) l0 fun m0 n0 =>
 CondV m0 (
 R (.returned e0) n0) (
 RR (sBin .add 3 false true e0 (Value.int .i64 1)) n0 fun o0 q0 =>
 c0 o0 q0 ∧ d0 o0 q0 < d0 e0 f0)) (
 R (.returned (Value.int .i64 (-1))) h0))
theorem calls_x_IndexFunc_int {p0 p1 : Value} {w : World} {R : Ending → World → Prop} (h : sh_x_IndexFunc_int p0 p1 w R) : Calls Tryz.prog 75 #[p0, p1] w R :=
  calls_sh (.seq none .leaf (.seq none (.seq none .leaf (.one (.loop [8] .leaf))) .leaf)) [p0, p1] mixed Tryz.func75 (by kernel_rfl) (by kernel_rfl) h


/- loop.example/prologserver/impl.own : function 76 -/
def sh_i_own (p0 : Value) (w : World) (R : Ending → World → Prop) : Prop :=
 RR (sOp (.box 42 (.const p0)) 0) w fun a0 b0 =>
 RR (sOp (.alloc 42) 0) b0 fun c0 d0 =>
 RR (sOp (.fieldAddr 42 (.const a0) 3) 0) d0 fun e0 f0 =>
 RR (sOp (.load 40 (.const e0)) 40) f0 fun g0 h0 =>
 RR (sCall (Value.func (.func 77) #[] #[]) [g0]) h0 fun i0 j0 =>
 RR (sOp (.fieldAddr 42 (.const a0) 3) 0) j0 fun k0 l0 =>
 RR (sOp (.store 40 (.const k0) (.const i0)) 0) l0 fun _u m0 =>
 RR (sOp (.load 42 (.const a0)) 42) m0 fun n0 o0 =>
 RR (sOp (.store 42 (.const c0) (.const n0)) 0) o0 fun _ q0 =>
 (LoadV Tryz.prog 42 c0 q0 fun r0 => R (.returned r0) q0)
theorem calls_i_own {p0 : Value} {w : World} {R : Ending → World → Prop} (h : sh_i_own p0 w R) : Calls Tryz.prog 76 #[p0] w R :=
  calls_sh .leaf [p0] mixed Tryz.func76 (by kernel_rfl) (by kernel_rfl) h


/- loop.example/prologserver/impl.ownList : function 77 -/
def sh_i_ownList (p0 : Value) (w : World) (R : Ending → World → Prop) : Prop :=
 RR (sBuiltin .len #[40] 3 [false] [p0]) w fun a0 b0 =>
 (∃ (c0 : Value → Value → World → Prop) (d0 : Value → Value → World → Nat), c0 (Value.int .i64 0) (Value.slice none 0 0) b0 ∧
 ∀ e0 _ f0 _ _ _ _ _ _ _ _ _ : Value, ∀ g0 : World, c0 e0 f0 g0 →
 RR (sBin .lss 3 false false e0 a0) g0 fun h0 i0 =>
 CondV h0 (
 RR (sOp (.indexAddr 40 (.const p0) (.const e0)) 0) i0 fun j0 k0 =>
 RR (sOp (.load 42 (.const j0)) 42) k0 fun l0 m0 =>
 RR (sOp (.alloc 42) 0) m0 fun n0 o0 =>
 RR (sOp (.store 42 (.const n0) (.const l0)) 0) o0 fun _ q0 =>
 RR (sOp (.load 42 (.const n0)) 42) q0 fun s0 t0 =>
 RR (sCall (Value.func (.func 76) #[] #[]) [s0]) t0 fun u0 v0 =>
 RR (sBuildSlice 40 1 [(0, u0)]) v0 fun w0 x0 =>
 RR (sBuiltin .append #[40, 40] 40 [false, false] [f0, w0]) x0 fun y0 z0 =>
 RR (sBin .add 3 false true e0 (Value.int .i64 1)) z0 fun A0 B0 =>
 c0 A0 y0 B0 ∧ d0 A0 y0 B0 < d0 e0 f0 g0) (
 R (.returned f0) i0))
theorem calls_i_ownList {p0 : Value} {w : World} {R : Ending → World → Prop} (h : sh_i_ownList p0 w R) : Calls Tryz.prog 77 #[p0] w R :=
  calls_sh (.seq none .leaf (.seq none .leaf (.seq none (.seq none .leaf (.one (.loop [8, 3] .leaf))) .leaf))) [p0] mixed Tryz.func77 (by kernel_rfl) (by kernel_rfl) h


/- (*loop.example/prologserver/impl.store).walk : function 78 -/
def sh_i_store_walk (p0 p1 : Value) (w : World) (R : Ending → World → Prop) : Prop :=
 RR (sOp (.box 42 (.const p1)) 0) w fun a0 b0 =>
 RR (sOp (.alloc 42) 0) b0 fun c0 d0 =>
 (∃ e0 : World → Prop, (
 (∃ (f0 : World → Prop) (g0 : World → Nat), f0 d0 ∧
 ∀ _ _ _ h0 i0 j0 k0 l0 m0 n0 o0 q0 s0 t0 u0 _ _ _ : Value, ∀ v0 : World, f0 v0 →
 RR (sOp (.fieldAddr 42 (.const a0) 0) 0) v0 fun w0 x0 =>
 RR (sOp (.load 3 (.const w0)) 3) x0 fun y0 z0 =>
 RR (sBin .eql 3 false true y0 (Value.int .i64 1)) z0 fun A0 B0 =>
 CondV A0 (
 (∃ C0 : (Nat → Bool) → Value → Value → Value → Value → Value → Value → Value → Value → Value → Value → Value → Value → World → Prop, C0 (fun _ => false) h0 i0 j0 k0 l0 m0 n0 o0 q0 s0 t0 u0 { B0 with drawn := B0.drawn + 1 } ∧ (
 (∀ D0 : Nat → Bool, D0 0 = false → ∀ E0 F0 G0 H0 I0 J0 K0 L0 M0 N0 O0 P0 : Value, ∀ Q0 : World, C0 D0 E0 F0 G0 H0 I0 J0 K0 L0 M0 N0 O0 P0 Q0 →
 C0 (setD D0 0) E0 F0 G0 H0 I0 J0 K0 L0 M0 N0 O0 p0 Q0) ∧
 (∀ D0 : Nat → Bool, D0 1 = false → D0 0 = true → ∀ E0 F0 G0 H0 I0 J0 K0 L0 M0 N0 O0 P0 : Value, ∀ S0 : World, C0 D0 E0 F0 G0 H0 I0 J0 K0 L0 M0 N0 O0 P0 S0 →
 RR (sOp (.nilCheck (.const P0)) 0) S0 fun T0 U0 =>
 C0 (setD D0 1) E0 F0 G0 H0 I0 J0 K0 L0 M0 N0 T0 P0 U0) ∧
 (∀ D0 : Nat → Bool, D0 2 = false → D0 1 = true → ∀ E0 F0 G0 H0 I0 J0 K0 L0 M0 N0 O0 P0 : Value, ∀ V0 : World, C0 D0 E0 F0 G0 H0 I0 J0 K0 L0 M0 N0 O0 P0 V0 →
 RR (sOp (.fieldAddr 96 (.const O0) 0) 0) V0 fun W0 X0 =>
 C0 (setD D0 2) E0 F0 G0 H0 I0 J0 K0 L0 M0 W0 O0 P0 X0) ∧
 (∀ D0 : Nat → Bool, D0 3 = false → D0 2 = true → ∀ E0 F0 G0 H0 I0 J0 K0 L0 M0 N0 O0 P0 : Value, ∀ Y0 : World, C0 D0 E0 F0 G0 H0 I0 J0 K0 L0 M0 N0 O0 P0 Y0 →
 RR (sOp (.load 94 (.const N0)) 94) Y0 fun Z0 a1 =>
 C0 (setD D0 3) E0 F0 G0 H0 I0 J0 K0 L0 Z0 N0 O0 P0 a1) ∧
 (∀ D0 : Nat → Bool, D0 4 = false → ∀ E0 F0 G0 H0 I0 J0 K0 L0 M0 N0 O0 P0 : Value, ∀ b1 : World, C0 D0 E0 F0 G0 H0 I0 J0 K0 L0 M0 N0 O0 P0 b1 →
 RR (sOp (.fieldAddr 42 (.const a0) 1) 0) b1 fun c1 d1 =>
 C0 (setD D0 4) E0 F0 G0 H0 I0 J0 K0 c1 M0 N0 O0 P0 d1) ∧
 (∀ D0 : Nat → Bool, D0 5 = false → D0 4 = true → ∀ E0 F0 G0 H0 I0 J0 K0 L0 M0 N0 O0 P0 : Value, ∀ e1 : World, C0 D0 E0 F0 G0 H0 I0 J0 K0 L0 M0 N0 O0 P0 e1 →
 RR (sOp (.load 3 (.const L0)) 3) e1 fun f1 g1 =>
 C0 (setD D0 5) E0 F0 G0 H0 I0 J0 f1 L0 M0 N0 O0 P0 g1) ∧
 (∀ D0 : Nat → Bool, D0 6 = false → D0 3 = true → D0 5 = true → ∀ E0 F0 G0 H0 I0 J0 K0 L0 M0 N0 O0 P0 : Value, ∀ h1 : World, C0 D0 E0 F0 G0 H0 I0 J0 K0 L0 M0 N0 O0 P0 h1 →
 RR (sOp (.lookup 94 (.const M0) (.const K0) true) 62) h1 fun i1 j1 =>
 C0 (setD D0 6) E0 F0 G0 H0 I0 i1 K0 L0 M0 N0 O0 P0 j1) ∧
 (∀ D0 : Nat → Bool, D0 7 = false → D0 6 = true → ∀ E0 F0 G0 H0 I0 J0 K0 L0 M0 N0 O0 P0 : Value, ∀ k1 : World, C0 D0 E0 F0 G0 H0 I0 J0 K0 L0 M0 N0 O0 P0 k1 →
 C0 (setD D0 7) E0 F0 G0 H0 J0 J0 K0 L0 M0 N0 O0 P0 k1) ∧
 (∀ D0 : Nat → Bool, D0 8 = false → D0 7 = true → ∀ E0 F0 G0 H0 I0 J0 K0 L0 M0 N0 O0 P0 : Value, ∀ l1 : World, C0 D0 E0 F0 G0 H0 I0 J0 K0 L0 M0 N0 O0 P0 l1 →
 RR (sOp (.extract (.const I0) 0) 42) l1 fun m1 n1 =>
 C0 (setD D0 8) E0 F0 G0 m1 I0 J0 K0 L0 M0 N0 O0 P0 n1) ∧
 (∀ D0 : Nat → Bool, D0 9 = false → D0 7 = true → ∀ E0 F0 G0 H0 I0 J0 K0 L0 M0 N0 O0 P0 : Value, ∀ o1 : World, C0 D0 E0 F0 G0 H0 I0 J0 K0 L0 M0 N0 O0 P0 o1 →
 RR (sOp (.extract (.const I0) 1) 4) o1 fun q1 s1 =>
 C0 (setD D0 9) E0 F0 q1 H0 I0 J0 K0 L0 M0 N0 O0 P0 s1) ∧
 (∀ D0 : Nat → Bool, D0 10 = false → ∀ E0 F0 G0 H0 I0 J0 K0 L0 M0 N0 O0 P0 : Value, ∀ t1 : World, C0 D0 E0 F0 G0 H0 I0 J0 K0 L0 M0 N0 O0 P0 t1 →
 RR (sOp (.alloc 42) 0) t1 fun u1 v1 =>
 C0 (setD D0 10) E0 u1 G0 H0 I0 J0 K0 L0 M0 N0 O0 P0 v1) ∧
 (∀ D0 : Nat → Bool, D0 11 = false → D0 10 = true → D0 8 = true → D0 0 = true → D0 1 = true → D0 2 = true → D0 3 = true → D0 4 = true → D0 5 = true → D0 6 = true → D0 7 = true → D0 8 = true → D0 10 = true → ∀ E0 F0 G0 H0 I0 J0 K0 L0 M0 N0 O0 P0 : Value, ∀ w1 : World, C0 D0 E0 F0 G0 H0 I0 J0 K0 L0 M0 N0 O0 P0 w1 →
 RR (sOp (.store 42 (.const F0) (.const H0)) 0) w1 fun _u x1 =>
 C0 (setD D0 11) E0 F0 G0 H0 I0 J0 K0 L0 M0 N0 O0 P0 x1) ∧
 (∀ D0 : Nat → Bool, D0 12 = false → D0 9 = true → D0 11 = true → D0 0 = true → D0 1 = true → D0 2 = true → D0 3 = true → D0 4 = true → D0 5 = true → D0 6 = true → D0 7 = true → D0 8 = true → D0 9 = true → D0 10 = true → D0 11 = true → ∀ E0 F0 G0 H0 I0 J0 K0 L0 M0 N0 O0 P0 : Value, ∀ y1 : World, C0 D0 E0 F0 G0 H0 I0 J0 K0 L0 M0 N0 O0 P0 y1 →
 C0 (setD D0 12) G0 F0 G0 H0 I0 J0 K0 L0 M0 N0 O0 P0 y1) ∧
 True) ∧
 ∀ D0 : Nat → Bool, D0 12 = true → D0 11 = true → D0 10 = true → D0 9 = true → D0 8 = true → D0 7 = true → D0 6 = true → D0 5 = true → D0 4 = true → D0 3 = true → D0 2 = true → D0 1 = true → D0 0 = true → ∀ E0 F0 G0 H0 I0 J0 K0 L0 M0 N0 O0 P0 : Value, ∀ z1 : World, C0 D0 E0 F0 G0 H0 I0 J0 K0 L0 M0 N0 O0 P0 z1 →
 RR (sOp (.unOp .not 4 (.const E0)) 4) z1 fun A1 B1 =>
 CondV A1 (
 e0 B1) (
 RR (sOp (.load 42 (.const F0)) 42) B1 fun C1 D1 =>
 RR (sOp (.store 42 (.const a0) (.const C1)) 0) D1 fun _u E1 =>
 f0 E1 ∧ g0 E1 < g0 v0))) (
 e0 B0))) ∧
 ∀ _ _ _ _ _ _ _ _ _ _ _ _ _ _ _ _ _ _ : Value, ∀ F1 : World, e0 F1 →
 RR (sOp (.load 42 (.const a0)) 42) F1 fun G1 H1 =>
 RR (sOp (.store 42 (.const c0) (.const G1)) 0) H1 fun _ I1 =>
 (LoadV Tryz.prog 42 c0 I1 fun r0 => R (.returned r0) I1))
theorem calls_i_store_walk {p0 p1 : Value} {w : World} {R : Ending → World → Prop} (h : sh_i_store_walk p0 p1 w R) : Calls Tryz.prog 78 #[p0, p1] w R :=
  calls_sh (.seq none .leaf (.seq (some []) (.one (.loop [] .leaf)) .leaf)) [p0, p1] mixed Tryz.func78 (by kernel_rfl) (by kernel_rfl) h


/- (*loop.example/prologserver/impl.store).bind : function 79 -/
def sh_i_store_bind (p0 p1 p2 : Value) (w : World) (R : Ending → World → Prop) : Prop :=
 RR (sOp (.box 42 (.const p2)) 0) w fun a0 b0 =>
 RR (sOp (.load 42 (.const a0)) 42) b0 fun c0 d0 =>
 RR (sOp (.makeMap 108 none) 108) d0 fun e0 f0 =>
 RR (sCall (Value.func (.func 97) #[] #[]) [p0, p1, c0, e0]) f0 fun g0 h0 =>
 CondV g0 (
 R (.returned (Value.bool false)) h0) (
 (∃ i0 : (Nat → Bool) → Value → Value → Value → Value → Value → Value → World → Prop, i0 (fun _ => false) undef undef undef undef undef undef { h0 with drawn := h0.drawn + 1 } ∧ (
 (∀ j0 : Nat → Bool, j0 0 = false → ∀ k0 l0 m0 n0 o0 q0 : Value, ∀ s0 : World, i0 j0 k0 l0 m0 n0 o0 q0 s0 →
 i0 (setD j0 0) k0 l0 m0 n0 o0 p0 s0) ∧
 (∀ j0 : Nat → Bool, j0 1 = false → j0 0 = true → ∀ k0 l0 m0 n0 o0 q0 : Value, ∀ t0 : World, i0 j0 k0 l0 m0 n0 o0 q0 t0 →
 RR (sOp (.nilCheck (.const q0)) 0) t0 fun u0 v0 =>
 i0 (setD j0 1) k0 l0 m0 n0 u0 q0 v0) ∧
 (∀ j0 : Nat → Bool, j0 2 = false → j0 1 = true → ∀ k0 l0 m0 n0 o0 q0 : Value, ∀ w0 : World, i0 j0 k0 l0 m0 n0 o0 q0 w0 →
 RR (sOp (.fieldAddr 96 (.const o0) 0) 0) w0 fun x0 y0 =>
 i0 (setD j0 2) k0 l0 m0 x0 o0 q0 y0) ∧
 (∀ j0 : Nat → Bool, j0 3 = false → j0 2 = true → ∀ k0 l0 m0 n0 o0 q0 : Value, ∀ z0 : World, i0 j0 k0 l0 m0 n0 o0 q0 z0 →
 RR (sOp (.load 94 (.const n0)) 94) z0 fun A0 B0 =>
 i0 (setD j0 3) k0 l0 A0 n0 o0 q0 B0) ∧
 (∀ j0 : Nat → Bool, j0 4 = false → ∀ k0 l0 m0 n0 o0 q0 : Value, ∀ C0 : World, i0 j0 k0 l0 m0 n0 o0 q0 C0 →
 i0 (setD j0 4) k0 p1 m0 n0 o0 q0 C0) ∧
 (∀ j0 : Nat → Bool, j0 5 = false → ∀ k0 l0 m0 n0 o0 q0 : Value, ∀ D0 : World, i0 j0 k0 l0 m0 n0 o0 q0 D0 →
 RR (sOp (.load 42 (.const a0)) 42) D0 fun E0 F0 =>
 i0 (setD j0 5) E0 l0 m0 n0 o0 q0 F0) ∧
 (∀ j0 : Nat → Bool, j0 6 = false → j0 3 = true → j0 4 = true → j0 5 = true → j0 0 = true → j0 1 = true → j0 2 = true → j0 3 = true → j0 4 = true → j0 5 = true → ∀ k0 l0 m0 n0 o0 q0 : Value, ∀ G0 : World, i0 j0 k0 l0 m0 n0 o0 q0 G0 →
 RR (sOp (.mapUpdate 94 (.const m0) (.const l0) (.const k0)) 0) G0 fun _u H0 =>
 i0 (setD j0 6) k0 l0 m0 n0 o0 q0 H0) ∧
 True) ∧
 ∀ j0 : Nat → Bool, j0 6 = true → j0 5 = true → j0 4 = true → j0 3 = true → j0 2 = true → j0 1 = true → j0 0 = true → ∀ k0 l0 m0 n0 o0 q0 : Value, ∀ I0 : World, i0 j0 k0 l0 m0 n0 o0 q0 I0 →
 RR (sOp (.nilCheck (.const p0)) 0) I0 fun J0 K0 =>
 RR (sOp (.fieldAddr 96 (.const J0) 1) 0) K0 fun L0 M0 =>
 RR (sOp (.load 38 (.const L0)) 38) M0 fun N0 O0 =>
 RR (sBuildSlice 38 1 [(0, p1)]) O0 fun P0 Q0 =>
 RR (sBuiltin .append #[38, 38] 38 [false, false] [N0, P0]) Q0 fun S0 T0 =>
 RR (sOp (.nilCheck (.const p0)) 0) T0 fun U0 V0 =>
 RR (sOp (.fieldAddr 96 (.const U0) 1) 0) V0 fun W0 X0 =>
 RR (sOp (.store 38 (.const W0) (.const S0)) 0) X0 fun _ Y0 =>
 R (.returned (Value.bool true)) Y0))
theorem calls_i_store_bind {p0 p1 p2 : Value} {w : World} {R : Ending → World → Prop} (h : sh_i_store_bind p0 p1 p2 w R) : Calls Tryz.prog 79 #[p0, p1, p2] w R :=
  calls_sh .leaf [p0, p1, p2] mixed Tryz.func79 (by kernel_rfl) (by kernel_rfl) h


/- (*loop.example/prologserver/impl.store).resolving : function 80 -/
def sh_i_store_resolving (p0 p1 p2 p3 : Value) (w : World) (R : Ending → World → Prop) : Prop :=
 RR (sOp (.box 42 (.const p1)) 0) w fun a0 b0 =>
 RR (sOp (.alloc 42) 0) b0 fun c0 d0 =>
 RR (sOp (.load 42 (.const a0)) 42) d0 fun e0 f0 =>
 RR (sCall (Value.func (.func 78) #[] #[]) [p0, e0]) f0 fun g0 h0 =>
 RR (sOp (.store 42 (.const a0) (.const g0)) 0) h0 fun _u i0 =>
 RR (sOp (.nilCheck (.const p3)) 0) i0 fun j0 k0 =>
 RR (sOp (.load 3 (.const j0)) 3) k0 fun l0 m0 =>
 RR (sBin .add 3 false true l0 (Value.int .i64 1)) m0 fun n0 o0 =>
 RR (sOp (.nilCheck (.const p3)) 0) o0 fun q0 s0 =>
 RR (sOp (.store 3 (.const q0) (.const n0)) 0) s0 fun _u t0 =>
 (∃ u0 : Value → World → Prop, (
 RR (sOp (.nilCheck (.const p3)) 0) t0 fun v0 w0 =>
 RR (sOp (.load 3 (.const v0)) 3) w0 fun x0 y0 =>
 RR (sBin .gtr 3 false true x0 (Value.int .i64 120)) y0 fun z0 A0 =>
 GuardV z0 false (
 RR (sBin .gtr 3 false true p2 (Value.int .i64 30)) A0 fun B0 C0 =>
 RR (sOp (.pick (.const z0) (.const (Value.bool true)) (.const B0)) 4) C0 fun D0 E0 =>
 u0 D0 E0) (
 RR (sOp (.pick (.const z0) (.const (Value.bool true)) (.const undef)) 4) A0 fun F0 G0 =>
 u0 F0 G0)) ∧
 ∀ H0 _ _ _ _ _ _ _ : Value, ∀ I0 : World, u0 H0 I0 →
 CondV H0 (
 RR (sBuild 42 []) I0 fun J0 K0 =>
 RR (sOp (.store 42 (.const c0) (.const J0)) 0) K0 fun _u L0 =>
 (LoadV Tryz.prog 42 c0 L0 fun r0 => R (.returned (.tuple #[r0, (Value.bool false)])) L0)) (
 RR (sOp (.fieldAddr 42 (.const a0) 0) 0) I0 fun M0 N0 =>
 RR (sOp (.load 3 (.const M0)) 3) N0 fun O0 P0 =>
 RR (sOp (.fieldAddr 42 (.const a0) 1) 0) P0 fun Q0 S0 =>
 RR (sOp (.load 3 (.const Q0)) 3) S0 fun T0 U0 =>
 RR (sOp (.fieldAddr 42 (.const a0) 2) 0) U0 fun V0 W0 =>
 RR (sOp (.load 9 (.const V0)) 9) W0 fun X0 Y0 =>
 RR (sBuild 42 [(0, O0), (1, T0), (2, X0)]) Y0 fun Z0 a1 =>
 RR (sOp (.alloc 42) 0) a1 fun b1 c1 =>
 RR (sOp (.store 42 (.const b1) (.const Z0)) 0) c1 fun _u d1 =>
 RR (sOp (.fieldAddr 42 (.const a0) 3) 0) d1 fun e1 f1 =>
 RR (sOp (.load 40 (.const e1)) 40) f1 fun g1 h1 =>
 RR (sBuiltin .len #[40] 3 [false] [g1]) h1 fun i1 j1 =>
 (∃ (k1 : Value → World → Prop) (l1 : Value → World → Nat), k1 (Value.int .i64 0) j1 ∧
 ∀ m1 _ _ _ _ _ _ _ _ _ _ _ _ _ _ _ _ _ _ _ _ _ _ _ _ _ _ : Value, ∀ n1 : World, k1 m1 n1 →
 RR (sBin .lss 3 false false m1 i1) n1 fun o1 q1 =>
 CondV o1 (
 RR (sOp (.indexAddr 40 (.const g1) (.const m1)) 0) q1 fun s1 t1 =>
 RR (sOp (.load 42 (.const s1)) 42) t1 fun u1 v1 =>
 RR (sOp (.alloc 42) 0) v1 fun w1 x1 =>
 RR (sOp (.store 42 (.const w1) (.const u1)) 0) x1 fun _u y1 =>
 RR (sOp (.load 42 (.const w1)) 42) y1 fun z1 A1 =>
 RR (sBin .add 3 false true p2 (Value.int .i64 1)) A1 fun B1 C1 =>
 RR (sCall (Value.func (.func 80) #[] #[]) [p0, z1, B1, p3]) C1 fun D1 E1 =>
 RR (sOp (.extract (.const D1) 0) 42) E1 fun F1 G1 =>
 RR (sOp (.extract (.const D1) 1) 4) G1 fun H1 I1 =>
 RR (sOp (.alloc 42) 0) I1 fun J1 K1 =>
 RR (sOp (.store 42 (.const J1) (.const F1)) 0) K1 fun _u L1 =>
 RR (sOp (.unOp .not 4 (.const H1)) 4) L1 fun M1 N1 =>
 CondV M1 (
 RR (sBuild 42 []) N1 fun O1 P1 =>
 RR (sOp (.store 42 (.const c0) (.const O1)) 0) P1 fun _u Q1 =>
 (LoadV Tryz.prog 42 c0 Q1 fun r0 => R (.returned (.tuple #[r0, (Value.bool false)])) Q1)) (
 RR (sOp (.fieldAddr 42 (.const b1) 3) 0) N1 fun S1 T1 =>
 RR (sOp (.load 40 (.const S1)) 40) T1 fun U1 V1 =>
 RR (sOp (.load 42 (.const J1)) 42) V1 fun W1 X1 =>
 RR (sBuildSlice 40 1 [(0, W1)]) X1 fun Y1 Z1 =>
 RR (sBuiltin .append #[40, 40] 40 [false, false] [U1, Y1]) Z1 fun a2 b2 =>
 RR (sOp (.fieldAddr 42 (.const b1) 3) 0) b2 fun c2 d2 =>
 RR (sOp (.store 40 (.const c2) (.const a2)) 0) d2 fun _u e2 =>
 RR (sBin .add 3 false true m1 (Value.int .i64 1)) e2 fun f2 g2 =>
 k1 f2 g2 ∧ l1 f2 g2 < l1 m1 n1)) (
 RR (sOp (.load 42 (.const b1)) 42) q1 fun h2 i2 =>
 RR (sOp (.store 42 (.const c0) (.const h2)) 0) i2 fun _ j2 =>
 (LoadV Tryz.prog 42 c0 j2 fun r0 => R (.returned (.tuple #[r0, (Value.bool true)])) j2)))))
theorem calls_i_store_resolving {p0 p1 p2 p3 : Value} {w : World} {R : Ending → World → Prop} (h : sh_i_store_resolving p0 p1 p2 p3 w R) : Calls Tryz.prog 80 #[p0, p1, p2, p3] w R :=
  calls_sh (.seq none .leaf (.seq none .leaf (.seq none .leaf (.seq none (.seq (some [30]) .leaf .leaf) (.seq none .leaf (.seq none (.seq none .leaf (.one (.loop [42] .leaf))) .leaf)))))) [p0, p1, p2, p3] mixed Tryz.func80 (by kernel_rfl) (by kernel_rfl) h


/- loop.example/prologserver/impl.renumbered : function 81 -/
def sh_i_renumbered (p0 : Value) (w : World) (R : Ending → World → Prop) : Prop :=
 RR (sCall (Value.func (.func 98) #[] #[]) [p0]) w fun a0 b0 =>
 RR (sOp (.alloc 38) 0) b0 fun c0 d0 =>
 RR (sOp (.store 38 (.const c0) (.const a0)) 0) d0 fun _u e0 =>
 RR (sBuiltin .len #[40] 3 [false] [p0]) e0 fun f0 g0 =>
 (∃ (h0 : Value → Value → World → Prop) (i0 : Value → Value → World → Nat), h0 (Value.int .i64 0) (Value.slice none 0 0) g0 ∧
 ∀ j0 _ k0 _ _ _ _ _ _ _ _ _ _ : Value, ∀ l0 : World, h0 j0 k0 l0 →
 RR (sBin .lss 3 false false j0 f0) l0 fun m0 n0 =>
 CondV m0 (
 RR (sOp (.indexAddr 40 (.const p0) (.const j0)) 0) n0 fun o0 q0 =>
 RR (sOp (.load 42 (.const o0)) 42) q0 fun s0 t0 =>
 RR (sOp (.alloc 42) 0) t0 fun u0 v0 =>
 RR (sOp (.store 42 (.const u0) (.const s0)) 0) v0 fun _ w0 =>
 RR (sOp (.load 42 (.const u0)) 42) w0 fun x0 y0 =>
 RR (sMakeFunc (.func 99) [] [c0]) y0 fun z0 A0 =>
 RR (sCall (Value.func (.func 51) #[] #[]) [x0, z0]) A0 fun B0 C0 =>
 RR (sBuildSlice 40 1 [(0, B0)]) C0 fun D0 E0 =>
 RR (sBuiltin .append #[40, 40] 40 [false, false] [k0, D0]) E0 fun F0 G0 =>
 RR (sBin .add 3 false true j0 (Value.int .i64 1)) G0 fun H0 I0 =>
 h0 H0 F0 I0 ∧ i0 H0 F0 I0 < i0 j0 k0 l0) (
 R (.returned k0) n0))
theorem calls_i_renumbered {p0 : Value} {w : World} {R : Ending → World → Prop} (h : sh_i_renumbered p0 w R) : Calls Tryz.prog 81 #[p0] w R :=
  calls_sh (.seq none .leaf (.seq none .leaf (.seq none .leaf (.seq none (.seq none .leaf (.one (.loop [11, 4] .leaf))) .leaf)))) [p0] mixed Tryz.func81 (by kernel_rfl) (by kernel_rfl) h


/- slices.Clip[[]loop.example/prologserver/impl.Term,loop.example/prologserver/impl.Term] : function 82 -/
def sh_x_Clip_Term (p0 : Value) (w : World) (R : Ending → World → Prop) : Prop :=
 RR (sBuiltin .len #[40] 3 [false] [p0]) w fun a0 b0 =>
 RR (sBuiltin .len #[40] 3 [false] [p0]) b0 fun c0 d0 =>
 RR (sOp (.slice 40 (.const p0) none (some (.const a0)) (some (.const c0))) 40) d0 fun e0 f0 =>
 R (.returned e0) f0
theorem calls_x_Clip_Term {p0 : Value} {w : World} {R : Ending → World → Prop} (h : sh_x_Clip_Term p0 w R) : Calls Tryz.prog 82 #[p0] w R :=
  calls_sh .leaf [p0] mixed Tryz.func82 (by kernel_rfl) (by kernel_rfl) h


/- loop.example/prologserver/impl.TermValid : function 83 -/
def sh_i_TermValid (p0 : Value) (w : World) (R : Ending → World → Prop) : Prop :=
 RR (sOp (.box 42 (.const p0)) 0) w fun a0 b0 =>
 RR (sOp (.alloc 3) 0) b0 fun c0 d0 =>
 RR (sOp (.store 3 (.const c0) (.const (Value.int .i64 0))) 0) d0 fun _ e0 =>
 RR (sOp (.load 42 (.const a0)) 42) e0 fun f0 g0 =>
 RR (sCall (Value.func (.func 100) #[] #[]) [f0, (Value.int .i64 1), c0]) g0 fun h0 i0 =>
 R (.returned h0) i0
theorem calls_i_TermValid {p0 : Value} {w : World} {R : Ending → World → Prop} (h : sh_i_TermValid p0 w R) : Calls Tryz.prog 83 #[p0] w R :=
  calls_sh .leaf [p0] mixed Tryz.func83 (by kernel_rfl) (by kernel_rfl) h


/- loop.example/prologserver/impl.goalsValid : function 84 -/
def sh_i_goalsValid (p0 : Value) (w : World) (R : Ending → World → Prop) : Prop :=
 RR (sBuiltin .len #[40] 3 [false] [p0]) w fun a0 b0 =>
 RR (sBin .leq 3 false true a0 (Value.int .i64 6)) b0 fun c0 d0 =>
 GuardV c0 true (
 RR (sCall (Value.func (.func 72) #[] #[]) [p0, (Value.func (.func 101) #[] #[])]) d0 fun e0 f0 =>
 RR (sOp (.unOp .not 4 (.const e0)) 4) f0 fun g0 h0 =>
 RR (sOp (.pick (.const c0) (.const g0) (.const (Value.bool false))) 4) h0 fun i0 j0 =>
 R (.returned i0) j0) (
 RR (sOp (.pick (.const c0) (.const undef) (.const (Value.bool false))) 4) d0 fun k0 l0 =>
 R (.returned k0) l0)
theorem calls_i_goalsValid {p0 : Value} {w : World} {R : Ending → World → Prop} (h : sh_i_goalsValid p0 w R) : Calls Tryz.prog 84 #[p0] w R :=
  calls_sh .leaf [p0] mixed Tryz.func84 (by kernel_rfl) (by kernel_rfl) h


/- slices.IndexFunc[[]loop.example/prologserver/impl.Clause,loop.example/prologserver/impl.Clause] : function 85 -/
def sh_x_IndexFunc_Clause (p0 p1 : Value) (w : World) (R : Ending → World → Prop) : Prop :=
 RR (sBuiltin .len #[24] 3 [false] [p0]) w fun a0 b0 =>
 (∃ (c0 : Value → World → Prop) (d0 : Value → World → Nat), c0 (Value.int .i64 0) b0 ∧
 ∀ e0 _ _ _ _ _ _ _ _ _ _ _ _ : Value, ∀ f0 : World, c0 e0 f0 →
 RR (sBin .lss 3 false false e0 a0) f0 fun g0 h0 =>
 CondV g0 (
 RR (sOp (.indexAddr 24 (.const p0) (.const e0)) 0) h0 fun i0 j0 =>
 RR (sOp (.load 44 (.const i0)) 44) j0 fun k0 l0 =>
 RR (sCall p1 [k0]) l0 fun m0 n0 =>
 CondV m0 (
 R (.returned e0) n0) (
 RR (sBin .add 3 false true e0 (Value.int .i64 1)) n0 fun o0 q0 =>
 c0 o0 q0 ∧ d0 o0 q0 < d0 e0 f0)) (
 R (.returned (Value.int .i64 (-1))) h0))
theorem calls_x_IndexFunc_Clause {p0 p1 : Value} {w : World} {R : Ending → World → Prop} (h : sh_x_IndexFunc_Clause p0 p1 w R) : Calls Tryz.prog 85 #[p0, p1] w R :=
  calls_sh (.seq none .leaf (.seq none (.seq none .leaf (.one (.loop [8] .leaf))) .leaf)) [p0, p1] mixed Tryz.func85 (by kernel_rfl) (by kernel_rfl) h


/- loop.example/prologserver/spec.l1Word : function 86 -/
def sh_s_l1Word (p0 : Value) (w : World) (R : Ending → World → Prop) : Prop :=
 (∃ (a0 : Value → World → Prop) (b0 : Value → World → Nat), a0 (Value.int .i64 0) w ∧
 ∀ c0 _ _ _ _ _ _ _ _ _ _ _ _ _ _ _ _ _ : Value, ∀ d0 : World, a0 c0 d0 →
 RR (sBuiltin .len #[9] 3 [false] [p0]) d0 fun e0 f0 =>
 RR (sBin .lss 3 false false c0 e0) f0 fun g0 h0 =>
 CondV g0 (
 (∃ i0 : Value → World → Prop, (
 RR (sOp (.index 9 (.const p0) (.const c0)) 5) h0 fun j0 k0 =>
 RR (sBin .lss 5 false true j0 (Value.int .u8 97)) k0 fun l0 m0 =>
 GuardV l0 false (
 RR (sOp (.index 9 (.const p0) (.const c0)) 5) m0 fun n0 o0 =>
 RR (sBin .gtr 5 false true n0 (Value.int .u8 122)) o0 fun q0 s0 =>
 RR (sOp (.pick (.const l0) (.const (Value.bool true)) (.const q0)) 4) s0 fun t0 u0 =>
 i0 t0 u0) (
 RR (sOp (.pick (.const l0) (.const (Value.bool true)) (.const undef)) 4) m0 fun v0 w0 =>
 i0 v0 w0)) ∧
 ∀ x0 _ _ _ _ _ _ _ _ _ : Value, ∀ y0 : World, i0 x0 y0 →
 CondV x0 (
 R (.returned (Value.bool false)) y0) (
 RR (sBin .add 3 false true c0 (Value.int .i64 1)) y0 fun z0 A0 =>
 a0 z0 A0 ∧ b0 z0 A0 < b0 c0 d0))) (
 RR (sBuiltin .len #[9] 3 [false] [p0]) h0 fun B0 C0 =>
 RR (sBin .geq 3 false true B0 (Value.int .i64 1)) C0 fun D0 E0 =>
 GuardV D0 true (
 RR (sBuiltin .len #[9] 3 [false] [p0]) E0 fun F0 G0 =>
 RR (sBin .leq 3 false true F0 (Value.int .i64 6)) G0 fun H0 I0 =>
 RR (sOp (.pick (.const D0) (.const H0) (.const (Value.bool false))) 4) I0 fun J0 K0 =>
 R (.returned J0) K0) (
 RR (sOp (.pick (.const D0) (.const undef) (.const (Value.bool false))) 4) E0 fun L0 M0 =>
 R (.returned L0) M0)))
theorem calls_s_l1Word {p0 : Value} {w : World} {R : Ending → World → Prop} (h : sh_s_l1Word p0 w R) : Calls Tryz.prog 86 #[p0] w R :=
  calls_sh (.seq none .leaf (.seq none (.seq none .leaf (.one (.loop [3] (.seq none .leaf (.seq none (.one (.seq (some [19]) .leaf .leaf)) .leaf))))) .leaf)) [p0] mixed Tryz.func86 (by kernel_rfl) (by kernel_rfl) h


/- loop.example/prologserver/spec.IsBuiltin : function 87 -/
def sh_s_IsBuiltin (p0 p1 : Value) (w : World) (R : Ending → World → Prop) : Prop :=
 (∃ a0 : Value → World → Prop, (
 RR (sBin .eql 9 false true p0 (Value.string ⟨#[61]⟩)) w fun b0 c0 =>
 CondV b0 (
 a0 b0 c0) (
 RR (sBin .eql 9 false true p0 (Value.string ⟨#[92, 61]⟩)) c0 fun d0 e0 =>
 CondV d0 (
 a0 d0 e0) (
 RR (sBin .eql 9 false true p0 (Value.string ⟨#[61, 61]⟩)) e0 fun f0 g0 =>
 CondV f0 (
 a0 f0 g0) (
 RR (sBin .eql 9 false true p0 (Value.string ⟨#[60]⟩)) g0 fun h0 i0 =>
 CondV h0 (
 a0 h0 i0) (
 RR (sBin .eql 9 false true p0 (Value.string ⟨#[62]⟩)) i0 fun j0 k0 =>
 CondV j0 (
 a0 j0 k0) (
 RR (sBin .eql 9 false true p0 (Value.string ⟨#[61, 60]⟩)) k0 fun l0 m0 =>
 CondV l0 (
 a0 l0 m0) (
 RR (sBin .eql 9 false true p0 (Value.string ⟨#[62, 61]⟩)) m0 fun n0 o0 =>
 CondV n0 (
 a0 n0 o0) (
 RR (sBin .eql 9 false true p0 (Value.string ⟨#[61, 58, 61]⟩)) o0 fun q0 s0 =>
 CondV q0 (
 a0 q0 s0) (
 RR (sBin .eql 9 false true p0 (Value.string ⟨#[105, 115]⟩)) s0 fun t0 u0 =>
 a0 t0 u0))))))))) ∧
 ∀ _ _ _ _ _ _ _ _ v0 _ : Value, ∀ w0 : World, a0 v0 w0 →
 CondV v0 (
 RR (sBin .eql 3 false true p1 (Value.int .i64 2)) w0 fun x0 y0 =>
 R (.returned x0) y0) (
 (∃ z0 : Value → World → Prop, (
 RR (sBin .eql 9 false true p0 (Value.string ⟨#[116, 114, 117, 101]⟩)) w0 fun A0 B0 =>
 CondV A0 (
 z0 A0 B0) (
 RR (sBin .eql 9 false true p0 (Value.string ⟨#[102, 97, 105, 108]⟩)) B0 fun C0 D0 =>
 z0 C0 D0)) ∧
 ∀ _ E0 _ : Value, ∀ F0 : World, z0 E0 F0 →
 CondV E0 (
 RR (sBin .eql 3 false true p1 (Value.int .i64 0)) F0 fun G0 H0 =>
 R (.returned G0) H0) (
 (∃ I0 : Value → World → Prop, (
 RR (sBin .eql 9 false true p0 (Value.string ⟨#[118, 97, 114]⟩)) F0 fun J0 K0 =>
 CondV J0 (
 I0 J0 K0) (
 RR (sBin .eql 9 false true p0 (Value.string ⟨#[110, 111, 110, 118, 97, 114]⟩)) K0 fun L0 M0 =>
 CondV L0 (
 I0 L0 M0) (
 RR (sBin .eql 9 false true p0 (Value.string ⟨#[97, 116, 111, 109]⟩)) M0 fun N0 O0 =>
 CondV N0 (
 I0 N0 O0) (
 RR (sBin .eql 9 false true p0 (Value.string ⟨#[105, 110, 116]⟩)) O0 fun P0 Q0 =>
 I0 P0 Q0)))) ∧
 ∀ _ _ _ S0 _ : Value, ∀ T0 : World, I0 S0 T0 →
 CondV S0 (
 RR (sBin .eql 3 false true p1 (Value.int .i64 1)) T0 fun U0 V0 =>
 R (.returned U0) V0) (
 RR (sBin .eql 9 false true p0 (Value.string ⟨#[97, 114, 103]⟩)) T0 fun W0 X0 =>
 CondV W0 (
 RR (sBin .eql 3 false true p1 (Value.int .i64 3)) X0 fun Y0 Z0 =>
 R (.returned Y0) Z0) (
 R (.returned (Value.bool false)) X0)))))))
theorem calls_s_IsBuiltin {p0 p1 : Value} {w : World} {R : Ending → World → Prop} (h : sh_s_IsBuiltin p0 p1 w R) : Calls Tryz.prog 87 #[p0, p1] w R :=
  calls_sh (.seq none .leaf (.seq none (.seq none .leaf (.one (.seq (some [6]) .leaf (.two .leaf (.seq (some [18]) .leaf (.two .leaf (.seq (some [23]) .leaf .leaf))))))) .leaf)) [p0, p1] mixed Tryz.func87 (by kernel_rfl) (by kernel_rfl) h


/- loop.example/prologserver/spec.l2Level : function 88 -/
def sh_s_l2Level (p0 : Value) (w : World) (R : Ending → World → Prop) : Prop :=
 (∃ a0 : Value → World → Prop, (
 RR (sBin .eql 9 false true p0 (Value.string ⟨#[61]⟩)) w fun b0 c0 =>
 CondV b0 (
 a0 b0 c0) (
 RR (sBin .eql 9 false true p0 (Value.string ⟨#[92, 61]⟩)) c0 fun d0 e0 =>
 CondV d0 (
 a0 d0 e0) (
 RR (sBin .eql 9 false true p0 (Value.string ⟨#[61, 61]⟩)) e0 fun f0 g0 =>
 CondV f0 (
 a0 f0 g0) (
 RR (sBin .eql 9 false true p0 (Value.string ⟨#[60]⟩)) g0 fun h0 i0 =>
 CondV h0 (
 a0 h0 i0) (
 RR (sBin .eql 9 false true p0 (Value.string ⟨#[62]⟩)) i0 fun j0 k0 =>
 CondV j0 (
 a0 j0 k0) (
 RR (sBin .eql 9 false true p0 (Value.string ⟨#[61, 60]⟩)) k0 fun l0 m0 =>
 CondV l0 (
 a0 l0 m0) (
 RR (sBin .eql 9 false true p0 (Value.string ⟨#[62, 61]⟩)) m0 fun n0 o0 =>
 CondV n0 (
 a0 n0 o0) (
 RR (sBin .eql 9 false true p0 (Value.string ⟨#[61, 58, 61]⟩)) o0 fun q0 s0 =>
 CondV q0 (
 a0 q0 s0) (
 RR (sBin .eql 9 false true p0 (Value.string ⟨#[105, 115]⟩)) s0 fun t0 u0 =>
 a0 t0 u0))))))))) ∧
 ∀ _ _ _ _ _ _ _ _ v0 _ : Value, ∀ w0 : World, a0 v0 w0 →
 CondV v0 (
 R (.returned (Value.int .i64 3)) w0) (
 (∃ x0 : Value → World → Prop, (
 RR (sBin .eql 9 false true p0 (Value.string ⟨#[43]⟩)) w0 fun y0 z0 =>
 CondV y0 (
 x0 y0 z0) (
 RR (sBin .eql 9 false true p0 (Value.string ⟨#[45]⟩)) z0 fun A0 B0 =>
 x0 A0 B0)) ∧
 ∀ _ C0 _ : Value, ∀ D0 : World, x0 C0 D0 →
 CondV C0 (
 R (.returned (Value.int .i64 2)) D0) (
 (∃ E0 : Value → World → Prop, (
 RR (sBin .eql 9 false true p0 (Value.string ⟨#[42]⟩)) D0 fun F0 G0 =>
 CondV F0 (
 E0 F0 G0) (
 RR (sBin .eql 9 false true p0 (Value.string ⟨#[47, 47]⟩)) G0 fun H0 I0 =>
 CondV H0 (
 E0 H0 I0) (
 RR (sBin .eql 9 false true p0 (Value.string ⟨#[109, 111, 100]⟩)) I0 fun J0 K0 =>
 E0 J0 K0))) ∧
 ∀ _ _ L0 _ : Value, ∀ M0 : World, E0 L0 M0 →
 CondV L0 (
 R (.returned (Value.int .i64 1)) M0) (
 R (.returned (Value.int .i64 0)) M0))))))
theorem calls_s_l2Level {p0 : Value} {w : World} {R : Ending → World → Prop} (h : sh_s_l2Level p0 w R) : Calls Tryz.prog 88 #[p0] w R :=
  calls_sh (.seq none .leaf (.seq none (.seq none .leaf (.one (.seq (some [4]) .leaf (.two .leaf (.seq (some [14]) .leaf (.two .leaf (.seq (some [17]) .leaf .leaf))))))) .leaf)) [p0] mixed Tryz.func88 (by kernel_rfl) (by kernel_rfl) h


/- loop.example/prologserver/spec.l4Goal : function 89 -/
def sh_s_l4Goal (p0 : Value) (w : World) (R : Ending → World → Prop) : Prop :=
 RR (sOp (.box 42 (.const p0)) 0) w fun a0 b0 =>
 RR (sOp (.load 42 (.const a0)) 42) b0 fun c0 d0 =>
 RR (sCall (Value.func (.func 60) #[] #[]) [c0]) d0 fun e0 f0 =>
 GuardV e0 false (
 RR (sOp (.load 42 (.const a0)) 42) f0 fun g0 h0 =>
 RR (sCall (Value.func (.func 59) #[] #[]) [g0]) h0 fun i0 j0 =>
 RR (sOp (.pick (.const e0) (.const (Value.bool true)) (.const i0)) 4) j0 fun k0 l0 =>
 GuardV k0 false (
 RR (sOp (.fieldAddr 42 (.const a0) 0) 0) l0 fun m0 n0 =>
 RR (sOp (.load 3 (.const m0)) 3) n0 fun o0 q0 =>
 RR (sBin .eql 3 false true o0 (Value.int .i64 3)) q0 fun s0 t0 =>
 GuardV s0 true (
 RR (sOp (.fieldAddr 42 (.const a0) 2) 0) t0 fun u0 v0 =>
 RR (sOp (.load 9 (.const u0)) 9) v0 fun w0 x0 =>
 RR (sOp (.fieldAddr 42 (.const a0) 3) 0) x0 fun y0 z0 =>
 RR (sOp (.load 40 (.const y0)) 40) z0 fun A0 B0 =>
 RR (sBuiltin .len #[40] 3 [false] [A0]) B0 fun C0 D0 =>
 RR (sCall (Value.func (.func 87) #[] #[]) [w0, C0]) D0 fun E0 F0 =>
 GuardV k0 false (
 RR (sOp (.pick (.const s0) (.const E0) (.const (Value.bool false))) 4) F0 fun G0 H0 =>
 RR (sOp (.pick (.const k0) (.const (Value.bool true)) (.const G0)) 4) H0 fun I0 J0 =>
 R (.returned I0) J0) (
 RR (sOp (.pick (.const k0) (.const (Value.bool true)) (.const undef)) 4) F0 fun K0 L0 =>
 R (.returned K0) L0)) (
 GuardV k0 false (
 RR (sOp (.pick (.const s0) (.const undef) (.const (Value.bool false))) 4) t0 fun M0 N0 =>
 RR (sOp (.pick (.const k0) (.const (Value.bool true)) (.const M0)) 4) N0 fun O0 P0 =>
 R (.returned O0) P0) (
 RR (sOp (.pick (.const k0) (.const (Value.bool true)) (.const undef)) 4) t0 fun Q0 S0 =>
 R (.returned Q0) S0))) (
 GuardV undef true (
 RR (sOp (.fieldAddr 42 (.const a0) 2) 0) l0 fun T0 U0 =>
 RR (sOp (.load 9 (.const T0)) 9) U0 fun V0 W0 =>
 RR (sOp (.fieldAddr 42 (.const a0) 3) 0) W0 fun X0 Y0 =>
 RR (sOp (.load 40 (.const X0)) 40) Y0 fun Z0 a1 =>
 RR (sBuiltin .len #[40] 3 [false] [Z0]) a1 fun b1 c1 =>
 RR (sCall (Value.func (.func 87) #[] #[]) [V0, b1]) c1 fun d1 e1 =>
 GuardV k0 false (
 RR (sOp (.pick (.const undef) (.const d1) (.const (Value.bool false))) 4) e1 fun f1 g1 =>
 RR (sOp (.pick (.const k0) (.const (Value.bool true)) (.const f1)) 4) g1 fun h1 i1 =>
 R (.returned h1) i1) (
 RR (sOp (.pick (.const k0) (.const (Value.bool true)) (.const undef)) 4) e1 fun j1 k1 =>
 R (.returned j1) k1)) (
 GuardV k0 false (
 RR (sOp (.pick (.const undef) (.const undef) (.const (Value.bool false))) 4) l0 fun l1 m1 =>
 RR (sOp (.pick (.const k0) (.const (Value.bool true)) (.const l1)) 4) m1 fun n1 o1 =>
 R (.returned n1) o1) (
 RR (sOp (.pick (.const k0) (.const (Value.bool true)) (.const undef)) 4) l0 fun q1 s1 =>
 R (.returned q1) s1)))) (
 RR (sOp (.pick (.const e0) (.const (Value.bool true)) (.const undef)) 4) f0 fun t1 u1 =>
 GuardV t1 false (
 RR (sOp (.fieldAddr 42 (.const a0) 0) 0) u1 fun v1 w1 =>
 RR (sOp (.load 3 (.const v1)) 3) w1 fun x1 y1 =>
 RR (sBin .eql 3 false true x1 (Value.int .i64 3)) y1 fun z1 A1 =>
 GuardV z1 true (
 RR (sOp (.fieldAddr 42 (.const a0) 2) 0) A1 fun B1 C1 =>
 RR (sOp (.load 9 (.const B1)) 9) C1 fun D1 E1 =>
 RR (sOp (.fieldAddr 42 (.const a0) 3) 0) E1 fun F1 G1 =>
 RR (sOp (.load 40 (.const F1)) 40) G1 fun H1 I1 =>
 RR (sBuiltin .len #[40] 3 [false] [H1]) I1 fun J1 K1 =>
 RR (sCall (Value.func (.func 87) #[] #[]) [D1, J1]) K1 fun L1 M1 =>
 GuardV t1 false (
 RR (sOp (.pick (.const z1) (.const L1) (.const (Value.bool false))) 4) M1 fun N1 O1 =>
 RR (sOp (.pick (.const t1) (.const (Value.bool true)) (.const N1)) 4) O1 fun P1 Q1 =>
 R (.returned P1) Q1) (
 RR (sOp (.pick (.const t1) (.const (Value.bool true)) (.const undef)) 4) M1 fun S1 T1 =>
 R (.returned S1) T1)) (
 GuardV t1 false (
 RR (sOp (.pick (.const z1) (.const undef) (.const (Value.bool false))) 4) A1 fun U1 V1 =>
 RR (sOp (.pick (.const t1) (.const (Value.bool true)) (.const U1)) 4) V1 fun W1 X1 =>
 R (.returned W1) X1) (
 RR (sOp (.pick (.const t1) (.const (Value.bool true)) (.const undef)) 4) A1 fun Y1 Z1 =>
 R (.returned Y1) Z1))) (
 GuardV undef true (
 RR (sOp (.fieldAddr 42 (.const a0) 2) 0) u1 fun a2 b2 =>
 RR (sOp (.load 9 (.const a2)) 9) b2 fun c2 d2 =>
 RR (sOp (.fieldAddr 42 (.const a0) 3) 0) d2 fun e2 f2 =>
 RR (sOp (.load 40 (.const e2)) 40) f2 fun g2 h2 =>
 RR (sBuiltin .len #[40] 3 [false] [g2]) h2 fun i2 j2 =>
 RR (sCall (Value.func (.func 87) #[] #[]) [c2, i2]) j2 fun k2 l2 =>
 GuardV t1 false (
 RR (sOp (.pick (.const undef) (.const k2) (.const (Value.bool false))) 4) l2 fun m2 n2 =>
 RR (sOp (.pick (.const t1) (.const (Value.bool true)) (.const m2)) 4) n2 fun o2 q2 =>
 R (.returned o2) q2) (
 RR (sOp (.pick (.const t1) (.const (Value.bool true)) (.const undef)) 4) l2 fun s2 t2 =>
 R (.returned s2) t2)) (
 GuardV t1 false (
 RR (sOp (.pick (.const undef) (.const undef) (.const (Value.bool false))) 4) u1 fun u2 v2 =>
 RR (sOp (.pick (.const t1) (.const (Value.bool true)) (.const u2)) 4) v2 fun w2 x2 =>
 R (.returned w2) x2) (
 RR (sOp (.pick (.const t1) (.const (Value.bool true)) (.const undef)) 4) u1 fun y2 z2 =>
 R (.returned y2) z2))))
theorem calls_s_l4Goal {p0 : Value} {w : World} {R : Ending → World → Prop} (h : sh_s_l4Goal p0 w R) : Calls Tryz.prog 89 #[p0] w R :=
  calls_sh .leaf [p0] mixed Tryz.func89 (by kernel_rfl) (by kernel_rfl) h


/- loop.example/prologserver/spec.l1Shape : function 90 -/
def sh_s_l1Shape (p0 p1 : Value) (w : World) (R : Ending → World → Prop) : Prop :=
 RR (sOp (.box 42 (.const p0)) 0) w fun a0 b0 =>
 (∃ c0 : Value → World → Prop, (
 RR (sBin .lss 3 false true p1 (Value.int .i64 1)) b0 fun d0 e0 =>
 GuardV d0 false (
 RR (sOp (.load 42 (.const a0)) 42) e0 fun f0 g0 =>
 RR (sCall (Value.func (.func 103) #[] #[]) [f0]) g0 fun h0 i0 =>
 RR (sOp (.unOp .not 4 (.const h0)) 4) i0 fun j0 k0 =>
 RR (sOp (.pick (.const d0) (.const (Value.bool true)) (.const j0)) 4) k0 fun l0 m0 =>
 c0 l0 m0) (
 RR (sOp (.pick (.const d0) (.const (Value.bool true)) (.const undef)) 4) e0 fun n0 o0 =>
 c0 n0 o0)) ∧
 ∀ q0 _ _ _ _ _ _ : Value, ∀ s0 : World, c0 q0 s0 →
 CondV q0 (
 R (.returned (Value.bool false)) s0) (
 (∃ (t0 : Value → World → Prop) (u0 : Value → World → Nat), t0 (Value.int .i64 0) s0 ∧
 ∀ v0 _ _ _ _ _ _ _ _ _ _ _ _ _ _ _ _ _ : Value, ∀ w0 : World, t0 v0 w0 →
 RR (sOp (.fieldAddr 42 (.const a0) 3) 0) w0 fun x0 y0 =>
 RR (sOp (.load 40 (.const x0)) 40) y0 fun z0 A0 =>
 RR (sBuiltin .len #[40] 3 [false] [z0]) A0 fun B0 C0 =>
 RR (sBin .lss 3 false false v0 B0) C0 fun D0 E0 =>
 CondV D0 (
 RR (sOp (.fieldAddr 42 (.const a0) 3) 0) E0 fun F0 G0 =>
 RR (sOp (.load 40 (.const F0)) 40) G0 fun H0 I0 =>
 RR (sOp (.indexAddr 40 (.const H0) (.const v0)) 0) I0 fun J0 K0 =>
 RR (sOp (.load 42 (.const J0)) 42) K0 fun L0 M0 =>
 RR (sBin .sub 3 false true p1 (Value.int .i64 1)) M0 fun N0 O0 =>
 RR (sCall (Value.func (.func 90) #[] #[]) [L0, N0]) O0 fun P0 Q0 =>
 RR (sOp (.unOp .not 4 (.const P0)) 4) Q0 fun S0 T0 =>
 CondV S0 (
 R (.returned (Value.bool false)) T0) (
 RR (sBin .add 3 false true v0 (Value.int .i64 1)) T0 fun U0 V0 =>
 t0 U0 V0 ∧ u0 U0 V0 < u0 v0 w0)) (
 R (.returned (Value.bool true)) E0))))
theorem calls_s_l1Shape {p0 p1 : Value} {w : World} {R : Ending → World → Prop} (h : sh_s_l1Shape p0 p1 w R) : Calls Tryz.prog 90 #[p0, p1] w R :=
  calls_sh (.seq none .leaf (.seq none (.seq (some [12]) .leaf .leaf) (.seq none (.seq none .leaf (.one (.loop [5] .leaf))) .leaf))) [p0, p1] mixed Tryz.func90 (by kernel_rfl) (by kernel_rfl) h


/- loop.example/prologserver/spec.l1Count : function 91 -/
def sh_s_l1Count (p0 p1 : Value) (w : World) (R : Ending → World → Prop) : Prop :=
 RR (sOp (.box 42 (.const p0)) 0) w fun a0 b0 =>
 (∃ (c0 : Value → Value → World → Prop) (d0 : Value → Value → World → Nat), c0 (Value.int .i64 0) (Value.int .i64 1) b0 ∧
 ∀ e0 _ _ f0 _ _ _ _ _ _ _ _ _ _ _ _ _ _ _ _ _ _ _ _ _ : Value, ∀ g0 : World, c0 e0 f0 g0 →
 (∃ h0 : Value → World → Prop, (
 RR (sOp (.fieldAddr 42 (.const a0) 3) 0) g0 fun i0 j0 =>
 RR (sOp (.load 40 (.const i0)) 40) j0 fun k0 l0 =>
 RR (sBuiltin .len #[40] 3 [false] [k0]) l0 fun m0 n0 =>
 RR (sBin .lss 3 false false e0 m0) n0 fun o0 q0 =>
 GuardV o0 true (
 RR (sBin .leq 3 false false f0 p1) q0 fun s0 t0 =>
 RR (sOp (.pick (.const o0) (.const s0) (.const (Value.bool false))) 4) t0 fun u0 v0 =>
 h0 u0 v0) (
 RR (sOp (.pick (.const o0) (.const undef) (.const (Value.bool false))) 4) q0 fun w0 x0 =>
 h0 w0 x0)) ∧
 ∀ y0 _ _ _ _ _ _ _ _ _ : Value, ∀ z0 : World, h0 y0 z0 →
 CondV y0 (
 RR (sOp (.fieldAddr 42 (.const a0) 3) 0) z0 fun A0 B0 =>
 RR (sOp (.load 40 (.const A0)) 40) B0 fun C0 D0 =>
 RR (sOp (.indexAddr 40 (.const C0) (.const e0)) 0) D0 fun E0 F0 =>
 RR (sOp (.load 42 (.const E0)) 42) F0 fun G0 H0 =>
 RR (sBin .sub 3 false false p1 f0) H0 fun I0 J0 =>
 RR (sCall (Value.func (.func 91) #[] #[]) [G0, I0]) J0 fun K0 L0 =>
 RR (sBin .add 3 false false f0 K0) L0 fun M0 N0 =>
 RR (sBin .add 3 false true e0 (Value.int .i64 1)) N0 fun O0 P0 =>
 c0 O0 M0 P0 ∧ d0 O0 M0 P0 < d0 e0 f0 g0) (
 R (.returned f0) z0)))
theorem calls_s_l1Count {p0 p1 : Value} {w : World} {R : Ending → World → Prop} (h : sh_s_l1Count p0 p1 w R) : Calls Tryz.prog 91 #[p0, p1] w R :=
  calls_sh (.seq none .leaf (.seq none .leaf (.seq none (.seq none .leaf (.one (.loop [6, 5] (.seq none (.seq (some [16]) .leaf .leaf) .leaf)))) .leaf))) [p0, p1] mixed Tryz.func91 (by kernel_rfl) (by kernel_rfl) h


/- loop.example/prologserver/impl.isLetters : function 92 -/
def sh_i_isLetters (p0 : Value) (w : World) (R : Ending → World → Prop) : Prop :=
 RR (sBuiltin .len #[9] 3 [false] [p0]) w fun a0 b0 =>
 (∃ (c0 : Value → World → Prop) (d0 : Value → World → Nat), c0 (Value.int .i64 0) b0 ∧
 ∀ e0 _ _ _ _ _ _ _ _ _ _ _ _ _ _ _ : Value, ∀ f0 : World, c0 e0 f0 →
 RR (sBin .lss 3 false false e0 a0) f0 fun g0 h0 =>
 CondV g0 (
 (∃ i0 : Value → World → Prop, (
 RR (sOp (.index 9 (.const p0) (.const e0)) 5) h0 fun j0 k0 =>
 RR (sBin .lss 5 false true j0 (Value.int .u8 97)) k0 fun l0 m0 =>
 GuardV l0 false (
 RR (sOp (.index 9 (.const p0) (.const e0)) 5) m0 fun n0 o0 =>
 RR (sBin .gtr 5 false true n0 (Value.int .u8 122)) o0 fun q0 s0 =>
 RR (sOp (.pick (.const l0) (.const (Value.bool true)) (.const q0)) 4) s0 fun t0 u0 =>
 i0 t0 u0) (
 RR (sOp (.pick (.const l0) (.const (Value.bool true)) (.const undef)) 4) m0 fun v0 w0 =>
 i0 v0 w0)) ∧
 ∀ x0 _ _ _ _ _ _ _ _ _ : Value, ∀ y0 : World, i0 x0 y0 →
 CondV x0 (
 R (.returned (Value.bool false)) y0) (
 RR (sBin .add 3 false true e0 (Value.int .i64 1)) y0 fun z0 A0 =>
 c0 z0 A0 ∧ d0 z0 A0 < d0 e0 f0))) (
 RR (sBuiltin .len #[9] 3 [false] [p0]) h0 fun B0 C0 =>
 RR (sCall (Value.func (.func 40) #[] #[]) [B0, (Value.int .i64 1), (Value.int .i64 6)]) C0 fun D0 E0 =>
 R (.returned D0) E0))
theorem calls_i_isLetters {p0 : Value} {w : World} {R : Ending → World → Prop} (h : sh_i_isLetters p0 w R) : Calls Tryz.prog 92 #[p0] w R :=
  calls_sh (.seq none .leaf (.seq none (.seq none .leaf (.one (.loop [6] (.seq none .leaf (.seq none .leaf (.seq none (.one (.seq none .leaf (.seq (some [18]) .leaf .leaf))) .leaf)))))) .leaf)) [p0] mixed Tryz.func92 (by kernel_rfl) (by kernel_rfl) h


/- loop.example/prologserver/impl.isOp : function 93 -/
def sh_i_isOp (p0 : Value) (w : World) (R : Ending → World → Prop) : Prop :=
 RR (sCall (Value.func (.func 104) #[] #[]) [p0]) w fun a0 b0 =>
 RR (sOp (.extract (.const a0) 0) 3) b0 fun c0 d0 =>
 RR (sOp (.extract (.const a0) 1) 4) d0 fun _ e0 =>
 RR (sBin .gtr 3 false true c0 (Value.int .i64 0)) e0 fun f0 g0 =>
 R (.returned f0) g0
theorem calls_i_isOp {p0 : Value} {w : World} {R : Ending → World → Prop} (h : sh_i_isOp p0 w R) : Calls Tryz.prog 93 #[p0] w R :=
  calls_sh .leaf [p0] mixed Tryz.func93 (by kernel_rfl) (by kernel_rfl) h


/- loop.example/prologserver/impl.isBuilt : function 94 -/
def sh_i_isBuilt (p0 : Value) (w : World) (R : Ending → World → Prop) : Prop :=
 RR (sOp (.box 42 (.const p0)) 0) w fun a0 b0 =>
 RR (sOp (.fieldAddr 42 (.const a0) 0) 0) b0 fun c0 d0 =>
 RR (sOp (.load 3 (.const c0)) 3) d0 fun e0 f0 =>
 RR (sBin .eql 3 false true e0 (Value.int .i64 3)) f0 fun g0 h0 =>
 GuardV g0 true (
 RR (sOp (.fieldAddr 42 (.const a0) 2) 0) h0 fun i0 j0 =>
 RR (sOp (.load 9 (.const i0)) 9) j0 fun k0 l0 =>
 RR (sOp (.fieldAddr 42 (.const a0) 3) 0) l0 fun m0 n0 =>
 RR (sOp (.load 40 (.const m0)) 40) n0 fun o0 q0 =>
 RR (sBuiltin .len #[40] 3 [false] [o0]) q0 fun s0 t0 =>
 RR (sCall (Value.func (.func 105) #[] #[]) [k0, s0]) t0 fun u0 v0 =>
 RR (sOp (.pick (.const g0) (.const u0) (.const (Value.bool false))) 4) v0 fun w0 x0 =>
 R (.returned w0) x0) (
 RR (sOp (.pick (.const g0) (.const undef) (.const (Value.bool false))) 4) h0 fun y0 z0 =>
 R (.returned y0) z0)
theorem calls_i_isBuilt {p0 : Value} {w : World} {R : Ending → World → Prop} (h : sh_i_isBuilt p0 w R) : Calls Tryz.prog 94 #[p0] w R :=
  calls_sh .leaf [p0] mixed Tryz.func94 (by kernel_rfl) (by kernel_rfl) h


/- slices.IndexFunc[[]loop.example/prologserver/impl.Term,loop.example/prologserver/impl.Term] : function 95 -/
def sh_x_IndexFunc_Term (p0 p1 : Value) (w : World) (R : Ending → World → Prop) : Prop :=
 RR (sBuiltin .len #[40] 3 [false] [p0]) w fun a0 b0 =>
 (∃ (c0 : Value → World → Prop) (d0 : Value → World → Nat), c0 (Value.int .i64 0) b0 ∧
 ∀ e0 _ _ _ _ _ _ _ _ _ _ _ _ : Value, ∀ f0 : World, c0 e0 f0 →
 RR (sBin .lss 3 false false e0 a0) f0 fun g0 h0 =>
 CondV g0 (
 RR (sOp (.indexAddr 40 (.const p0) (.const e0)) 0) h0 fun i0 j0 =>
 RR (sOp (.load 42 (.const i0)) 42) j0 fun k0 l0 =>
 RR (sCall p1 [k0]) l0 fun m0 n0 =>
 CondV m0 (
 R (.returned e0) n0) (
 RR (sBin .add 3 false true e0 (Value.int .i64 1)) n0 fun o0 q0 =>
 c0 o0 q0 ∧ d0 o0 q0 < d0 e0 f0)) (
 R (.returned (Value.int .i64 (-1))) h0))
theorem calls_x_IndexFunc_Term {p0 p1 : Value} {w : World} {R : Ending → World → Prop} (h : sh_x_IndexFunc_Term p0 p1 w R) : Calls Tryz.prog 95 #[p0, p1] w R :=
  calls_sh (.seq none .leaf (.seq none (.seq none .leaf (.one (.loop [8] .leaf))) .leaf)) [p0, p1] mixed Tryz.func95 (by kernel_rfl) (by kernel_rfl) h


/- loop.example/prologserver/impl.isAtom : function 96 -/
def sh_i_isAtom (p0 : Value) (w : World) (R : Ending → World → Prop) : Prop :=
 RR (sOp (.box 42 (.const p0)) 0) w fun a0 b0 =>
 RR (sOp (.fieldAddr 42 (.const a0) 0) 0) b0 fun c0 d0 =>
 RR (sOp (.load 3 (.const c0)) 3) d0 fun e0 f0 =>
 RR (sBin .eql 3 false true e0 (Value.int .i64 3)) f0 fun g0 h0 =>
 GuardV g0 true (
 RR (sOp (.fieldAddr 42 (.const a0) 3) 0) h0 fun i0 j0 =>
 RR (sOp (.load 40 (.const i0)) 40) j0 fun k0 l0 =>
 RR (sBuiltin .len #[40] 3 [false] [k0]) l0 fun m0 n0 =>
 RR (sBin .eql 3 false true m0 (Value.int .i64 0)) n0 fun o0 q0 =>
 RR (sOp (.pick (.const g0) (.const o0) (.const (Value.bool false))) 4) q0 fun s0 t0 =>
 R (.returned s0) t0) (
 RR (sOp (.pick (.const g0) (.const undef) (.const (Value.bool false))) 4) h0 fun u0 v0 =>
 R (.returned u0) v0)
theorem calls_i_isAtom {p0 : Value} {w : World} {R : Ending → World → Prop} (h : sh_i_isAtom p0 w R) : Calls Tryz.prog 96 #[p0] w R :=
  calls_sh .leaf [p0] mixed Tryz.func96 (by kernel_rfl) (by kernel_rfl) h


/- (*loop.example/prologserver/impl.store).occurs : function 97 -/
def sh_i_store_occurs (p0 p1 p2 p3 : Value) (w : World) (R : Ending → World → Prop) : Prop :=
 RR (sOp (.box 72 (.const p0)) 0) w fun a0 b0 =>
 RR (sOp (.box 3 (.const p1)) 0) b0 fun c0 d0 =>
 RR (sOp (.box 42 (.const p2)) 0) d0 fun e0 f0 =>
 RR (sOp (.box 108 (.const p3)) 0) f0 fun g0 h0 =>
 RR (sOp (.fieldAddr 42 (.const e0) 0) 0) h0 fun i0 j0 =>
 RR (sOp (.load 3 (.const i0)) 3) j0 fun k0 l0 =>
 RR (sBin .eql 3 false true k0 (Value.int .i64 1)) l0 fun m0 n0 =>
 CondV m0 (
 RR (sOp (.load 108 (.const g0)) 108) n0 fun o0 q0 =>
 RR (sOp (.fieldAddr 42 (.const e0) 1) 0) q0 fun s0 t0 =>
 RR (sOp (.load 3 (.const s0)) 3) t0 fun u0 v0 =>
 RR (sOp (.lookup 108 (.const o0) (.const u0) false) 4) v0 fun w0 x0 =>
 CondV w0 (
 R (.returned (Value.bool false)) x0) (
 RR (sOp (.load 108 (.const g0)) 108) x0 fun y0 z0 =>
 RR (sOp (.fieldAddr 42 (.const e0) 1) 0) z0 fun A0 B0 =>
 RR (sOp (.load 3 (.const A0)) 3) B0 fun C0 D0 =>
 RR (sOp (.mapUpdate 108 (.const y0) (.const C0) (.const (Value.bool true))) 0) D0 fun _u E0 =>
 RR (sOp (.load 72 (.const a0)) 72) E0 fun F0 G0 =>
 RR (sOp (.load 42 (.const e0)) 42) G0 fun H0 I0 =>
 RR (sCall (Value.func (.func 78) #[] #[]) [F0, H0]) I0 fun J0 K0 =>
 RR (sOp (.alloc 42) 0) K0 fun L0 M0 =>
 RR (sOp (.store 42 (.const L0) (.const J0)) 0) M0 fun _ N0 =>
 RR (sOp (.fieldAddr 42 (.const L0) 0) 0) N0 fun O0 P0 =>
 RR (sOp (.load 3 (.const O0)) 3) P0 fun Q0 S0 =>
 RR (sBin .eql 3 false true Q0 (Value.int .i64 1)) S0 fun T0 U0 =>
 CondV T0 (
 RR (sOp (.fieldAddr 42 (.const L0) 1) 0) U0 fun V0 W0 =>
 RR (sOp (.load 3 (.const V0)) 3) W0 fun X0 Y0 =>
 RR (sOp (.load 3 (.const c0)) 3) Y0 fun Z0 a1 =>
 RR (sBin .eql 3 false false X0 Z0) a1 fun b1 c1 =>
 R (.returned b1) c1) (
 RR (sOp (.load 72 (.const a0)) 72) U0 fun d1 e1 =>
 RR (sOp (.load 3 (.const c0)) 3) e1 fun f1 g1 =>
 RR (sOp (.load 42 (.const L0)) 42) g1 fun h1 i1 =>
 RR (sOp (.load 108 (.const g0)) 108) i1 fun j1 k1 =>
 RR (sCall (Value.func (.func 97) #[] #[]) [d1, f1, h1, j1]) k1 fun l1 m1 =>
 R (.returned l1) m1))) (
 RR (sOp (.fieldAddr 42 (.const e0) 3) 0) n0 fun n1 o1 =>
 RR (sOp (.load 40 (.const n1)) 40) o1 fun q1 s1 =>
 RR (sMakeFunc (.func 106) [] [a0, c0, g0]) s1 fun t1 u1 =>
 RR (sCall (Value.func (.func 72) #[] #[]) [q1, t1]) u1 fun v1 w1 =>
 R (.returned v1) w1)
theorem calls_i_store_occurs {p0 p1 p2 p3 : Value} {w : World} {R : Ending → World → Prop} (h : sh_i_store_occurs p0 p1 p2 p3 w R) : Calls Tryz.prog 97 #[p0, p1, p2, p3] w R :=
  calls_sh .leaf [p0, p1, p2, p3] mixed Tryz.func97 (by kernel_rfl) (by kernel_rfl) h


/- loop.example/prologserver/impl.varsOf : function 98 -/
def sh_i_varsOf (p0 : Value) (w : World) (R : Ending → World → Prop) : Prop :=
 RR (sBuiltin .len #[40] 3 [false] [p0]) w fun a0 b0 =>
 (∃ (c0 : Value → Value → World → Prop) (d0 : Value → Value → World → Nat), c0 (Value.int .i64 0) (Value.slice none 0 0) b0 ∧
 ∀ e0 _ f0 _ _ _ _ _ _ _ : Value, ∀ g0 : World, c0 e0 f0 g0 →
 RR (sBin .lss 3 false false e0 a0) g0 fun h0 i0 =>
 CondV h0 (
 RR (sOp (.indexAddr 40 (.const p0) (.const e0)) 0) i0 fun j0 k0 =>
 RR (sOp (.load 42 (.const j0)) 42) k0 fun l0 m0 =>
 RR (sOp (.alloc 42) 0) m0 fun n0 o0 =>
 RR (sOp (.store 42 (.const n0) (.const l0)) 0) o0 fun _ q0 =>
 RR (sOp (.load 42 (.const n0)) 42) q0 fun s0 t0 =>
 RR (sCall (Value.func (.func 107) #[] #[]) [s0, f0]) t0 fun u0 v0 =>
 RR (sBin .add 3 false true e0 (Value.int .i64 1)) v0 fun w0 x0 =>
 c0 w0 u0 x0 ∧ d0 w0 u0 x0 < d0 e0 f0 g0) (
 R (.returned f0) i0))
theorem calls_i_varsOf {p0 : Value} {w : World} {R : Ending → World → Prop} (h : sh_i_varsOf p0 w R) : Calls Tryz.prog 98 #[p0] w R :=
  calls_sh (.seq none .leaf (.seq none .leaf (.seq none (.seq none .leaf (.one (.loop [8, 3] .leaf))) .leaf))) [p0] mixed Tryz.func98 (by kernel_rfl) (by kernel_rfl) h


/- loop.example/prologserver/impl.renumbered$1 : function 99 -/
def sh_i_renumbered_1 (p0 p1 : Value) (w : World) (R : Ending → World → Prop) : Prop :=
 RR (sOp (.alloc 42) 0) w fun a0 b0 =>
 RR (sOp (.load 38 (.const p1)) 38) b0 fun c0 d0 =>
 RR (sCall (Value.func (.func 74) #[] #[]) [c0, p0]) d0 fun e0 f0 =>
 RR (sCall (Value.func (.func 49) #[] #[]) [e0]) f0 fun g0 h0 =>
 RR (sOp (.store 42 (.const a0) (.const g0)) 0) h0 fun _ i0 =>
 (LoadV Tryz.prog 42 a0 i0 fun r0 => R (.returned r0) i0)
theorem calls_i_renumbered_1 {p0 p1 : Value} {w : World} {R : Ending → World → Prop} (h : sh_i_renumbered_1 p0 p1 w R) : Calls Tryz.prog 99 #[p0, p1] w R :=
  calls_sh .leaf [p0, p1] mixed Tryz.func99 (by kernel_rfl) (by kernel_rfl) h


/- loop.example/prologserver/impl.scan : function 100 -/
def sh_i_scan (p0 p1 p2 : Value) (w : World) (R : Ending → World → Prop) : Prop :=
 RR (sOp (.box 42 (.const p0)) 0) w fun a0 b0 =>
 RR (sOp (.box 3 (.const p1)) 0) b0 fun c0 d0 =>
 RR (sOp (.box 99 (.const p2)) 0) d0 fun e0 f0 =>
 RR (sOp (.load 99 (.const e0)) 99) f0 fun g0 h0 =>
 RR (sOp (.nilCheck (.const g0)) 0) h0 fun i0 j0 =>
 RR (sOp (.load 3 (.const i0)) 3) j0 fun k0 l0 =>
 RR (sBin .add 3 false true k0 (Value.int .i64 1)) l0 fun m0 n0 =>
 RR (sOp (.nilCheck (.const g0)) 0) n0 fun o0 q0 =>
 RR (sOp (.store 3 (.const o0) (.const m0)) 0) q0 fun _ s0 =>
 (∃ t0 : Value → World → Prop, (
 RR (sOp (.load 99 (.const e0)) 99) s0 fun u0 v0 =>
 RR (sOp (.nilCheck (.const u0)) 0) v0 fun w0 x0 =>
 RR (sOp (.load 3 (.const w0)) 3) x0 fun y0 z0 =>
 RR (sBin .gtr 3 false true y0 (Value.int .i64 120)) z0 fun A0 B0 =>
 GuardV A0 false (
 RR (sOp (.load 3 (.const c0)) 3) B0 fun C0 D0 =>
 RR (sBin .gtr 3 false true C0 (Value.int .i64 30)) D0 fun E0 F0 =>
 RR (sOp (.pick (.const A0) (.const (Value.bool true)) (.const E0)) 4) F0 fun G0 H0 =>
 t0 G0 H0) (
 RR (sOp (.pick (.const A0) (.const (Value.bool true)) (.const undef)) 4) B0 fun I0 J0 =>
 t0 I0 J0)) ∧
 ∀ K0 _ _ _ _ _ _ _ : Value, ∀ L0 : World, t0 K0 L0 →
 CondV K0 (
 R (.returned (Value.bool false)) L0) (
 RR (sOp (.fieldAddr 42 (.const a0) 0) 0) L0 fun M0 N0 =>
 RR (sOp (.load 3 (.const M0)) 3) N0 fun O0 P0 =>
 RR (sBin .eql 3 false true O0 (Value.int .i64 1)) P0 fun Q0 S0 =>
 CondV Q0 (
 RR (sOp (.fieldAddr 42 (.const a0) 1) 0) S0 fun T0 U0 =>
 RR (sOp (.load 3 (.const T0)) 3) U0 fun V0 W0 =>
 RR (sCall (Value.func (.func 40) #[] #[]) [V0, (Value.int .i64 0), (Value.int .i64 25)]) W0 fun X0 Y0 =>
 GuardV X0 true (
 RR (sOp (.fieldAddr 42 (.const a0) 2) 0) Y0 fun Z0 a1 =>
 RR (sOp (.load 9 (.const Z0)) 9) a1 fun b1 c1 =>
 RR (sBin .eql 9 false true b1 (Value.string ⟨#[]⟩)) c1 fun d1 e1 =>
 RR (sOp (.pick (.const X0) (.const d1) (.const (Value.bool false))) 4) e1 fun f1 g1 =>
 GuardV f1 true (
 RR (sOp (.fieldAddr 42 (.const a0) 3) 0) g1 fun h1 i1 =>
 RR (sOp (.load 40 (.const h1)) 40) i1 fun j1 k1 =>
 RR (sBuiltin .len #[40] 3 [false] [j1]) k1 fun l1 m1 =>
 RR (sBin .eql 3 false true l1 (Value.int .i64 0)) m1 fun n1 o1 =>
 RR (sOp (.pick (.const f1) (.const n1) (.const (Value.bool false))) 4) o1 fun q1 s1 =>
 R (.returned q1) s1) (
 RR (sOp (.pick (.const f1) (.const undef) (.const (Value.bool false))) 4) g1 fun t1 u1 =>
 R (.returned t1) u1)) (
 RR (sOp (.pick (.const X0) (.const undef) (.const (Value.bool false))) 4) Y0 fun v1 w1 =>
 GuardV v1 true (
 RR (sOp (.fieldAddr 42 (.const a0) 3) 0) w1 fun x1 y1 =>
 RR (sOp (.load 40 (.const x1)) 40) y1 fun z1 A1 =>
 RR (sBuiltin .len #[40] 3 [false] [z1]) A1 fun B1 C1 =>
 RR (sBin .eql 3 false true B1 (Value.int .i64 0)) C1 fun D1 E1 =>
 RR (sOp (.pick (.const v1) (.const D1) (.const (Value.bool false))) 4) E1 fun F1 G1 =>
 R (.returned F1) G1) (
 RR (sOp (.pick (.const v1) (.const undef) (.const (Value.bool false))) 4) w1 fun H1 I1 =>
 R (.returned H1) I1))) (
 RR (sBin .eql 3 false true O0 (Value.int .i64 2)) S0 fun J1 K1 =>
 CondV J1 (
 RR (sOp (.fieldAddr 42 (.const a0) 1) 0) K1 fun L1 M1 =>
 RR (sOp (.load 3 (.const L1)) 3) M1 fun N1 O1 =>
 RR (sCall (Value.func (.func 40) #[] #[]) [N1, (Value.int .i64 (-999)), (Value.int .i64 999)]) O1 fun P1 Q1 =>
 GuardV P1 true (
 RR (sOp (.fieldAddr 42 (.const a0) 2) 0) Q1 fun S1 T1 =>
 RR (sOp (.load 9 (.const S1)) 9) T1 fun U1 V1 =>
 RR (sBin .eql 9 false true U1 (Value.string ⟨#[]⟩)) V1 fun W1 X1 =>
 RR (sOp (.pick (.const P1) (.const W1) (.const (Value.bool false))) 4) X1 fun Y1 Z1 =>
 GuardV Y1 true (
 RR (sOp (.fieldAddr 42 (.const a0) 3) 0) Z1 fun a2 b2 =>
 RR (sOp (.load 40 (.const a2)) 40) b2 fun c2 d2 =>
 RR (sBuiltin .len #[40] 3 [false] [c2]) d2 fun e2 f2 =>
 RR (sBin .eql 3 false true e2 (Value.int .i64 0)) f2 fun g2 h2 =>
 RR (sOp (.pick (.const Y1) (.const g2) (.const (Value.bool false))) 4) h2 fun i2 j2 =>
 R (.returned i2) j2) (
 RR (sOp (.pick (.const Y1) (.const undef) (.const (Value.bool false))) 4) Z1 fun k2 l2 =>
 R (.returned k2) l2)) (
 RR (sOp (.pick (.const P1) (.const undef) (.const (Value.bool false))) 4) Q1 fun m2 n2 =>
 GuardV m2 true (
 RR (sOp (.fieldAddr 42 (.const a0) 3) 0) n2 fun o2 q2 =>
 RR (sOp (.load 40 (.const o2)) 40) q2 fun s2 t2 =>
 RR (sBuiltin .len #[40] 3 [false] [s2]) t2 fun u2 v2 =>
 RR (sBin .eql 3 false true u2 (Value.int .i64 0)) v2 fun w2 x2 =>
 RR (sOp (.pick (.const m2) (.const w2) (.const (Value.bool false))) 4) x2 fun y2 z2 =>
 R (.returned y2) z2) (
 RR (sOp (.pick (.const m2) (.const undef) (.const (Value.bool false))) 4) n2 fun A2 B2 =>
 R (.returned A2) B2))) (
 RR (sBin .eql 3 false true O0 (Value.int .i64 3)) K1 fun C2 D2 =>
 CondV C2 (
 (∃ E2 : Value → World → Prop, (
 RR (sOp (.fieldAddr 42 (.const a0) 1) 0) D2 fun F2 G2 =>
 RR (sOp (.load 3 (.const F2)) 3) G2 fun H2 I2 =>
 RR (sBin .neq 3 false true H2 (Value.int .i64 0)) I2 fun J2 K2 =>
 GuardV J2 false (
 RR (sOp (.fieldAddr 42 (.const a0) 2) 0) K2 fun L2 M2 =>
 RR (sOp (.load 9 (.const L2)) 9) M2 fun N2 O2 =>
 RR (sCall (Value.func (.func 108) #[] #[]) [N2]) O2 fun P2 Q2 =>
 RR (sOp (.unOp .not 4 (.const P2)) 4) Q2 fun S2 T2 =>
 RR (sOp (.pick (.const J2) (.const (Value.bool true)) (.const S2)) 4) T2 fun U2 V2 =>
 GuardV U2 false (
 RR (sOp (.fieldAddr 42 (.const a0) 3) 0) V2 fun W2 X2 =>
 RR (sOp (.load 40 (.const W2)) 40) X2 fun Y2 Z2 =>
 RR (sBuiltin .len #[40] 3 [false] [Y2]) Z2 fun a3 b3 =>
 RR (sBin .gtr 3 false true a3 (Value.int .i64 4)) b3 fun c3 d3 =>
 RR (sOp (.pick (.const U2) (.const (Value.bool true)) (.const c3)) 4) d3 fun e3 f3 =>
 E2 e3 f3) (
 RR (sOp (.pick (.const U2) (.const (Value.bool true)) (.const undef)) 4) V2 fun g3 h3 =>
 E2 g3 h3)) (
 RR (sOp (.pick (.const J2) (.const (Value.bool true)) (.const undef)) 4) K2 fun i3 j3 =>
 GuardV i3 false (
 RR (sOp (.fieldAddr 42 (.const a0) 3) 0) j3 fun k3 l3 =>
 RR (sOp (.load 40 (.const k3)) 40) l3 fun m3 n3 =>
 RR (sBuiltin .len #[40] 3 [false] [m3]) n3 fun o3 q3 =>
 RR (sBin .gtr 3 false true o3 (Value.int .i64 4)) q3 fun s3 t3 =>
 RR (sOp (.pick (.const i3) (.const (Value.bool true)) (.const s3)) 4) t3 fun u3 v3 =>
 E2 u3 v3) (
 RR (sOp (.pick (.const i3) (.const (Value.bool true)) (.const undef)) 4) j3 fun w3 x3 =>
 E2 w3 x3))) ∧
 ∀ y3 _ _ _ _ _ _ _ _ _ _ _ _ _ _ : Value, ∀ z3 : World, E2 y3 z3 →
 CondV y3 (
 R (.returned (Value.bool false)) z3) (
 RR (sOp (.fieldAddr 42 (.const a0) 3) 0) z3 fun A3 B3 =>
 RR (sOp (.load 40 (.const A3)) 40) B3 fun C3 D3 =>
 RR (sMakeFunc (.func 109) [] [c0, e0]) D3 fun E3 F3 =>
 RR (sCall (Value.func (.func 72) #[] #[]) [C3, E3]) F3 fun G3 H3 =>
 RR (sOp (.unOp .not 4 (.const G3)) 4) H3 fun I3 J3 =>
 R (.returned I3) J3))) (
 R (.returned (Value.bool false)) D2)))))
theorem calls_i_scan {p0 p1 p2 : Value} {w : World} {R : Ending → World → Prop} (h : sh_i_scan p0 p1 p2 w R) : Calls Tryz.prog 100 #[p0, p1, p2] w R :=
  calls_sh (.seq none .leaf (.seq none .leaf (.seq none (.seq (some [19]) .leaf .leaf) (.seq none (.seq none .leaf (.one (.seq none .leaf (.two .leaf (.seq none .leaf (.two .leaf (.seq none .leaf (.two (.seq none (.seq (some [70]) .leaf .leaf) .leaf) .leaf)))))))) .leaf)))) [p0, p1, p2] mixed Tryz.func100 (by kernel_rfl) (by kernel_rfl) h


/- loop.example/prologserver/impl.goalsValid$1 : function 101 -/
def sh_i_goalsValid_1 (p0 : Value) (w : World) (R : Ending → World → Prop) : Prop :=
 RR (sOp (.box 42 (.const p0)) 0) w fun a0 b0 =>
 RR (sOp (.load 42 (.const a0)) 42) b0 fun c0 d0 =>
 RR (sCall (Value.func (.func 102) #[] #[]) [c0]) d0 fun e0 f0 =>
 RR (sOp (.unOp .not 4 (.const e0)) 4) f0 fun g0 h0 =>
 R (.returned g0) h0
theorem calls_i_goalsValid_1 {p0 : Value} {w : World} {R : Ending → World → Prop} (h : sh_i_goalsValid_1 p0 w R) : Calls Tryz.prog 101 #[p0] w R :=
  calls_sh .leaf [p0] mixed Tryz.func101 (by kernel_rfl) (by kernel_rfl) h


/- loop.example/prologserver/impl.GoalValid : function 102 -/
def sh_i_GoalValid (p0 : Value) (w : World) (R : Ending → World → Prop) : Prop :=
 RR (sOp (.box 42 (.const p0)) 0) w fun a0 b0 =>
 RR (sOp (.load 42 (.const a0)) 42) b0 fun c0 d0 =>
 RR (sCall (Value.func (.func 83) #[] #[]) [c0]) d0 fun e0 f0 =>
 GuardV e0 true (
 RR (sOp (.load 42 (.const a0)) 42) f0 fun g0 h0 =>
 RR (sCall (Value.func (.func 71) #[] #[]) [g0]) h0 fun i0 j0 =>
 GuardV i0 false (
 RR (sOp (.load 42 (.const a0)) 42) j0 fun k0 l0 =>
 RR (sCall (Value.func (.func 94) #[] #[]) [k0]) l0 fun m0 n0 =>
 GuardV e0 true (
 RR (sOp (.pick (.const i0) (.const (Value.bool true)) (.const m0)) 4) n0 fun o0 q0 =>
 GuardV o0 false (
 RR (sOp (.load 42 (.const a0)) 42) q0 fun s0 t0 =>
 RR (sCall (Value.func (.func 73) #[] #[]) [s0]) t0 fun u0 v0 =>
 GuardV e0 true (
 RR (sOp (.pick (.const o0) (.const (Value.bool true)) (.const u0)) 4) v0 fun w0 x0 =>
 RR (sOp (.pick (.const e0) (.const w0) (.const (Value.bool false))) 4) x0 fun y0 z0 =>
 R (.returned y0) z0) (
 RR (sOp (.pick (.const e0) (.const undef) (.const (Value.bool false))) 4) v0 fun A0 B0 =>
 R (.returned A0) B0)) (
 GuardV e0 true (
 RR (sOp (.pick (.const o0) (.const (Value.bool true)) (.const undef)) 4) q0 fun C0 D0 =>
 RR (sOp (.pick (.const e0) (.const C0) (.const (Value.bool false))) 4) D0 fun E0 F0 =>
 R (.returned E0) F0) (
 RR (sOp (.pick (.const e0) (.const undef) (.const (Value.bool false))) 4) q0 fun G0 H0 =>
 R (.returned G0) H0))) (
 GuardV undef false (
 RR (sOp (.load 42 (.const a0)) 42) n0 fun I0 J0 =>
 RR (sCall (Value.func (.func 73) #[] #[]) [I0]) J0 fun K0 L0 =>
 GuardV e0 true (
 RR (sOp (.pick (.const undef) (.const (Value.bool true)) (.const K0)) 4) L0 fun M0 N0 =>
 RR (sOp (.pick (.const e0) (.const M0) (.const (Value.bool false))) 4) N0 fun O0 P0 =>
 R (.returned O0) P0) (
 RR (sOp (.pick (.const e0) (.const undef) (.const (Value.bool false))) 4) L0 fun Q0 S0 =>
 R (.returned Q0) S0)) (
 GuardV e0 true (
 RR (sOp (.pick (.const undef) (.const (Value.bool true)) (.const undef)) 4) n0 fun T0 U0 =>
 RR (sOp (.pick (.const e0) (.const T0) (.const (Value.bool false))) 4) U0 fun V0 W0 =>
 R (.returned V0) W0) (
 RR (sOp (.pick (.const e0) (.const undef) (.const (Value.bool false))) 4) n0 fun X0 Y0 =>
 R (.returned X0) Y0)))) (
 GuardV e0 true (
 RR (sOp (.pick (.const i0) (.const (Value.bool true)) (.const undef)) 4) j0 fun Z0 a1 =>
 GuardV Z0 false (
 RR (sOp (.load 42 (.const a0)) 42) a1 fun b1 c1 =>
 RR (sCall (Value.func (.func 73) #[] #[]) [b1]) c1 fun d1 e1 =>
 GuardV e0 true (
 RR (sOp (.pick (.const Z0) (.const (Value.bool true)) (.const d1)) 4) e1 fun f1 g1 =>
 RR (sOp (.pick (.const e0) (.const f1) (.const (Value.bool false))) 4) g1 fun h1 i1 =>
 R (.returned h1) i1) (
 RR (sOp (.pick (.const e0) (.const undef) (.const (Value.bool false))) 4) e1 fun j1 k1 =>
 R (.returned j1) k1)) (
 GuardV e0 true (
 RR (sOp (.pick (.const Z0) (.const (Value.bool true)) (.const undef)) 4) a1 fun l1 m1 =>
 RR (sOp (.pick (.const e0) (.const l1) (.const (Value.bool false))) 4) m1 fun n1 o1 =>
 R (.returned n1) o1) (
 RR (sOp (.pick (.const e0) (.const undef) (.const (Value.bool false))) 4) a1 fun q1 s1 =>
 R (.returned q1) s1))) (
 GuardV undef false (
 RR (sOp (.load 42 (.const a0)) 42) j0 fun t1 u1 =>
 RR (sCall (Value.func (.func 73) #[] #[]) [t1]) u1 fun v1 w1 =>
 GuardV e0 true (
 RR (sOp (.pick (.const undef) (.const (Value.bool true)) (.const v1)) 4) w1 fun x1 y1 =>
 RR (sOp (.pick (.const e0) (.const x1) (.const (Value.bool false))) 4) y1 fun z1 A1 =>
 R (.returned z1) A1) (
 RR (sOp (.pick (.const e0) (.const undef) (.const (Value.bool false))) 4) w1 fun B1 C1 =>
 R (.returned B1) C1)) (
 GuardV e0 true (
 RR (sOp (.pick (.const undef) (.const (Value.bool true)) (.const undef)) 4) j0 fun D1 E1 =>
 RR (sOp (.pick (.const e0) (.const D1) (.const (Value.bool false))) 4) E1 fun F1 G1 =>
 R (.returned F1) G1) (
 RR (sOp (.pick (.const e0) (.const undef) (.const (Value.bool false))) 4) j0 fun H1 I1 =>
 R (.returned H1) I1))))) (
 GuardV undef false (
 RR (sOp (.load 42 (.const a0)) 42) f0 fun J1 K1 =>
 RR (sCall (Value.func (.func 94) #[] #[]) [J1]) K1 fun L1 M1 =>
 GuardV e0 true (
 RR (sOp (.pick (.const undef) (.const (Value.bool true)) (.const L1)) 4) M1 fun N1 O1 =>
 GuardV N1 false (
 RR (sOp (.load 42 (.const a0)) 42) O1 fun P1 Q1 =>
 RR (sCall (Value.func (.func 73) #[] #[]) [P1]) Q1 fun S1 T1 =>
 GuardV e0 true (
 RR (sOp (.pick (.const N1) (.const (Value.bool true)) (.const S1)) 4) T1 fun U1 V1 =>
 RR (sOp (.pick (.const e0) (.const U1) (.const (Value.bool false))) 4) V1 fun W1 X1 =>
 R (.returned W1) X1) (
 RR (sOp (.pick (.const e0) (.const undef) (.const (Value.bool false))) 4) T1 fun Y1 Z1 =>
 R (.returned Y1) Z1)) (
 GuardV e0 true (
 RR (sOp (.pick (.const N1) (.const (Value.bool true)) (.const undef)) 4) O1 fun a2 b2 =>
 RR (sOp (.pick (.const e0) (.const a2) (.const (Value.bool false))) 4) b2 fun c2 d2 =>
 R (.returned c2) d2) (
 RR (sOp (.pick (.const e0) (.const undef) (.const (Value.bool false))) 4) O1 fun e2 f2 =>
 R (.returned e2) f2))) (
 GuardV undef false (
 RR (sOp (.load 42 (.const a0)) 42) M1 fun g2 h2 =>
 RR (sCall (Value.func (.func 73) #[] #[]) [g2]) h2 fun i2 j2 =>
 GuardV e0 true (
 RR (sOp (.pick (.const undef) (.const (Value.bool true)) (.const i2)) 4) j2 fun k2 l2 =>
 RR (sOp (.pick (.const e0) (.const k2) (.const (Value.bool false))) 4) l2 fun m2 n2 =>
 R (.returned m2) n2) (
 RR (sOp (.pick (.const e0) (.const undef) (.const (Value.bool false))) 4) j2 fun o2 q2 =>
 R (.returned o2) q2)) (
 GuardV e0 true (
 RR (sOp (.pick (.const undef) (.const (Value.bool true)) (.const undef)) 4) M1 fun s2 t2 =>
 RR (sOp (.pick (.const e0) (.const s2) (.const (Value.bool false))) 4) t2 fun u2 v2 =>
 R (.returned u2) v2) (
 RR (sOp (.pick (.const e0) (.const undef) (.const (Value.bool false))) 4) M1 fun w2 x2 =>
 R (.returned w2) x2)))) (
 GuardV e0 true (
 RR (sOp (.pick (.const undef) (.const (Value.bool true)) (.const undef)) 4) f0 fun y2 z2 =>
 GuardV y2 false (
 RR (sOp (.load 42 (.const a0)) 42) z2 fun A2 B2 =>
 RR (sCall (Value.func (.func 73) #[] #[]) [A2]) B2 fun C2 D2 =>
 GuardV e0 true (
 RR (sOp (.pick (.const y2) (.const (Value.bool true)) (.const C2)) 4) D2 fun E2 F2 =>
 RR (sOp (.pick (.const e0) (.const E2) (.const (Value.bool false))) 4) F2 fun G2 H2 =>
 R (.returned G2) H2) (
 RR (sOp (.pick (.const e0) (.const undef) (.const (Value.bool false))) 4) D2 fun I2 J2 =>
 R (.returned I2) J2)) (
 GuardV e0 true (
 RR (sOp (.pick (.const y2) (.const (Value.bool true)) (.const undef)) 4) z2 fun K2 L2 =>
 RR (sOp (.pick (.const e0) (.const K2) (.const (Value.bool false))) 4) L2 fun M2 N2 =>
 R (.returned M2) N2) (
 RR (sOp (.pick (.const e0) (.const undef) (.const (Value.bool false))) 4) z2 fun O2 P2 =>
 R (.returned O2) P2))) (
 GuardV undef false (
 RR (sOp (.load 42 (.const a0)) 42) f0 fun Q2 S2 =>
 RR (sCall (Value.func (.func 73) #[] #[]) [Q2]) S2 fun T2 U2 =>
 GuardV e0 true (
 RR (sOp (.pick (.const undef) (.const (Value.bool true)) (.const T2)) 4) U2 fun V2 W2 =>
 RR (sOp (.pick (.const e0) (.const V2) (.const (Value.bool false))) 4) W2 fun X2 Y2 =>
 R (.returned X2) Y2) (
 RR (sOp (.pick (.const e0) (.const undef) (.const (Value.bool false))) 4) U2 fun Z2 a3 =>
 R (.returned Z2) a3)) (
 GuardV e0 true (
 RR (sOp (.pick (.const undef) (.const (Value.bool true)) (.const undef)) 4) f0 fun b3 c3 =>
 RR (sOp (.pick (.const e0) (.const b3) (.const (Value.bool false))) 4) c3 fun d3 e3 =>
 R (.returned d3) e3) (
 RR (sOp (.pick (.const e0) (.const undef) (.const (Value.bool false))) 4) f0 fun f3 g3 =>
 R (.returned f3) g3)))))
theorem calls_i_GoalValid {p0 : Value} {w : World} {R : Ending → World → Prop} (h : sh_i_GoalValid p0 w R) : Calls Tryz.prog 102 #[p0] w R :=
  calls_sh .leaf [p0] mixed Tryz.func102 (by kernel_rfl) (by kernel_rfl) h


/- loop.example/prologserver/spec.l1Own : function 103 -/
def sh_s_l1Own (p0 : Value) (w : World) (R : Ending → World → Prop) : Prop :=
 RR (sOp (.box 42 (.const p0)) 0) w fun a0 b0 =>
 RR (sOp (.fieldAddr 42 (.const a0) 0) 0) b0 fun c0 d0 =>
 RR (sOp (.load 3 (.const c0)) 3) d0 fun e0 f0 =>
 RR (sBin .eql 3 false true e0 (Value.int .i64 1)) f0 fun g0 h0 =>
 CondV g0 (
 RR (sOp (.fieldAddr 42 (.const a0) 1) 0) h0 fun i0 j0 =>
 RR (sOp (.load 3 (.const i0)) 3) j0 fun k0 l0 =>
 RR (sBin .geq 3 false true k0 (Value.int .i64 0)) l0 fun m0 n0 =>
 GuardV m0 true (
 RR (sOp (.fieldAddr 42 (.const a0) 1) 0) n0 fun o0 q0 =>
 RR (sOp (.load 3 (.const o0)) 3) q0 fun s0 t0 =>
 RR (sBin .leq 3 false true s0 (Value.int .i64 25)) t0 fun u0 v0 =>
 RR (sOp (.pick (.const m0) (.const u0) (.const (Value.bool false))) 4) v0 fun w0 x0 =>
 GuardV w0 true (
 RR (sOp (.fieldAddr 42 (.const a0) 2) 0) x0 fun y0 z0 =>
 RR (sOp (.load 9 (.const y0)) 9) z0 fun A0 B0 =>
 RR (sBin .eql 9 false true A0 (Value.string ⟨#[]⟩)) B0 fun C0 D0 =>
 RR (sOp (.pick (.const w0) (.const C0) (.const (Value.bool false))) 4) D0 fun E0 F0 =>
 GuardV E0 true (
 RR (sOp (.fieldAddr 42 (.const a0) 3) 0) F0 fun G0 H0 =>
 RR (sOp (.load 40 (.const G0)) 40) H0 fun I0 J0 =>
 RR (sBuiltin .len #[40] 3 [false] [I0]) J0 fun K0 L0 =>
 RR (sBin .eql 3 false true K0 (Value.int .i64 0)) L0 fun M0 N0 =>
 RR (sOp (.pick (.const E0) (.const M0) (.const (Value.bool false))) 4) N0 fun O0 P0 =>
 R (.returned O0) P0) (
 RR (sOp (.pick (.const E0) (.const undef) (.const (Value.bool false))) 4) F0 fun Q0 S0 =>
 R (.returned Q0) S0)) (
 RR (sOp (.pick (.const w0) (.const undef) (.const (Value.bool false))) 4) x0 fun T0 U0 =>
 GuardV T0 true (
 RR (sOp (.fieldAddr 42 (.const a0) 3) 0) U0 fun V0 W0 =>
 RR (sOp (.load 40 (.const V0)) 40) W0 fun X0 Y0 =>
 RR (sBuiltin .len #[40] 3 [false] [X0]) Y0 fun Z0 a1 =>
 RR (sBin .eql 3 false true Z0 (Value.int .i64 0)) a1 fun b1 c1 =>
 RR (sOp (.pick (.const T0) (.const b1) (.const (Value.bool false))) 4) c1 fun d1 e1 =>
 R (.returned d1) e1) (
 RR (sOp (.pick (.const T0) (.const undef) (.const (Value.bool false))) 4) U0 fun f1 g1 =>
 R (.returned f1) g1))) (
 RR (sOp (.pick (.const m0) (.const undef) (.const (Value.bool false))) 4) n0 fun h1 i1 =>
 GuardV h1 true (
 RR (sOp (.fieldAddr 42 (.const a0) 2) 0) i1 fun j1 k1 =>
 RR (sOp (.load 9 (.const j1)) 9) k1 fun l1 m1 =>
 RR (sBin .eql 9 false true l1 (Value.string ⟨#[]⟩)) m1 fun n1 o1 =>
 RR (sOp (.pick (.const h1) (.const n1) (.const (Value.bool false))) 4) o1 fun q1 s1 =>
 GuardV q1 true (
 RR (sOp (.fieldAddr 42 (.const a0) 3) 0) s1 fun t1 u1 =>
 RR (sOp (.load 40 (.const t1)) 40) u1 fun v1 w1 =>
 RR (sBuiltin .len #[40] 3 [false] [v1]) w1 fun x1 y1 =>
 RR (sBin .eql 3 false true x1 (Value.int .i64 0)) y1 fun z1 A1 =>
 RR (sOp (.pick (.const q1) (.const z1) (.const (Value.bool false))) 4) A1 fun B1 C1 =>
 R (.returned B1) C1) (
 RR (sOp (.pick (.const q1) (.const undef) (.const (Value.bool false))) 4) s1 fun D1 E1 =>
 R (.returned D1) E1)) (
 RR (sOp (.pick (.const h1) (.const undef) (.const (Value.bool false))) 4) i1 fun F1 G1 =>
 GuardV F1 true (
 RR (sOp (.fieldAddr 42 (.const a0) 3) 0) G1 fun H1 I1 =>
 RR (sOp (.load 40 (.const H1)) 40) I1 fun J1 K1 =>
 RR (sBuiltin .len #[40] 3 [false] [J1]) K1 fun L1 M1 =>
 RR (sBin .eql 3 false true L1 (Value.int .i64 0)) M1 fun N1 O1 =>
 RR (sOp (.pick (.const F1) (.const N1) (.const (Value.bool false))) 4) O1 fun P1 Q1 =>
 R (.returned P1) Q1) (
 RR (sOp (.pick (.const F1) (.const undef) (.const (Value.bool false))) 4) G1 fun S1 T1 =>
 R (.returned S1) T1)))) (
 RR (sBin .eql 3 false true e0 (Value.int .i64 2)) h0 fun U1 V1 =>
 CondV U1 (
 RR (sOp (.fieldAddr 42 (.const a0) 1) 0) V1 fun W1 X1 =>
 RR (sOp (.load 3 (.const W1)) 3) X1 fun Y1 Z1 =>
 RR (sBin .geq 3 false true Y1 (Value.int .i64 (-999))) Z1 fun a2 b2 =>
 GuardV a2 true (
 RR (sOp (.fieldAddr 42 (.const a0) 1) 0) b2 fun c2 d2 =>
 RR (sOp (.load 3 (.const c2)) 3) d2 fun e2 f2 =>
 RR (sBin .leq 3 false true e2 (Value.int .i64 999)) f2 fun g2 h2 =>
 RR (sOp (.pick (.const a2) (.const g2) (.const (Value.bool false))) 4) h2 fun i2 j2 =>
 GuardV i2 true (
 RR (sOp (.fieldAddr 42 (.const a0) 2) 0) j2 fun k2 l2 =>
 RR (sOp (.load 9 (.const k2)) 9) l2 fun m2 n2 =>
 RR (sBin .eql 9 false true m2 (Value.string ⟨#[]⟩)) n2 fun o2 q2 =>
 RR (sOp (.pick (.const i2) (.const o2) (.const (Value.bool false))) 4) q2 fun s2 t2 =>
 GuardV s2 true (
 RR (sOp (.fieldAddr 42 (.const a0) 3) 0) t2 fun u2 v2 =>
 RR (sOp (.load 40 (.const u2)) 40) v2 fun w2 x2 =>
 RR (sBuiltin .len #[40] 3 [false] [w2]) x2 fun y2 z2 =>
 RR (sBin .eql 3 false true y2 (Value.int .i64 0)) z2 fun A2 B2 =>
 RR (sOp (.pick (.const s2) (.const A2) (.const (Value.bool false))) 4) B2 fun C2 D2 =>
 R (.returned C2) D2) (
 RR (sOp (.pick (.const s2) (.const undef) (.const (Value.bool false))) 4) t2 fun E2 F2 =>
 R (.returned E2) F2)) (
 RR (sOp (.pick (.const i2) (.const undef) (.const (Value.bool false))) 4) j2 fun G2 H2 =>
 GuardV G2 true (
 RR (sOp (.fieldAddr 42 (.const a0) 3) 0) H2 fun I2 J2 =>
 RR (sOp (.load 40 (.const I2)) 40) J2 fun K2 L2 =>
 RR (sBuiltin .len #[40] 3 [false] [K2]) L2 fun M2 N2 =>
 RR (sBin .eql 3 false true M2 (Value.int .i64 0)) N2 fun O2 P2 =>
 RR (sOp (.pick (.const G2) (.const O2) (.const (Value.bool false))) 4) P2 fun Q2 S2 =>
 R (.returned Q2) S2) (
 RR (sOp (.pick (.const G2) (.const undef) (.const (Value.bool false))) 4) H2 fun T2 U2 =>
 R (.returned T2) U2))) (
 RR (sOp (.pick (.const a2) (.const undef) (.const (Value.bool false))) 4) b2 fun V2 W2 =>
 GuardV V2 true (
 RR (sOp (.fieldAddr 42 (.const a0) 2) 0) W2 fun X2 Y2 =>
 RR (sOp (.load 9 (.const X2)) 9) Y2 fun Z2 a3 =>
 RR (sBin .eql 9 false true Z2 (Value.string ⟨#[]⟩)) a3 fun b3 c3 =>
 RR (sOp (.pick (.const V2) (.const b3) (.const (Value.bool false))) 4) c3 fun d3 e3 =>
 GuardV d3 true (
 RR (sOp (.fieldAddr 42 (.const a0) 3) 0) e3 fun f3 g3 =>
 RR (sOp (.load 40 (.const f3)) 40) g3 fun h3 i3 =>
 RR (sBuiltin .len #[40] 3 [false] [h3]) i3 fun j3 k3 =>
 RR (sBin .eql 3 false true j3 (Value.int .i64 0)) k3 fun l3 m3 =>
 RR (sOp (.pick (.const d3) (.const l3) (.const (Value.bool false))) 4) m3 fun n3 o3 =>
 R (.returned n3) o3) (
 RR (sOp (.pick (.const d3) (.const undef) (.const (Value.bool false))) 4) e3 fun q3 s3 =>
 R (.returned q3) s3)) (
 RR (sOp (.pick (.const V2) (.const undef) (.const (Value.bool false))) 4) W2 fun t3 u3 =>
 GuardV t3 true (
 RR (sOp (.fieldAddr 42 (.const a0) 3) 0) u3 fun v3 w3 =>
 RR (sOp (.load 40 (.const v3)) 40) w3 fun x3 y3 =>
 RR (sBuiltin .len #[40] 3 [false] [x3]) y3 fun z3 A3 =>
 RR (sBin .eql 3 false true z3 (Value.int .i64 0)) A3 fun B3 C3 =>
 RR (sOp (.pick (.const t3) (.const B3) (.const (Value.bool false))) 4) C3 fun D3 E3 =>
 R (.returned D3) E3) (
 RR (sOp (.pick (.const t3) (.const undef) (.const (Value.bool false))) 4) u3 fun F3 G3 =>
 R (.returned F3) G3)))) (
 RR (sBin .eql 3 false true e0 (Value.int .i64 3)) V1 fun H3 I3 =>
 CondV H3 (
 RR (sOp (.fieldAddr 42 (.const a0) 1) 0) I3 fun J3 K3 =>
 RR (sOp (.load 3 (.const J3)) 3) K3 fun L3 M3 =>
 RR (sBin .eql 3 false true L3 (Value.int .i64 0)) M3 fun N3 O3 =>
 GuardV N3 true (
 RR (sOp (.fieldAddr 42 (.const a0) 2) 0) O3 fun P3 Q3 =>
 RR (sOp (.load 9 (.const P3)) 9) Q3 fun S3 T3 =>
 RR (sCall (Value.func (.func 110) #[] #[]) [S3]) T3 fun U3 V3 =>
 RR (sOp (.pick (.const N3) (.const U3) (.const (Value.bool false))) 4) V3 fun W3 X3 =>
 GuardV W3 true (
 RR (sOp (.fieldAddr 42 (.const a0) 3) 0) X3 fun Y3 Z3 =>
 RR (sOp (.load 40 (.const Y3)) 40) Z3 fun a4 b4 =>
 RR (sBuiltin .len #[40] 3 [false] [a4]) b4 fun c4 d4 =>
 RR (sBin .leq 3 false true c4 (Value.int .i64 4)) d4 fun e4 f4 =>
 RR (sOp (.pick (.const W3) (.const e4) (.const (Value.bool false))) 4) f4 fun g4 h4 =>
 R (.returned g4) h4) (
 RR (sOp (.pick (.const W3) (.const undef) (.const (Value.bool false))) 4) X3 fun i4 j4 =>
 R (.returned i4) j4)) (
 RR (sOp (.pick (.const N3) (.const undef) (.const (Value.bool false))) 4) O3 fun k4 l4 =>
 GuardV k4 true (
 RR (sOp (.fieldAddr 42 (.const a0) 3) 0) l4 fun m4 n4 =>
 RR (sOp (.load 40 (.const m4)) 40) n4 fun o4 q4 =>
 RR (sBuiltin .len #[40] 3 [false] [o4]) q4 fun s4 t4 =>
 RR (sBin .leq 3 false true s4 (Value.int .i64 4)) t4 fun u4 v4 =>
 RR (sOp (.pick (.const k4) (.const u4) (.const (Value.bool false))) 4) v4 fun w4 x4 =>
 R (.returned w4) x4) (
 RR (sOp (.pick (.const k4) (.const undef) (.const (Value.bool false))) 4) l4 fun y4 z4 =>
 R (.returned y4) z4))) (
 R (.returned (Value.bool false)) I3)))
theorem calls_s_l1Own {p0 : Value} {w : World} {R : Ending → World → Prop} (h : sh_s_l1Own p0 w R) : Calls Tryz.prog 103 #[p0] w R :=
  calls_sh .leaf [p0] mixed Tryz.func103 (by kernel_rfl) (by kernel_rfl) h


/- loop.example/prologserver/impl.OpLevel : function 104 -/
def sh_i_OpLevel (p0 : Value) (w : World) (R : Ending → World → Prop) : Prop :=
 (∃ a0 : Value → World → Prop, (
 RR (sBin .eql 9 false true p0 (Value.string ⟨#[61]⟩)) w fun b0 c0 =>
 CondV b0 (
 a0 b0 c0) (
 RR (sBin .eql 9 false true p0 (Value.string ⟨#[92, 61]⟩)) c0 fun d0 e0 =>
 CondV d0 (
 a0 d0 e0) (
 RR (sBin .eql 9 false true p0 (Value.string ⟨#[61, 61]⟩)) e0 fun f0 g0 =>
 CondV f0 (
 a0 f0 g0) (
 RR (sBin .eql 9 false true p0 (Value.string ⟨#[60]⟩)) g0 fun h0 i0 =>
 CondV h0 (
 a0 h0 i0) (
 RR (sBin .eql 9 false true p0 (Value.string ⟨#[62]⟩)) i0 fun j0 k0 =>
 CondV j0 (
 a0 j0 k0) (
 RR (sBin .eql 9 false true p0 (Value.string ⟨#[61, 60]⟩)) k0 fun l0 m0 =>
 CondV l0 (
 a0 l0 m0) (
 RR (sBin .eql 9 false true p0 (Value.string ⟨#[62, 61]⟩)) m0 fun n0 o0 =>
 CondV n0 (
 a0 n0 o0) (
 RR (sBin .eql 9 false true p0 (Value.string ⟨#[61, 58, 61]⟩)) o0 fun q0 s0 =>
 CondV q0 (
 a0 q0 s0) (
 RR (sBin .eql 9 false true p0 (Value.string ⟨#[105, 115]⟩)) s0 fun t0 u0 =>
 a0 t0 u0))))))))) ∧
 ∀ _ _ _ _ _ _ _ _ v0 _ : Value, ∀ w0 : World, a0 v0 w0 →
 CondV v0 (
 R (.returned (.tuple #[(Value.int .i64 3), (Value.bool false)])) w0) (
 (∃ x0 : Value → World → Prop, (
 RR (sBin .eql 9 false true p0 (Value.string ⟨#[43]⟩)) w0 fun y0 z0 =>
 CondV y0 (
 x0 y0 z0) (
 RR (sBin .eql 9 false true p0 (Value.string ⟨#[45]⟩)) z0 fun A0 B0 =>
 x0 A0 B0)) ∧
 ∀ _ C0 _ : Value, ∀ D0 : World, x0 C0 D0 →
 CondV C0 (
 R (.returned (.tuple #[(Value.int .i64 2), (Value.bool true)])) D0) (
 (∃ E0 : Value → World → Prop, (
 RR (sBin .eql 9 false true p0 (Value.string ⟨#[42]⟩)) D0 fun F0 G0 =>
 CondV F0 (
 E0 F0 G0) (
 RR (sBin .eql 9 false true p0 (Value.string ⟨#[47, 47]⟩)) G0 fun H0 I0 =>
 CondV H0 (
 E0 H0 I0) (
 RR (sBin .eql 9 false true p0 (Value.string ⟨#[109, 111, 100]⟩)) I0 fun J0 K0 =>
 E0 J0 K0))) ∧
 ∀ _ _ L0 _ : Value, ∀ M0 : World, E0 L0 M0 →
 CondV L0 (
 R (.returned (.tuple #[(Value.int .i64 1), (Value.bool true)])) M0) (
 R (.returned (.tuple #[(Value.int .i64 0), (Value.bool false)])) M0))))))
theorem calls_i_OpLevel {p0 : Value} {w : World} {R : Ending → World → Prop} (h : sh_i_OpLevel p0 w R) : Calls Tryz.prog 104 #[p0] w R :=
  calls_sh (.seq none .leaf (.seq none (.seq none .leaf (.one (.seq (some [5]) .leaf (.two .leaf (.seq (some [15]) .leaf (.two .leaf (.seq (some [18]) .leaf .leaf))))))) .leaf)) [p0] mixed Tryz.func104 (by kernel_rfl) (by kernel_rfl) h


/- loop.example/prologserver/impl.IsBuiltin : function 105 -/
def sh_i_IsBuiltin (p0 p1 : Value) (w : World) (R : Ending → World → Prop) : Prop :=
 (∃ a0 : Value → World → Prop, (
 RR (sBin .eql 9 false true p0 (Value.string ⟨#[61]⟩)) w fun b0 c0 =>
 CondV b0 (
 a0 b0 c0) (
 RR (sBin .eql 9 false true p0 (Value.string ⟨#[92, 61]⟩)) c0 fun d0 e0 =>
 CondV d0 (
 a0 d0 e0) (
 RR (sBin .eql 9 false true p0 (Value.string ⟨#[61, 61]⟩)) e0 fun f0 g0 =>
 CondV f0 (
 a0 f0 g0) (
 RR (sBin .eql 9 false true p0 (Value.string ⟨#[60]⟩)) g0 fun h0 i0 =>
 CondV h0 (
 a0 h0 i0) (
 RR (sBin .eql 9 false true p0 (Value.string ⟨#[62]⟩)) i0 fun j0 k0 =>
 CondV j0 (
 a0 j0 k0) (
 RR (sBin .eql 9 false true p0 (Value.string ⟨#[61, 60]⟩)) k0 fun l0 m0 =>
 CondV l0 (
 a0 l0 m0) (
 RR (sBin .eql 9 false true p0 (Value.string ⟨#[62, 61]⟩)) m0 fun n0 o0 =>
 CondV n0 (
 a0 n0 o0) (
 RR (sBin .eql 9 false true p0 (Value.string ⟨#[61, 58, 61]⟩)) o0 fun q0 s0 =>
 CondV q0 (
 a0 q0 s0) (
 RR (sBin .eql 9 false true p0 (Value.string ⟨#[105, 115]⟩)) s0 fun t0 u0 =>
 a0 t0 u0))))))))) ∧
 ∀ _ _ _ _ _ _ _ _ v0 _ : Value, ∀ w0 : World, a0 v0 w0 →
 CondV v0 (
 RR (sBin .eql 3 false true p1 (Value.int .i64 2)) w0 fun x0 y0 =>
 R (.returned x0) y0) (
 (∃ z0 : Value → World → Prop, (
 RR (sBin .eql 9 false true p0 (Value.string ⟨#[116, 114, 117, 101]⟩)) w0 fun A0 B0 =>
 CondV A0 (
 z0 A0 B0) (
 RR (sBin .eql 9 false true p0 (Value.string ⟨#[102, 97, 105, 108]⟩)) B0 fun C0 D0 =>
 z0 C0 D0)) ∧
 ∀ _ E0 _ : Value, ∀ F0 : World, z0 E0 F0 →
 CondV E0 (
 RR (sBin .eql 3 false true p1 (Value.int .i64 0)) F0 fun G0 H0 =>
 R (.returned G0) H0) (
 (∃ I0 : Value → World → Prop, (
 RR (sBin .eql 9 false true p0 (Value.string ⟨#[118, 97, 114]⟩)) F0 fun J0 K0 =>
 CondV J0 (
 I0 J0 K0) (
 RR (sBin .eql 9 false true p0 (Value.string ⟨#[110, 111, 110, 118, 97, 114]⟩)) K0 fun L0 M0 =>
 CondV L0 (
 I0 L0 M0) (
 RR (sBin .eql 9 false true p0 (Value.string ⟨#[97, 116, 111, 109]⟩)) M0 fun N0 O0 =>
 CondV N0 (
 I0 N0 O0) (
 RR (sBin .eql 9 false true p0 (Value.string ⟨#[105, 110, 116]⟩)) O0 fun P0 Q0 =>
 I0 P0 Q0)))) ∧
 ∀ _ _ _ S0 _ : Value, ∀ T0 : World, I0 S0 T0 →
 CondV S0 (
 RR (sBin .eql 3 false true p1 (Value.int .i64 1)) T0 fun U0 V0 =>
 R (.returned U0) V0) (
 RR (sBin .eql 9 false true p0 (Value.string ⟨#[97, 114, 103]⟩)) T0 fun W0 X0 =>
 CondV W0 (
 RR (sBin .eql 3 false true p1 (Value.int .i64 3)) X0 fun Y0 Z0 =>
 R (.returned Y0) Z0) (
 R (.returned (Value.bool false)) X0)))))))
theorem calls_i_IsBuiltin {p0 p1 : Value} {w : World} {R : Ending → World → Prop} (h : sh_i_IsBuiltin p0 p1 w R) : Calls Tryz.prog 105 #[p0, p1] w R :=
  calls_sh (.seq none .leaf (.seq none (.seq none .leaf (.one (.seq (some [6]) .leaf (.two .leaf (.seq (some [18]) .leaf (.two .leaf (.seq (some [23]) .leaf .leaf))))))) .leaf)) [p0, p1] mixed Tryz.func105 (by kernel_rfl) (by kernel_rfl) h


/- (*loop.example/prologserver/impl.store).occurs$1 : function 106 -/
def sh_i_store_occurs_1 (p0 p1 p2 p3 : Value) (w : World) (R : Ending → World → Prop) : Prop :=
 RR (sOp (.box 42 (.const p0)) 0) w fun a0 b0 =>
 RR (sOp (.load 72 (.const p1)) 72) b0 fun c0 d0 =>
 RR (sOp (.load 3 (.const p2)) 3) d0 fun e0 f0 =>
 RR (sOp (.load 42 (.const a0)) 42) f0 fun g0 h0 =>
 RR (sOp (.load 108 (.const p3)) 108) h0 fun i0 j0 =>
 RR (sCall (Value.func (.func 97) #[] #[]) [c0, e0, g0, i0]) j0 fun k0 l0 =>
 R (.returned k0) l0
theorem calls_i_store_occurs_1 {p0 p1 p2 p3 : Value} {w : World} {R : Ending → World → Prop} (h : sh_i_store_occurs_1 p0 p1 p2 p3 w R) : Calls Tryz.prog 106 #[p0, p1, p2, p3] w R :=
  calls_sh .leaf [p0, p1, p2, p3] mixed Tryz.func106 (by kernel_rfl) (by kernel_rfl) h


/- loop.example/prologserver/impl.addVars : function 107 -/
def sh_i_addVars (p0 p1 : Value) (w : World) (R : Ending → World → Prop) : Prop :=
 RR (sOp (.box 42 (.const p0)) 0) w fun a0 b0 =>
 (∃ c0 : Value → World → Prop, (
 (∃ d0 : Value → World → Prop, (
 RR (sOp (.fieldAddr 42 (.const a0) 0) 0) b0 fun e0 f0 =>
 RR (sOp (.load 3 (.const e0)) 3) f0 fun g0 h0 =>
 RR (sBin .eql 3 false true g0 (Value.int .i64 1)) h0 fun i0 j0 =>
 GuardV i0 true (
 RR (sOp (.fieldAddr 42 (.const a0) 1) 0) j0 fun k0 l0 =>
 RR (sOp (.load 3 (.const k0)) 3) l0 fun m0 n0 =>
 RR (sCall (Value.func (.func 43) #[] #[]) [p1, m0]) n0 fun o0 q0 =>
 RR (sOp (.unOp .not 4 (.const o0)) 4) q0 fun s0 t0 =>
 RR (sOp (.pick (.const i0) (.const s0) (.const (Value.bool false))) 4) t0 fun u0 v0 =>
 d0 u0 v0) (
 RR (sOp (.pick (.const i0) (.const undef) (.const (Value.bool false))) 4) j0 fun w0 x0 =>
 d0 w0 x0)) ∧
 ∀ y0 _ _ _ _ _ _ _ _ _ : Value, ∀ z0 : World, d0 y0 z0 →
 CondV y0 (
 RR (sOp (.fieldAddr 42 (.const a0) 1) 0) z0 fun A0 B0 =>
 RR (sOp (.load 3 (.const A0)) 3) B0 fun C0 D0 =>
 RR (sBuildSlice 38 1 [(0, C0)]) D0 fun E0 F0 =>
 RR (sBuiltin .append #[38, 38] 38 [false, false] [p1, E0]) F0 fun G0 H0 =>
 c0 G0 H0) (
 c0 p1 z0))) ∧
 ∀ I0 _ _ _ _ _ _ _ _ _ _ _ _ _ _ _ : Value, ∀ J0 : World, c0 I0 J0 →
 RR (sOp (.fieldAddr 42 (.const a0) 3) 0) J0 fun K0 L0 =>
 RR (sOp (.load 40 (.const K0)) 40) L0 fun M0 N0 =>
 RR (sBuiltin .len #[40] 3 [false] [M0]) N0 fun O0 P0 =>
 (∃ (Q0 : Value → Value → World → Prop) (S0 : Value → Value → World → Nat), Q0 (Value.int .i64 0) I0 P0 ∧
 ∀ T0 _ U0 _ _ _ _ _ _ _ : Value, ∀ V0 : World, Q0 T0 U0 V0 →
 RR (sBin .lss 3 false false T0 O0) V0 fun W0 X0 =>
 CondV W0 (
 RR (sOp (.indexAddr 40 (.const M0) (.const T0)) 0) X0 fun Y0 Z0 =>
 RR (sOp (.load 42 (.const Y0)) 42) Z0 fun a1 b1 =>
 RR (sOp (.alloc 42) 0) b1 fun c1 d1 =>
 RR (sOp (.store 42 (.const c1) (.const a1)) 0) d1 fun _ e1 =>
 RR (sOp (.load 42 (.const c1)) 42) e1 fun f1 g1 =>
 RR (sCall (Value.func (.func 107) #[] #[]) [f1, U0]) g1 fun h1 i1 =>
 RR (sBin .add 3 false true T0 (Value.int .i64 1)) i1 fun j1 k1 =>
 Q0 j1 h1 k1 ∧ S0 j1 h1 k1 < S0 T0 U0 V0) (
 R (.returned U0) X0)))
theorem calls_i_addVars {p0 p1 : Value} {w : World} {R : Ending → World → Prop} (h : sh_i_addVars p0 p1 w R) : Calls Tryz.prog 107 #[p0, p1] w R :=
  calls_sh (.seq none .leaf (.seq (some [1]) (.seq (some [16]) .leaf .leaf) (.seq none (.seq none .leaf (.one (.loop [25, 1] .leaf))) .leaf))) [p0, p1] mixed Tryz.func107 (by kernel_rfl) (by kernel_rfl) h


/- loop.example/prologserver/impl.NameValid : function 108 -/
def sh_i_NameValid (p0 : Value) (w : World) (R : Ending → World → Prop) : Prop :=
 RR (sCall (Value.func (.func 92) #[] #[]) [p0]) w fun a0 b0 =>
 GuardV a0 false (
 RR (sCall (Value.func (.func 112) #[] #[]) []) b0 fun c0 d0 =>
 RR (sCall (Value.func (.func 111) #[] #[]) [c0, p0]) d0 fun e0 f0 =>
 RR (sOp (.pick (.const a0) (.const (Value.bool true)) (.const e0)) 4) f0 fun g0 h0 =>
 R (.returned g0) h0) (
 RR (sOp (.pick (.const a0) (.const (Value.bool true)) (.const undef)) 4) b0 fun i0 j0 =>
 R (.returned i0) j0)
theorem calls_i_NameValid {p0 : Value} {w : World} {R : Ending → World → Prop} (h : sh_i_NameValid p0 w R) : Calls Tryz.prog 108 #[p0] w R :=
  calls_sh .leaf [p0] mixed Tryz.func108 (by kernel_rfl) (by kernel_rfl) h


/- loop.example/prologserver/impl.scan$1 : function 109 -/
def sh_i_scan_1 (p0 p1 p2 : Value) (w : World) (R : Ending → World → Prop) : Prop :=
 RR (sOp (.box 42 (.const p0)) 0) w fun a0 b0 =>
 RR (sOp (.load 42 (.const a0)) 42) b0 fun c0 d0 =>
 RR (sOp (.load 3 (.const p1)) 3) d0 fun e0 f0 =>
 RR (sBin .add 3 false true e0 (Value.int .i64 1)) f0 fun g0 h0 =>
 RR (sOp (.load 99 (.const p2)) 99) h0 fun i0 j0 =>
 RR (sCall (Value.func (.func 100) #[] #[]) [c0, g0, i0]) j0 fun k0 l0 =>
 RR (sOp (.unOp .not 4 (.const k0)) 4) l0 fun m0 n0 =>
 R (.returned m0) n0
theorem calls_i_scan_1 {p0 p1 p2 : Value} {w : World} {R : Ending → World → Prop} (h : sh_i_scan_1 p0 p1 p2 w R) : Calls Tryz.prog 109 #[p0, p1, p2] w R :=
  calls_sh .leaf [p0, p1, p2] mixed Tryz.func109 (by kernel_rfl) (by kernel_rfl) h


/- loop.example/prologserver/spec.NameValid : function 110 -/
def sh_s_NameValid (p0 : Value) (w : World) (R : Ending → World → Prop) : Prop :=
 RR (sCall (Value.func (.func 86) #[] #[]) [p0]) w fun a0 b0 =>
 GuardV a0 false (
 RR (sCall (Value.func (.func 114) #[] #[]) []) b0 fun c0 d0 =>
 RR (sCall (Value.func (.func 113) #[] #[]) [c0, p0]) d0 fun e0 f0 =>
 RR (sOp (.pick (.const a0) (.const (Value.bool true)) (.const e0)) 4) f0 fun g0 h0 =>
 R (.returned g0) h0) (
 RR (sOp (.pick (.const a0) (.const (Value.bool true)) (.const undef)) 4) b0 fun i0 j0 =>
 R (.returned i0) j0)
theorem calls_s_NameValid {p0 : Value} {w : World} {R : Ending → World → Prop} (h : sh_s_NameValid p0 w R) : Calls Tryz.prog 110 #[p0] w R :=
  calls_sh .leaf [p0] mixed Tryz.func110 (by kernel_rfl) (by kernel_rfl) h


/- slices.Contains[[]string,string] : function 111 -/
def sh_x_Contains_string (p0 p1 : Value) (w : World) (R : Ending → World → Prop) : Prop :=
 RR (sCall (Value.func (.func 115) #[] #[]) [p0, p1]) w fun a0 b0 =>
 RR (sBin .geq 3 false true a0 (Value.int .i64 0)) b0 fun c0 d0 =>
 R (.returned c0) d0
theorem calls_x_Contains_string {p0 p1 : Value} {w : World} {R : Ending → World → Prop} (h : sh_x_Contains_string p0 p1 w R) : Calls Tryz.prog 111 #[p0, p1] w R :=
  calls_sh .leaf [p0, p1] mixed Tryz.func111 (by kernel_rfl) (by kernel_rfl) h


/- loop.example/prologserver/impl.symbols : function 112 -/
def sh_i_symbols (w : World) (R : Ending → World → Prop) : Prop :=
 RR (sBuildSlice 115 15 [(0, (Value.string ⟨#[43]⟩)), (1, (Value.string ⟨#[45]⟩)), (2, (Value.string ⟨#[42]⟩)), (3, (Value.string ⟨#[47, 47]⟩)), (4, (Value.string ⟨#[61]⟩)), (5, (Value.string ⟨#[92, 61]⟩)), (6, (Value.string ⟨#[61, 61]⟩)), (7, (Value.string ⟨#[60]⟩)), (8, (Value.string ⟨#[62]⟩)), (9, (Value.string ⟨#[61, 60]⟩)), (10, (Value.string ⟨#[62, 61]⟩)), (11, (Value.string ⟨#[61, 58, 61]⟩)), (12, (Value.string ⟨#[46]⟩)), (13, (Value.string ⟨#[91, 93]⟩)), (14, (Value.string ⟨#[33]⟩))]) w fun a0 b0 =>
 R (.returned a0) b0
theorem calls_i_symbols {w : World} {R : Ending → World → Prop} (h : sh_i_symbols w R) : Calls Tryz.prog 112 #[] w R :=
  calls_sh .leaf [] mixed Tryz.func112 (by kernel_rfl) (by kernel_rfl) h


/- loop.example/prologserver/spec.l1Has : function 113 -/
def sh_s_l1Has (p0 p1 : Value) (w : World) (R : Ending → World → Prop) : Prop :=
 (∃ (a0 : Value → World → Prop) (b0 : Value → World → Nat), a0 (Value.int .i64 0) w ∧
 ∀ c0 _ _ _ _ _ _ _ _ _ _ _ _ _ : Value, ∀ d0 : World, a0 c0 d0 →
 RR (sBuiltin .len #[115] 3 [false] [p0]) d0 fun e0 f0 =>
 RR (sBin .lss 3 false false c0 e0) f0 fun g0 h0 =>
 CondV g0 (
 RR (sOp (.indexAddr 115 (.const p0) (.const c0)) 0) h0 fun i0 j0 =>
 RR (sOp (.load 9 (.const i0)) 9) j0 fun k0 l0 =>
 RR (sBin .eql 9 false false k0 p1) l0 fun m0 n0 =>
 CondV m0 (
 R (.returned (Value.bool true)) n0) (
 RR (sBin .add 3 false true c0 (Value.int .i64 1)) n0 fun o0 q0 =>
 a0 o0 q0 ∧ b0 o0 q0 < b0 c0 d0)) (
 R (.returned (Value.bool false)) h0))
theorem calls_s_l1Has {p0 p1 : Value} {w : World} {R : Ending → World → Prop} (h : sh_s_l1Has p0 p1 w R) : Calls Tryz.prog 113 #[p0, p1] w R :=
  calls_sh (.seq none .leaf (.seq none (.seq none .leaf (.one (.loop [5] .leaf))) .leaf)) [p0, p1] mixed Tryz.func113 (by kernel_rfl) (by kernel_rfl) h


/- loop.example/prologserver/spec.l1Signs : function 114 -/
def sh_s_l1Signs (w : World) (R : Ending → World → Prop) : Prop :=
 RR (sBuildSlice 115 15 [(0, (Value.string ⟨#[43]⟩)), (1, (Value.string ⟨#[45]⟩)), (2, (Value.string ⟨#[42]⟩)), (3, (Value.string ⟨#[47, 47]⟩)), (4, (Value.string ⟨#[61]⟩)), (5, (Value.string ⟨#[92, 61]⟩)), (6, (Value.string ⟨#[61, 61]⟩)), (7, (Value.string ⟨#[60]⟩)), (8, (Value.string ⟨#[62]⟩)), (9, (Value.string ⟨#[61, 60]⟩)), (10, (Value.string ⟨#[62, 61]⟩)), (11, (Value.string ⟨#[61, 58, 61]⟩)), (12, (Value.string ⟨#[46]⟩)), (13, (Value.string ⟨#[91, 93]⟩)), (14, (Value.string ⟨#[33]⟩))]) w fun a0 b0 =>
 R (.returned a0) b0
theorem calls_s_l1Signs {w : World} {R : Ending → World → Prop} (h : sh_s_l1Signs w R) : Calls Tryz.prog 114 #[] w R :=
  calls_sh .leaf [] mixed Tryz.func114 (by kernel_rfl) (by kernel_rfl) h


/- slices.Index[[]string,string] : function 115 -/
def sh_x_Index_string (p0 p1 : Value) (w : World) (R : Ending → World → Prop) : Prop :=
 RR (sBuiltin .len #[115] 3 [false] [p0]) w fun a0 b0 =>
 (∃ (c0 : Value → World → Prop) (d0 : Value → World → Nat), c0 (Value.int .i64 0) b0 ∧
 ∀ e0 _ _ _ _ _ _ _ _ _ _ _ _ : Value, ∀ f0 : World, c0 e0 f0 →
 RR (sBin .lss 3 false false e0 a0) f0 fun g0 h0 =>
 CondV g0 (
 RR (sOp (.indexAddr 115 (.const p0) (.const e0)) 0) h0 fun i0 j0 =>
 RR (sOp (.load 9 (.const i0)) 9) j0 fun k0 l0 =>
 RR (sBin .eql 9 false false p1 k0) l0 fun m0 n0 =>
 CondV m0 (
 R (.returned e0) n0) (
 RR (sBin .add 3 false true e0 (Value.int .i64 1)) n0 fun o0 q0 =>
 c0 o0 q0 ∧ d0 o0 q0 < d0 e0 f0)) (
 R (.returned (Value.int .i64 (-1))) h0))
theorem calls_x_Index_string {p0 p1 : Value} {w : World} {R : Ending → World → Prop} (h : sh_x_Index_string p0 p1 w R) : Calls Tryz.prog 115 #[p0, p1] w R :=
  calls_sh (.seq none .leaf (.seq none (.seq none .leaf (.one (.loop [8] .leaf))) .leaf)) [p0, p1] mixed Tryz.func115 (by kernel_rfl) (by kernel_rfl) h

end Go.Proofs.YtaaihodhhacapaaGreat

/- Made by program: the functions in a shallow form; each form gives Calls. -/
import Derived.Test.YtaaihodhhacapaaGreatVcCalls
import Derived.Test.YtaaihodhhacapaaGreatProg
import Derived.KernelRfl
set_option maxRecDepth 100000
namespace Go.Proofs.YtaaihodhhacapaaGreat
open Go
theorem mixed : Tryz.prog.follows .mixedOrders = true := by kernel_rfl
abbrev RR := Run Tryz.prog
/- loop.example/prologserver/laws.FnExactUnfoldClause : function 3 -/
def sh_l_FnExactUnfoldClause (p0 p1 : Value) (w : World) (R : Ending → World → Prop) : Prop :=
 RR (sCall (Value.func (.func 4) #[] #[]) [p0, (Value.int .i64 1048576)]) w fun a0 b0 =>
 RR (sBin .lss 3 false true a0 (Value.int .i64 0)) b0 fun c0 d0 =>
 CondV c0 (
 R (.returned (Value.bool true)) d0) (
 RR (sCall (Value.func (.func 6) #[] #[]) [p0]) d0 fun e0 f0 =>
 RR (sCall (Value.func (.func 5) #[] #[]) [e0, p1]) f0 fun g0 h0 =>
 RR (sOp (.extract (.const g0) 0) 24) h0 fun i0 j0 =>
 RR (sOp (.extract (.const g0) 1) 4) j0 fun k0 l0 =>
 RR (sCall (Value.func (.func 6) #[] #[]) [p0]) l0 fun m0 n0 =>
 RR (sCall (Value.func (.func 7) #[] #[]) [m0, p1]) n0 fun o0 q0 =>
 RR (sOp (.extract (.const o0) 0) 24) q0 fun s0 t0 =>
 RR (sOp (.extract (.const o0) 1) 4) t0 fun u0 v0 =>
 (∃ w0 : Value → World → Prop, (
 RR (sCall (Value.func (.func 8) #[] #[]) [s0, i0]) v0 fun x0 y0 =>
 RR (sOp (.unOp .not 4 (.const x0)) 4) y0 fun z0 A0 =>
 GuardV z0 false (
 RR (sBin .neq 4 false false u0 k0) A0 fun B0 C0 =>
 RR (sOp (.pick (.const z0) (.const (Value.bool true)) (.const B0)) 4) C0 fun D0 E0 =>
 w0 D0 E0) (
 RR (sOp (.pick (.const z0) (.const (Value.bool true)) (.const undef)) 4) A0 fun F0 G0 =>
 w0 F0 G0)) ∧
 ∀ H0 _ _ _ _ _ _ _ _ : Value, ∀ I0 : World, w0 H0 I0 →
 CondV H0 (
 R (.returned (Value.bool false)) I0) (
 RR (sCall (Value.func (.func 6) #[] #[]) [p0]) I0 fun J0 K0 =>
 RR (sCall (Value.func (.func 8) #[] #[]) [m0, J0]) K0 fun L0 M0 =>
 RR (sOp (.unOp .not 4 (.const L0)) 4) M0 fun N0 O0 =>
 CondV N0 (
 R (.returned (Value.bool false)) O0) (
 RR (sCall (Value.func (.func 9) #[] #[]) [m0, (Value.int .i64 1)]) O0 fun P0 Q0 =>
 (∃ S0 : Value → World → Prop, (
 RR (sBin .lss 3 false true P0 (Value.int .i64 0)) Q0 fun T0 U0 =>
 GuardV T0 false (
 RR (sCall (Value.func (.func 8) #[] #[]) [s0, i0]) U0 fun V0 W0 =>
 RR (sOp (.unOp .not 4 (.const V0)) 4) W0 fun X0 Y0 =>
 RR (sOp (.pick (.const T0) (.const (Value.bool true)) (.const X0)) 4) Y0 fun Z0 a1 =>
 GuardV Z0 false (
 RR (sBin .neq 4 false false u0 k0) a1 fun b1 c1 =>
 RR (sOp (.pick (.const Z0) (.const (Value.bool true)) (.const b1)) 4) c1 fun d1 e1 =>
 S0 d1 e1) (
 RR (sOp (.pick (.const Z0) (.const (Value.bool true)) (.const undef)) 4) a1 fun f1 g1 =>
 S0 f1 g1)) (
 RR (sOp (.pick (.const T0) (.const (Value.bool true)) (.const undef)) 4) U0 fun h1 i1 =>
 GuardV h1 false (
 RR (sBin .neq 4 false false u0 k0) i1 fun j1 k1 =>
 RR (sOp (.pick (.const h1) (.const (Value.bool true)) (.const j1)) 4) k1 fun l1 m1 =>
 S0 l1 m1) (
 RR (sOp (.pick (.const h1) (.const (Value.bool true)) (.const undef)) 4) i1 fun n1 o1 =>
 S0 n1 o1))) ∧
 ∀ q1 _ _ _ _ _ _ _ _ _ _ _ _ : Value, ∀ s1 : World, S0 q1 s1 →
 CondV q1 (
 R (.returned (Value.bool false)) s1) (
 RR (sCall (Value.func (.func 9) #[] #[]) [s0, (Value.int .i64 1)]) s1 fun t1 u1 =>
 RR (sCall (Value.func (.func 10) #[] #[]) [s0, (Value.int .i64 1)]) u1 fun v1 w1 =>
 RR (sBin .lss 3 false true v1 (Value.int .i64 0)) w1 fun x1 y1 =>
 CondV x1 (
 R (.returned (Value.bool false)) y1) (
 RR (sBin .neq 3 false false v1 t1) y1 fun z1 A1 =>
 CondV z1 (
 R (.returned (Value.bool false)) A1) (
 RR (sCall (Value.func (.func 6) #[] #[]) [p0]) A1 fun B1 C1 =>
 RR (sCall (Value.func (.func 7) #[] #[]) [B1, p1]) C1 fun D1 E1 =>
 RR (sOp (.extract (.const D1) 0) 24) E1 fun F1 G1 =>
 RR (sOp (.extract (.const D1) 1) 4) G1 fun H1 I1 =>
 (∃ J1 : Value → World → Prop, (
 RR (sCall (Value.func (.func 8) #[] #[]) [F1, i0]) I1 fun K1 L1 =>
 RR (sOp (.unOp .not 4 (.const K1)) 4) L1 fun M1 N1 =>
 GuardV M1 false (
 RR (sBin .neq 4 false false H1 k0) N1 fun O1 P1 =>
 RR (sOp (.pick (.const M1) (.const (Value.bool true)) (.const O1)) 4) P1 fun Q1 S1 =>
 J1 Q1 S1) (
 RR (sOp (.pick (.const M1) (.const (Value.bool true)) (.const undef)) 4) N1 fun T1 U1 =>
 J1 T1 U1)) ∧
 ∀ V1 _ _ _ _ _ _ _ _ : Value, ∀ W1 : World, J1 V1 W1 →
 CondV V1 (
 R (.returned (Value.bool false)) W1) (
 RR (sCall (Value.func (.func 10) #[] #[]) [s0, (Value.int .i64 1)]) W1 fun X1 Y1 =>
 RR (sBin .lss 3 false true X1 (Value.int .i64 0)) Y1 fun Z1 a2 =>
 CondV Z1 (
 R (.returned (Value.bool false)) a2) (
 RR (sBin .neq 3 false false X1 t1) a2 fun b2 c2 =>
 CondV b2 (
 R (.returned (Value.bool false)) c2) (
 R (.returned (Value.bool true)) c2))))))))))))
theorem calls_l_FnExactUnfoldClause {p0 p1 : Value} {w : World} {R : Ending → World → Prop} (h : sh_l_FnExactUnfoldClause p0 p1 w R) : Calls Tryz.prog 3 #[p0, p1] w R :=
  calls_sh (.seq none .leaf (.seq none .leaf (.seq none .leaf (.seq none .leaf (.seq none .leaf (.seq none .leaf (.seq none .leaf (.seq none (.seq (some [44]) .leaf .leaf) (.seq none .leaf (.seq none .leaf (.seq none .leaf (.seq none (.seq (some [65]) .leaf .leaf) (.seq none .leaf (.seq none .leaf (.seq none .leaf (.seq none .leaf (.seq none .leaf (.seq none .leaf (.seq none .leaf (.seq none (.seq (some [92]) .leaf .leaf) .leaf)))))))))))))))))))) [p0, p1] mixed Tryz.func3 (by kernel_rfl) (by kernel_rfl) h


/- loop.example/prologserver/laws.szClauseS : function 4 -/
def sh_l_szClauseS (p0 p1 : Value) (w : World) (R : Ending → World → Prop) : Prop :=
 RR (sBuiltin .len #[22] 3 [false] [p0]) w fun a0 b0 =>
 RR (sBin .sub 3 false false p1 a0) b0 fun c0 d0 =>
 RR (sBin .lss 3 false true c0 (Value.int .i64 0)) d0 fun e0 f0 =>
 CondV e0 (
 R (.returned (Value.int .i64 (-1))) f0) (
 (∃ (g0 : Value → Value → World → Prop) (h0 : Value → Value → World → Nat), g0 (Value.int .i64 0) c0 f0 ∧
 ∀ i0 _ _ _ _ _ j0 _ _ _ _ _ _ _ _ _ _ : Value, ∀ k0 : World, g0 i0 j0 k0 →
 RR (sBuiltin .len #[22] 3 [false] [p0]) k0 fun l0 m0 =>
 RR (sBin .lss 3 false false i0 l0) m0 fun n0 o0 =>
 CondV n0 (
 RR (sOp (.indexAddr 22 (.const p0) (.const i0)) 0) o0 fun q0 s0 =>
 RR (sOp (.load 36 (.const q0)) 36) s0 fun t0 u0 =>
 RR (sCall (Value.func (.func 11) #[] #[]) [t0, j0]) u0 fun v0 w0 =>
 RR (sBin .lss 3 false true v0 (Value.int .i64 0)) w0 fun x0 y0 =>
 CondV x0 (
 R (.returned (Value.int .i64 (-1))) y0) (
 RR (sBin .add 3 false true i0 (Value.int .i64 1)) y0 fun z0 A0 =>
 g0 z0 v0 A0 ∧ h0 z0 v0 A0 < h0 i0 j0 k0)) (
 R (.returned j0) o0)))
theorem calls_l_szClauseS {p0 p1 : Value} {w : World} {R : Ending → World → Prop} (h : sh_l_szClauseS p0 p1 w R) : Calls Tryz.prog 4 #[p0, p1] w R :=
  calls_sh (.seq none .leaf (.seq none .leaf (.seq none .leaf (.seq none (.seq none .leaf (.one (.loop [5, 1] .leaf))) .leaf)))) [p0, p1] mixed Tryz.func4 (by kernel_rfl) (by kernel_rfl) h


/- loop.example/prologserver/spec.UnfoldClause : function 5 -/
def sh_s_UnfoldClause (p0 p1 : Value) (w : World) (R : Ending → World → Prop) : Prop :=
 RR (sCall (Value.func (.func 12) #[] #[]) [p0, p1]) w fun a0 b0 =>
 RR (sOp (.unOp .not 4 (.const a0)) 4) b0 fun c0 d0 =>
 CondV c0 (
 RR (sBuildSlice 24 0 []) d0 fun e0 f0 =>
 R (.returned (.tuple #[e0, (Value.bool false)])) f0) (
 RR (sBuildSlice 24 0 []) d0 fun g0 h0 =>
 RR (sOp (.slice 24 (.const p0) none (some (.const p1)) none) 24) h0 fun i0 j0 =>
 RR (sBuiltin .append #[24, 24] 24 [false, false] [g0, i0]) j0 fun k0 l0 =>
 RR (sOp (.indexAddr 24 (.const p0) (.const p1)) 0) l0 fun m0 n0 =>
 RR (sOp (.fieldAddr 44 (.const m0) 1) 0) n0 fun o0 q0 =>
 RR (sOp (.load 40 (.const o0)) 40) q0 fun s0 t0 =>
 RR (sOp (.indexAddr 40 (.const s0) (.const (Value.int .i64 0))) 0) t0 fun u0 v0 =>
 RR (sOp (.load 42 (.const u0)) 42) v0 fun w0 x0 =>
 RR (sCall (Value.func (.func 13) #[] #[]) [p0, w0]) x0 fun y0 z0 =>
 (∃ (A0 : Value → Value → World → Prop) (B0 : Value → Value → World → Nat), A0 (Value.int .i64 0) k0 z0 ∧
 ∀ C0 _ _ D0 _ _ _ _ _ _ _ _ _ _ E0 F0 G0 H0 I0 J0 K0 L0 M0 N0 O0 P0 Q0 S0 T0 U0 V0 W0 X0 _ _ _ _ : Value, ∀ Y0 : World, A0 C0 D0 Y0 →
 RR (sBuiltin .len #[38] 3 [false] [y0]) Y0 fun Z0 a1 =>
 RR (sBin .lss 3 false false C0 Z0) a1 fun b1 c1 =>
 CondV b1 (
 (∃ d1 : Value → World → Prop, (
 (∃ e1 : (Nat → Bool) → Value → Value → Value → Value → Value → Value → Value → Value → Value → Value → Value → Value → Value → Value → Value → Value → Value → Value → Value → World → Prop, e1 (fun _ => false) E0 F0 G0 H0 I0 J0 K0 L0 M0 N0 O0 P0 Q0 S0 T0 U0 V0 W0 X0 { c1 with drawn := c1.drawn + 1 } ∧ (
 (∀ f1 : Nat → Bool, f1 0 = false → ∀ g1 h1 i1 j1 k1 l1 m1 n1 o1 q1 s1 t1 u1 v1 w1 x1 y1 z1 A1 : Value, ∀ B1 : World, e1 f1 g1 h1 i1 j1 k1 l1 m1 n1 o1 q1 s1 t1 u1 v1 w1 x1 y1 z1 A1 B1 →
 e1 (setD f1 0) g1 h1 i1 j1 k1 l1 m1 n1 o1 q1 s1 t1 u1 v1 w1 x1 y1 z1 p0 B1) ∧
 (∀ f1 : Nat → Bool, f1 1 = false → ∀ g1 h1 i1 j1 k1 l1 m1 n1 o1 q1 s1 t1 u1 v1 w1 x1 y1 z1 A1 : Value, ∀ C1 : World, e1 f1 g1 h1 i1 j1 k1 l1 m1 n1 o1 q1 s1 t1 u1 v1 w1 x1 y1 z1 A1 C1 →
 e1 (setD f1 1) g1 h1 i1 j1 k1 l1 m1 n1 o1 q1 s1 t1 u1 v1 w1 x1 y1 p1 A1 C1) ∧
 (∀ f1 : Nat → Bool, f1 2 = false → f1 0 = true → f1 1 = true → ∀ g1 h1 i1 j1 k1 l1 m1 n1 o1 q1 s1 t1 u1 v1 w1 x1 y1 z1 A1 : Value, ∀ D1 : World, e1 f1 g1 h1 i1 j1 k1 l1 m1 n1 o1 q1 s1 t1 u1 v1 w1 x1 y1 z1 A1 D1 →
 RR (sOp (.indexAddr 24 (.const A1) (.const z1)) 0) D1 fun E1 F1 =>
 e1 (setD f1 2) g1 h1 i1 j1 k1 l1 m1 n1 o1 q1 s1 t1 u1 v1 w1 x1 E1 z1 A1 F1) ∧
 (∀ f1 : Nat → Bool, f1 3 = false → f1 2 = true → ∀ g1 h1 i1 j1 k1 l1 m1 n1 o1 q1 s1 t1 u1 v1 w1 x1 y1 z1 A1 : Value, ∀ G1 : World, e1 f1 g1 h1 i1 j1 k1 l1 m1 n1 o1 q1 s1 t1 u1 v1 w1 x1 y1 z1 A1 G1 →
 RR (sOp (.load 44 (.const y1)) 44) G1 fun H1 I1 =>
 e1 (setD f1 3) g1 h1 i1 j1 k1 l1 m1 n1 o1 q1 s1 t1 u1 v1 w1 H1 y1 z1 A1 I1) ∧
 (∀ f1 : Nat → Bool, f1 4 = false → ∀ g1 h1 i1 j1 k1 l1 m1 n1 o1 q1 s1 t1 u1 v1 w1 x1 y1 z1 A1 : Value, ∀ J1 : World, e1 f1 g1 h1 i1 j1 k1 l1 m1 n1 o1 q1 s1 t1 u1 v1 w1 x1 y1 z1 A1 J1 →
 e1 (setD f1 4) g1 h1 i1 j1 k1 l1 m1 n1 o1 q1 s1 t1 u1 v1 p0 x1 y1 z1 A1 J1) ∧
 (∀ f1 : Nat → Bool, f1 5 = false → ∀ g1 h1 i1 j1 k1 l1 m1 n1 o1 q1 s1 t1 u1 v1 w1 x1 y1 z1 A1 : Value, ∀ K1 : World, e1 f1 g1 h1 i1 j1 k1 l1 m1 n1 o1 q1 s1 t1 u1 v1 w1 x1 y1 z1 A1 K1 →
 e1 (setD f1 5) g1 h1 i1 j1 k1 l1 m1 n1 o1 q1 s1 t1 u1 y0 w1 x1 y1 z1 A1 K1) ∧
 (∀ f1 : Nat → Bool, f1 6 = false → ∀ g1 h1 i1 j1 k1 l1 m1 n1 o1 q1 s1 t1 u1 v1 w1 x1 y1 z1 A1 : Value, ∀ L1 : World, e1 f1 g1 h1 i1 j1 k1 l1 m1 n1 o1 q1 s1 t1 u1 v1 w1 x1 y1 z1 A1 L1 →
 e1 (setD f1 6) g1 h1 i1 j1 k1 l1 m1 n1 o1 q1 s1 t1 C0 v1 w1 x1 y1 z1 A1 L1) ∧
 (∀ f1 : Nat → Bool, f1 7 = false → f1 5 = true → f1 6 = true → ∀ g1 h1 i1 j1 k1 l1 m1 n1 o1 q1 s1 t1 u1 v1 w1 x1 y1 z1 A1 : Value, ∀ M1 : World, e1 f1 g1 h1 i1 j1 k1 l1 m1 n1 o1 q1 s1 t1 u1 v1 w1 x1 y1 z1 A1 M1 →
 RR (sOp (.indexAddr 38 (.const v1) (.const u1)) 0) M1 fun N1 O1 =>
 e1 (setD f1 7) g1 h1 i1 j1 k1 l1 m1 n1 o1 q1 s1 N1 u1 v1 w1 x1 y1 z1 A1 O1) ∧
 (∀ f1 : Nat → Bool, f1 8 = false → f1 7 = true → ∀ g1 h1 i1 j1 k1 l1 m1 n1 o1 q1 s1 t1 u1 v1 w1 x1 y1 z1 A1 : Value, ∀ P1 : World, e1 f1 g1 h1 i1 j1 k1 l1 m1 n1 o1 q1 s1 t1 u1 v1 w1 x1 y1 z1 A1 P1 →
 RR (sOp (.load 3 (.const t1)) 3) P1 fun Q1 S1 =>
 e1 (setD f1 8) g1 h1 i1 j1 k1 l1 m1 n1 o1 q1 Q1 t1 u1 v1 w1 x1 y1 z1 A1 S1) ∧
 (∀ f1 : Nat → Bool, f1 9 = false → f1 4 = true → f1 8 = true → ∀ g1 h1 i1 j1 k1 l1 m1 n1 o1 q1 s1 t1 u1 v1 w1 x1 y1 z1 A1 : Value, ∀ T1 : World, e1 f1 g1 h1 i1 j1 k1 l1 m1 n1 o1 q1 s1 t1 u1 v1 w1 x1 y1 z1 A1 T1 →
 RR (sOp (.indexAddr 24 (.const w1) (.const s1)) 0) T1 fun U1 V1 =>
 e1 (setD f1 9) g1 h1 i1 j1 k1 l1 m1 n1 o1 U1 s1 t1 u1 v1 w1 x1 y1 z1 A1 V1) ∧
 (∀ f1 : Nat → Bool, f1 10 = false → f1 9 = true → ∀ g1 h1 i1 j1 k1 l1 m1 n1 o1 q1 s1 t1 u1 v1 w1 x1 y1 z1 A1 : Value, ∀ W1 : World, e1 f1 g1 h1 i1 j1 k1 l1 m1 n1 o1 q1 s1 t1 u1 v1 w1 x1 y1 z1 A1 W1 →
 RR (sOp (.load 44 (.const q1)) 44) W1 fun X1 Y1 =>
 e1 (setD f1 10) g1 h1 i1 j1 k1 l1 m1 n1 X1 q1 s1 t1 u1 v1 w1 x1 y1 z1 A1 Y1) ∧
 (∀ f1 : Nat → Bool, f1 11 = false → f1 3 = true → f1 10 = true → ∀ g1 h1 i1 j1 k1 l1 m1 n1 o1 q1 s1 t1 u1 v1 w1 x1 y1 z1 A1 : Value, ∀ Z1 : World, e1 f1 g1 h1 i1 j1 k1 l1 m1 n1 o1 q1 s1 t1 u1 v1 w1 x1 y1 z1 A1 Z1 →
 RR (sCall (Value.func (.func 14) #[] #[]) [x1, o1]) Z1 fun a2 b2 =>
 e1 (setD f1 11) g1 h1 i1 j1 k1 l1 m1 a2 o1 q1 s1 t1 u1 v1 w1 x1 y1 z1 A1 b2) ∧
 (∀ f1 : Nat → Bool, f1 12 = false → f1 11 = true → ∀ g1 h1 i1 j1 k1 l1 m1 n1 o1 q1 s1 t1 u1 v1 w1 x1 y1 z1 A1 : Value, ∀ c2 : World, e1 f1 g1 h1 i1 j1 k1 l1 m1 n1 o1 q1 s1 t1 u1 v1 w1 x1 y1 z1 A1 c2 →
 e1 (setD f1 12) g1 h1 i1 j1 k1 l1 n1 n1 o1 q1 s1 t1 u1 v1 w1 x1 y1 z1 A1 c2) ∧
 (∀ f1 : Nat → Bool, f1 13 = false → f1 12 = true → ∀ g1 h1 i1 j1 k1 l1 m1 n1 o1 q1 s1 t1 u1 v1 w1 x1 y1 z1 A1 : Value, ∀ d2 : World, e1 f1 g1 h1 i1 j1 k1 l1 m1 n1 o1 q1 s1 t1 u1 v1 w1 x1 y1 z1 A1 d2 →
 RR (sOp (.extract (.const m1) 0) 44) d2 fun e2 f2 =>
 e1 (setD f1 13) g1 h1 i1 j1 k1 e2 m1 n1 o1 q1 s1 t1 u1 v1 w1 x1 y1 z1 A1 f2) ∧
 (∀ f1 : Nat → Bool, f1 14 = false → f1 12 = true → ∀ g1 h1 i1 j1 k1 l1 m1 n1 o1 q1 s1 t1 u1 v1 w1 x1 y1 z1 A1 : Value, ∀ g2 : World, e1 f1 g1 h1 i1 j1 k1 l1 m1 n1 o1 q1 s1 t1 u1 v1 w1 x1 y1 z1 A1 g2 →
 RR (sOp (.extract (.const m1) 1) 4) g2 fun h2 i2 =>
 e1 (setD f1 14) g1 h1 i1 j1 h2 l1 m1 n1 o1 q1 s1 t1 u1 v1 w1 x1 y1 z1 A1 i2) ∧
 (∀ f1 : Nat → Bool, f1 15 = false → f1 12 = true → ∀ g1 h1 i1 j1 k1 l1 m1 n1 o1 q1 s1 t1 u1 v1 w1 x1 y1 z1 A1 : Value, ∀ j2 : World, e1 f1 g1 h1 i1 j1 k1 l1 m1 n1 o1 q1 s1 t1 u1 v1 w1 x1 y1 z1 A1 j2 →
 RR (sOp (.extract (.const m1) 2) 4) j2 fun k2 l2 =>
 e1 (setD f1 15) g1 h1 i1 k2 k1 l1 m1 n1 o1 q1 s1 t1 u1 v1 w1 x1 y1 z1 A1 l2) ∧
 (∀ f1 : Nat → Bool, f1 16 = false → ∀ g1 h1 i1 j1 k1 l1 m1 n1 o1 q1 s1 t1 u1 v1 w1 x1 y1 z1 A1 : Value, ∀ m2 : World, e1 f1 g1 h1 i1 j1 k1 l1 m1 n1 o1 q1 s1 t1 u1 v1 w1 x1 y1 z1 A1 m2 →
 RR (sOp (.alloc 44) 0) m2 fun n2 o2 =>
 e1 (setD f1 16) g1 h1 n2 j1 k1 l1 m1 n1 o1 q1 s1 t1 u1 v1 w1 x1 y1 z1 A1 o2) ∧
 (∀ f1 : Nat → Bool, f1 17 = false → f1 16 = true → f1 13 = true → f1 11 = true → f1 0 = true → f1 1 = true → f1 2 = true → f1 3 = true → f1 4 = true → f1 5 = true → f1 6 = true → f1 7 = true → f1 8 = true → f1 9 = true → f1 10 = true → f1 11 = true → f1 12 = true → f1 13 = true → f1 16 = true → ∀ g1 h1 i1 j1 k1 l1 m1 n1 o1 q1 s1 t1 u1 v1 w1 x1 y1 z1 A1 : Value, ∀ q2 : World, e1 f1 g1 h1 i1 j1 k1 l1 m1 n1 o1 q1 s1 t1 u1 v1 w1 x1 y1 z1 A1 q2 →
 RR (sOp (.store 44 (.const i1) (.const l1)) 0) q2 fun _ s2 =>
 e1 (setD f1 17) g1 h1 i1 j1 k1 l1 m1 n1 o1 q1 s1 t1 u1 v1 w1 x1 y1 z1 A1 s2) ∧
 (∀ f1 : Nat → Bool, f1 18 = false → f1 14 = true → f1 17 = true → f1 0 = true → f1 1 = true → f1 2 = true → f1 3 = true → f1 4 = true → f1 5 = true → f1 6 = true → f1 7 = true → f1 8 = true → f1 9 = true → f1 10 = true → f1 11 = true → f1 12 = true → f1 13 = true → f1 14 = true → f1 16 = true → f1 17 = true → ∀ g1 h1 i1 j1 k1 l1 m1 n1 o1 q1 s1 t1 u1 v1 w1 x1 y1 z1 A1 : Value, ∀ t2 : World, e1 f1 g1 h1 i1 j1 k1 l1 m1 n1 o1 q1 s1 t1 u1 v1 w1 x1 y1 z1 A1 t2 →
 e1 (setD f1 18) g1 k1 i1 j1 k1 l1 m1 n1 o1 q1 s1 t1 u1 v1 w1 x1 y1 z1 A1 t2) ∧
 (∀ f1 : Nat → Bool, f1 19 = false → f1 15 = true → f1 18 = true → f1 0 = true → f1 1 = true → f1 2 = true → f1 3 = true → f1 4 = true → f1 5 = true → f1 6 = true → f1 7 = true → f1 8 = true → f1 9 = true → f1 10 = true → f1 11 = true → f1 12 = true → f1 13 = true → f1 14 = true → f1 15 = true → f1 16 = true → f1 17 = true → f1 18 = true → ∀ g1 h1 i1 j1 k1 l1 m1 n1 o1 q1 s1 t1 u1 v1 w1 x1 y1 z1 A1 : Value, ∀ u2 : World, e1 f1 g1 h1 i1 j1 k1 l1 m1 n1 o1 q1 s1 t1 u1 v1 w1 x1 y1 z1 A1 u2 →
 e1 (setD f1 19) j1 h1 i1 j1 k1 l1 m1 n1 o1 q1 s1 t1 u1 v1 w1 x1 y1 z1 A1 u2) ∧
 True) ∧
 ∀ f1 : Nat → Bool, f1 19 = true → f1 18 = true → f1 17 = true → f1 16 = true → f1 15 = true → f1 14 = true → f1 13 = true → f1 12 = true → f1 11 = true → f1 10 = true → f1 9 = true → f1 8 = true → f1 7 = true → f1 6 = true → f1 5 = true → f1 4 = true → f1 3 = true → f1 2 = true → f1 1 = true → f1 0 = true → ∀ g1 h1 i1 j1 k1 l1 m1 n1 o1 q1 s1 t1 u1 v1 w1 x1 y1 z1 A1 : Value, ∀ v2 : World, e1 f1 g1 h1 i1 j1 k1 l1 m1 n1 o1 q1 s1 t1 u1 v1 w1 x1 y1 z1 A1 v2 →
 RR (sOp (.unOp .not 4 (.const g1)) 4) v2 fun w2 x2 =>
 CondV w2 (
 RR (sBuildSlice 24 0 []) x2 fun y2 z2 =>
 R (.returned (.tuple #[y2, (Value.bool false)])) z2) (
 CondV h1 (
 RR (sOp (.load 44 (.const i1)) 44) x2 fun A2 B2 =>
 RR (sBuildSlice 24 1 [(0, A2)]) B2 fun C2 D2 =>
 RR (sBuiltin .append #[24, 24] 24 [false, false] [D0, C2]) D2 fun E2 F2 =>
 d1 E2 F2) (
 d1 D0 x2)))) ∧
 ∀ G2 _ _ _ _ _ _ _ _ _ _ _ _ _ _ _ _ _ _ _ _ _ _ _ _ _ _ _ _ _ : Value, ∀ H2 : World, d1 G2 H2 →
 RR (sBin .add 3 false true C0 (Value.int .i64 1)) H2 fun I2 J2 =>
 A0 I2 G2 J2 ∧ B0 I2 G2 J2 < B0 C0 D0 Y0)) (
 RR (sBin .add 3 false true p1 (Value.int .i64 1)) c1 fun K2 L2 =>
 RR (sOp (.slice 24 (.const p0) (some (.const K2)) none none) 24) L2 fun M2 N2 =>
 RR (sBuiltin .append #[24, 24] 24 [false, false] [D0, M2]) N2 fun O2 P2 =>
 RR (sCall (Value.func (.func 15) #[] #[]) [O2]) P2 fun Q2 S2 =>
 RR (sOp (.unOp .not 4 (.const Q2)) 4) S2 fun T2 U2 =>
 CondV T2 (
 RR (sBuildSlice 24 0 []) U2 fun V2 W2 =>
 R (.returned (.tuple #[V2, (Value.bool false)])) W2) (
 RR (sCall (Value.func (.func 16) #[] #[]) [O2]) U2 fun X2 Y2 =>
 R (.returned (.tuple #[X2, (Value.bool true)])) Y2))))
theorem calls_s_UnfoldClause {p0 p1 : Value} {w : World} {R : Ending → World → Prop} (h : sh_s_UnfoldClause p0 p1 w R) : Calls Tryz.prog 5 #[p0, p1] w R :=
  calls_sh (.seq none .leaf (.seq none .leaf (.seq none .leaf (.seq none .leaf (.seq none (.seq none .leaf (.one (.loop [8, 6] (.seq none .leaf (.seq (some [6]) .leaf .leaf))))) .leaf))))) [p0, p1] mixed Tryz.func5 (by kernel_rfl) (by kernel_rfl) h


/- loop.example/prologserver/laws.toClauseS : function 6 -/
def sh_l_toClauseS (p0 : Value) (w : World) (R : Ending → World → Prop) : Prop :=
 RR (sBuiltin .len #[22] 3 [false] [p0]) w fun a0 b0 =>
 RR (sOp (.makeSlice 24 (.const a0) (.const a0)) 24) b0 fun c0 d0 =>
 (∃ (e0 : Value → World → Prop) (f0 : Value → World → Nat), e0 (Value.int .i64 0) d0 ∧
 ∀ g0 _ _ _ _ _ _ _ _ _ _ _ _ _ _ : Value, ∀ h0 : World, e0 g0 h0 →
 RR (sBuiltin .len #[22] 3 [false] [p0]) h0 fun i0 j0 =>
 RR (sBin .lss 3 false false g0 i0) j0 fun k0 l0 =>
 CondV k0 (
 RR (sOp (.indexAddr 22 (.const p0) (.const g0)) 0) l0 fun m0 n0 =>
 RR (sOp (.load 36 (.const m0)) 36) n0 fun o0 q0 =>
 RR (sCall (Value.func (.func 17) #[] #[]) [o0]) q0 fun s0 t0 =>
 RR (sOp (.indexAddr 24 (.const c0) (.const g0)) 0) t0 fun u0 v0 =>
 RR (sOp (.store 44 (.const u0) (.const s0)) 0) v0 fun _ w0 =>
 RR (sBin .add 3 false true g0 (Value.int .i64 1)) w0 fun x0 y0 =>
 e0 x0 y0 ∧ f0 x0 y0 < f0 g0 h0) (
 R (.returned c0) l0))
theorem calls_l_toClauseS {p0 : Value} {w : World} {R : Ending → World → Prop} (h : sh_l_toClauseS p0 w R) : Calls Tryz.prog 6 #[p0] w R :=
  calls_sh (.seq none .leaf (.seq none .leaf (.seq none (.seq none .leaf (.one (.loop [4] .leaf))) .leaf))) [p0] mixed Tryz.func6 (by kernel_rfl) (by kernel_rfl) h


/- loop.example/prologserver/impl.UnfoldClause : function 7 -/
def sh_i_UnfoldClause (p0 p1 : Value) (w : World) (R : Ending → World → Prop) : Prop :=
 RR (sCall (Value.func (.func 18) #[] #[]) [p0, p1]) w fun a0 b0 =>
 RR (sOp (.unOp .not 4 (.const a0)) 4) b0 fun c0 d0 =>
 CondV c0 (
 R (.returned (.tuple #[(Value.slice none 0 0), (Value.bool false)])) d0) (
 RR (sOp (.slice 24 (.const p0) none (some (.const p1)) none) 24) d0 fun e0 f0 =>
 RR (sCall (Value.func (.func 19) #[] #[]) [e0]) f0 fun g0 h0 =>
 RR (sOp (.indexAddr 24 (.const p0) (.const p1)) 0) h0 fun i0 j0 =>
 RR (sOp (.fieldAddr 44 (.const i0) 1) 0) j0 fun k0 l0 =>
 RR (sOp (.load 40 (.const k0)) 40) l0 fun m0 n0 =>
 RR (sOp (.indexAddr 40 (.const m0) (.const (Value.int .i64 0))) 0) n0 fun o0 q0 =>
 RR (sOp (.load 42 (.const o0)) 42) q0 fun s0 t0 =>
 RR (sCall (Value.func (.func 21) #[] #[]) [s0]) t0 fun u0 v0 =>
 RR (sCall (Value.func (.func 20) #[] #[]) [p0, u0]) v0 fun w0 x0 =>
 RR (sBuiltin .len #[38] 3 [false] [w0]) x0 fun y0 z0 =>
 (∃ (A0 : Value → Value → World → Prop) (B0 : Value → Value → World → Nat), A0 (Value.int .i64 0) g0 z0 ∧
 ∀ C0 _ D0 _ _ _ _ _ _ _ _ _ _ _ _ E0 F0 G0 H0 I0 J0 K0 L0 M0 N0 O0 P0 Q0 S0 T0 U0 _ _ _ _ : Value, ∀ V0 : World, A0 C0 D0 V0 →
 RR (sBin .lss 3 false false C0 y0) V0 fun W0 X0 =>
 CondV W0 (
 (∃ Y0 : Value → World → Prop, (
 RR (sOp (.indexAddr 38 (.const w0) (.const C0)) 0) X0 fun Z0 a1 =>
 RR (sOp (.load 3 (.const Z0)) 3) a1 fun b1 c1 =>
 (∃ d1 : (Nat → Bool) → Value → Value → Value → Value → Value → Value → Value → Value → Value → Value → Value → Value → Value → Value → Value → Value → World → Prop, d1 (fun _ => false) E0 F0 G0 H0 I0 J0 K0 L0 M0 N0 O0 P0 Q0 S0 T0 U0 { c1 with drawn := c1.drawn + 1 } ∧ (
 (∀ e1 : Nat → Bool, e1 0 = false → ∀ f1 g1 h1 i1 j1 k1 l1 m1 n1 o1 q1 s1 t1 u1 v1 w1 : Value, ∀ x1 : World, d1 e1 f1 g1 h1 i1 j1 k1 l1 m1 n1 o1 q1 s1 t1 u1 v1 w1 x1 →
 d1 (setD e1 0) f1 g1 h1 i1 j1 k1 l1 m1 n1 o1 q1 s1 t1 u1 v1 p0 x1) ∧
 (∀ e1 : Nat → Bool, e1 1 = false → ∀ f1 g1 h1 i1 j1 k1 l1 m1 n1 o1 q1 s1 t1 u1 v1 w1 : Value, ∀ y1 : World, d1 e1 f1 g1 h1 i1 j1 k1 l1 m1 n1 o1 q1 s1 t1 u1 v1 w1 y1 →
 d1 (setD e1 1) f1 g1 h1 i1 j1 k1 l1 m1 n1 o1 q1 s1 t1 u1 p1 w1 y1) ∧
 (∀ e1 : Nat → Bool, e1 2 = false → e1 0 = true → e1 1 = true → ∀ f1 g1 h1 i1 j1 k1 l1 m1 n1 o1 q1 s1 t1 u1 v1 w1 : Value, ∀ z1 : World, d1 e1 f1 g1 h1 i1 j1 k1 l1 m1 n1 o1 q1 s1 t1 u1 v1 w1 z1 →
 RR (sOp (.indexAddr 24 (.const w1) (.const v1)) 0) z1 fun A1 B1 =>
 d1 (setD e1 2) f1 g1 h1 i1 j1 k1 l1 m1 n1 o1 q1 s1 t1 A1 v1 w1 B1) ∧
 (∀ e1 : Nat → Bool, e1 3 = false → e1 2 = true → ∀ f1 g1 h1 i1 j1 k1 l1 m1 n1 o1 q1 s1 t1 u1 v1 w1 : Value, ∀ C1 : World, d1 e1 f1 g1 h1 i1 j1 k1 l1 m1 n1 o1 q1 s1 t1 u1 v1 w1 C1 →
 RR (sOp (.load 44 (.const u1)) 44) C1 fun D1 E1 =>
 d1 (setD e1 3) f1 g1 h1 i1 j1 k1 l1 m1 n1 o1 q1 s1 D1 u1 v1 w1 E1) ∧
 (∀ e1 : Nat → Bool, e1 4 = false → ∀ f1 g1 h1 i1 j1 k1 l1 m1 n1 o1 q1 s1 t1 u1 v1 w1 : Value, ∀ F1 : World, d1 e1 f1 g1 h1 i1 j1 k1 l1 m1 n1 o1 q1 s1 t1 u1 v1 w1 F1 →
 d1 (setD e1 4) f1 g1 h1 i1 j1 k1 l1 m1 n1 o1 q1 p0 t1 u1 v1 w1 F1) ∧
 (∀ e1 : Nat → Bool, e1 5 = false → ∀ f1 g1 h1 i1 j1 k1 l1 m1 n1 o1 q1 s1 t1 u1 v1 w1 : Value, ∀ G1 : World, d1 e1 f1 g1 h1 i1 j1 k1 l1 m1 n1 o1 q1 s1 t1 u1 v1 w1 G1 →
 d1 (setD e1 5) f1 g1 h1 i1 j1 k1 l1 m1 n1 o1 b1 s1 t1 u1 v1 w1 G1) ∧
 (∀ e1 : Nat → Bool, e1 6 = false → e1 4 = true → e1 5 = true → ∀ f1 g1 h1 i1 j1 k1 l1 m1 n1 o1 q1 s1 t1 u1 v1 w1 : Value, ∀ H1 : World, d1 e1 f1 g1 h1 i1 j1 k1 l1 m1 n1 o1 q1 s1 t1 u1 v1 w1 H1 →
 RR (sOp (.indexAddr 24 (.const s1) (.const q1)) 0) H1 fun I1 J1 =>
 d1 (setD e1 6) f1 g1 h1 i1 j1 k1 l1 m1 n1 I1 q1 s1 t1 u1 v1 w1 J1) ∧
 (∀ e1 : Nat → Bool, e1 7 = false → e1 6 = true → ∀ f1 g1 h1 i1 j1 k1 l1 m1 n1 o1 q1 s1 t1 u1 v1 w1 : Value, ∀ K1 : World, d1 e1 f1 g1 h1 i1 j1 k1 l1 m1 n1 o1 q1 s1 t1 u1 v1 w1 K1 →
 RR (sOp (.load 44 (.const o1)) 44) K1 fun L1 M1 =>
 d1 (setD e1 7) f1 g1 h1 i1 j1 k1 l1 m1 L1 o1 q1 s1 t1 u1 v1 w1 M1) ∧
 (∀ e1 : Nat → Bool, e1 8 = false → e1 3 = true → e1 7 = true → ∀ f1 g1 h1 i1 j1 k1 l1 m1 n1 o1 q1 s1 t1 u1 v1 w1 : Value, ∀ N1 : World, d1 e1 f1 g1 h1 i1 j1 k1 l1 m1 n1 o1 q1 s1 t1 u1 v1 w1 N1 →
 RR (sCall (Value.func (.func 22) #[] #[]) [t1, n1]) N1 fun O1 P1 =>
 d1 (setD e1 8) f1 g1 h1 i1 j1 k1 l1 O1 n1 o1 q1 s1 t1 u1 v1 w1 P1) ∧
 (∀ e1 : Nat → Bool, e1 9 = false → e1 8 = true → ∀ f1 g1 h1 i1 j1 k1 l1 m1 n1 o1 q1 s1 t1 u1 v1 w1 : Value, ∀ Q1 : World, d1 e1 f1 g1 h1 i1 j1 k1 l1 m1 n1 o1 q1 s1 t1 u1 v1 w1 Q1 →
 d1 (setD e1 9) f1 g1 h1 i1 j1 k1 m1 m1 n1 o1 q1 s1 t1 u1 v1 w1 Q1) ∧
 (∀ e1 : Nat → Bool, e1 10 = false → e1 9 = true → ∀ f1 g1 h1 i1 j1 k1 l1 m1 n1 o1 q1 s1 t1 u1 v1 w1 : Value, ∀ S1 : World, d1 e1 f1 g1 h1 i1 j1 k1 l1 m1 n1 o1 q1 s1 t1 u1 v1 w1 S1 →
 RR (sOp (.extract (.const l1) 0) 44) S1 fun T1 U1 =>
 d1 (setD e1 10) f1 g1 h1 i1 j1 T1 l1 m1 n1 o1 q1 s1 t1 u1 v1 w1 U1) ∧
 (∀ e1 : Nat → Bool, e1 11 = false → e1 9 = true → ∀ f1 g1 h1 i1 j1 k1 l1 m1 n1 o1 q1 s1 t1 u1 v1 w1 : Value, ∀ V1 : World, d1 e1 f1 g1 h1 i1 j1 k1 l1 m1 n1 o1 q1 s1 t1 u1 v1 w1 V1 →
 RR (sOp (.extract (.const l1) 1) 4) V1 fun W1 X1 =>
 d1 (setD e1 11) f1 g1 h1 i1 W1 k1 l1 m1 n1 o1 q1 s1 t1 u1 v1 w1 X1) ∧
 (∀ e1 : Nat → Bool, e1 12 = false → e1 9 = true → ∀ f1 g1 h1 i1 j1 k1 l1 m1 n1 o1 q1 s1 t1 u1 v1 w1 : Value, ∀ Y1 : World, d1 e1 f1 g1 h1 i1 j1 k1 l1 m1 n1 o1 q1 s1 t1 u1 v1 w1 Y1 →
 RR (sOp (.extract (.const l1) 2) 4) Y1 fun Z1 a2 =>
 d1 (setD e1 12) f1 g1 h1 Z1 j1 k1 l1 m1 n1 o1 q1 s1 t1 u1 v1 w1 a2) ∧
 (∀ e1 : Nat → Bool, e1 13 = false → ∀ f1 g1 h1 i1 j1 k1 l1 m1 n1 o1 q1 s1 t1 u1 v1 w1 : Value, ∀ b2 : World, d1 e1 f1 g1 h1 i1 j1 k1 l1 m1 n1 o1 q1 s1 t1 u1 v1 w1 b2 →
 RR (sOp (.alloc 44) 0) b2 fun c2 d2 =>
 d1 (setD e1 13) f1 g1 c2 i1 j1 k1 l1 m1 n1 o1 q1 s1 t1 u1 v1 w1 d2) ∧
 (∀ e1 : Nat → Bool, e1 14 = false → e1 13 = true → e1 10 = true → e1 8 = true → e1 0 = true → e1 1 = true → e1 2 = true → e1 3 = true → e1 4 = true → e1 5 = true → e1 6 = true → e1 7 = true → e1 8 = true → e1 9 = true → e1 10 = true → e1 13 = true → ∀ f1 g1 h1 i1 j1 k1 l1 m1 n1 o1 q1 s1 t1 u1 v1 w1 : Value, ∀ e2 : World, d1 e1 f1 g1 h1 i1 j1 k1 l1 m1 n1 o1 q1 s1 t1 u1 v1 w1 e2 →
 RR (sOp (.store 44 (.const h1) (.const k1)) 0) e2 fun _ f2 =>
 d1 (setD e1 14) f1 g1 h1 i1 j1 k1 l1 m1 n1 o1 q1 s1 t1 u1 v1 w1 f2) ∧
 (∀ e1 : Nat → Bool, e1 15 = false → e1 11 = true → e1 14 = true → e1 0 = true → e1 1 = true → e1 2 = true → e1 3 = true → e1 4 = true → e1 5 = true → e1 6 = true → e1 7 = true → e1 8 = true → e1 9 = true → e1 10 = true → e1 11 = true → e1 13 = true → e1 14 = true → ∀ f1 g1 h1 i1 j1 k1 l1 m1 n1 o1 q1 s1 t1 u1 v1 w1 : Value, ∀ g2 : World, d1 e1 f1 g1 h1 i1 j1 k1 l1 m1 n1 o1 q1 s1 t1 u1 v1 w1 g2 →
 d1 (setD e1 15) f1 j1 h1 i1 j1 k1 l1 m1 n1 o1 q1 s1 t1 u1 v1 w1 g2) ∧
 (∀ e1 : Nat → Bool, e1 16 = false → e1 12 = true → e1 15 = true → e1 0 = true → e1 1 = true → e1 2 = true → e1 3 = true → e1 4 = true → e1 5 = true → e1 6 = true → e1 7 = true → e1 8 = true → e1 9 = true → e1 10 = true → e1 11 = true → e1 12 = true → e1 13 = true → e1 14 = true → e1 15 = true → ∀ f1 g1 h1 i1 j1 k1 l1 m1 n1 o1 q1 s1 t1 u1 v1 w1 : Value, ∀ h2 : World, d1 e1 f1 g1 h1 i1 j1 k1 l1 m1 n1 o1 q1 s1 t1 u1 v1 w1 h2 →
 d1 (setD e1 16) i1 g1 h1 i1 j1 k1 l1 m1 n1 o1 q1 s1 t1 u1 v1 w1 h2) ∧
 True) ∧
 ∀ e1 : Nat → Bool, e1 16 = true → e1 15 = true → e1 14 = true → e1 13 = true → e1 12 = true → e1 11 = true → e1 10 = true → e1 9 = true → e1 8 = true → e1 7 = true → e1 6 = true → e1 5 = true → e1 4 = true → e1 3 = true → e1 2 = true → e1 1 = true → e1 0 = true → ∀ f1 g1 h1 i1 j1 k1 l1 m1 n1 o1 q1 s1 t1 u1 v1 w1 : Value, ∀ i2 : World, d1 e1 f1 g1 h1 i1 j1 k1 l1 m1 n1 o1 q1 s1 t1 u1 v1 w1 i2 →
 (∃ j2 : Value → World → Prop, (
 GuardV g1 true (
 RR (sOp (.unOp .not 4 (.const f1)) 4) i2 fun k2 l2 =>
 RR (sOp (.pick (.const g1) (.const k2) (.const (Value.bool false))) 4) l2 fun m2 n2 =>
 j2 m2 n2) (
 RR (sOp (.pick (.const g1) (.const undef) (.const (Value.bool false))) 4) i2 fun o2 q2 =>
 j2 o2 q2)) ∧
 ∀ s2 _ _ _ _ : Value, ∀ t2 : World, j2 s2 t2 →
 CondV s2 (
 R (.returned (.tuple #[(Value.slice none 0 0), (Value.bool false)])) t2) (
 CondV g1 (
 RR (sOp (.load 44 (.const h1)) 44) t2 fun u2 v2 =>
 RR (sBuildSlice 24 1 [(0, u2)]) v2 fun w2 x2 =>
 RR (sBuiltin .append #[24, 24] 24 [false, false] [D0, w2]) x2 fun y2 z2 =>
 Y0 y2 z2) (
 Y0 D0 t2))))) ∧
 ∀ A2 _ _ _ _ _ _ _ _ _ _ _ _ _ _ _ _ _ _ _ _ _ _ _ _ _ _ _ _ _ _ _ : Value, ∀ B2 : World, Y0 A2 B2 →
 RR (sBin .add 3 false true C0 (Value.int .i64 1)) B2 fun C2 D2 =>
 A0 C2 A2 D2 ∧ B0 C2 A2 D2 < B0 C0 D0 V0)) (
 RR (sBin .add 3 false true p1 (Value.int .i64 1)) X0 fun E2 F2 =>
 RR (sOp (.slice 24 (.const p0) (some (.const E2)) none none) 24) F2 fun G2 H2 =>
 RR (sCall (Value.func (.func 19) #[] #[]) [G2]) H2 fun I2 J2 =>
 RR (sBuiltin .append #[24, 24] 24 [false, false] [D0, I2]) J2 fun K2 L2 =>
 RR (sCall (Value.func (.func 23) #[] #[]) [K2]) L2 fun M2 N2 =>
 RR (sOp (.unOp .not 4 (.const M2)) 4) N2 fun O2 P2 =>
 CondV O2 (
 R (.returned (.tuple #[(Value.slice none 0 0), (Value.bool false)])) P2) (
 R (.returned (.tuple #[K2, (Value.bool true)])) P2))))
theorem calls_i_UnfoldClause {p0 p1 : Value} {w : World} {R : Ending → World → Prop} (h : sh_i_UnfoldClause p0 p1 w R) : Calls Tryz.prog 7 #[p0, p1] w R :=
  calls_sh (.seq none .leaf (.seq none .leaf (.seq none .leaf (.seq none (.seq none .leaf (.one (.loop [31, 6] (.seq none .leaf (.seq none .leaf (.seq (some [6]) (.one (.seq none .leaf (.seq none .leaf (.seq none (.seq (some [52]) .leaf .leaf) .leaf)))) .leaf)))))) .leaf)))) [p0, p1] mixed Tryz.func7 (by kernel_rfl) (by kernel_rfl) h


/- loop.example/prologserver/laws.eqClauseS : function 8 -/
def sh_l_eqClauseS (p0 p1 : Value) (w : World) (R : Ending → World → Prop) : Prop :=
 RR (sBuiltin .len #[24] 3 [false] [p0]) w fun a0 b0 =>
 RR (sBuiltin .len #[24] 3 [false] [p1]) b0 fun c0 d0 =>
 RR (sBin .neq 3 false false a0 c0) d0 fun e0 f0 =>
 CondV e0 (
 R (.returned (Value.bool false)) f0) (
 (∃ (g0 : Value → World → Prop) (h0 : Value → World → Nat), g0 (Value.int .i64 0) f0 ∧
 ∀ i0 _ _ _ j0 k0 l0 m0 n0 o0 q0 s0 t0 u0 _ _ _ _ : Value, ∀ v0 : World, g0 i0 v0 →
 RR (sBuiltin .len #[24] 3 [false] [p0]) v0 fun w0 x0 =>
 RR (sBin .lss 3 false false i0 w0) x0 fun y0 z0 =>
 CondV y0 (
 (∃ A0 : (Nat → Bool) → Value → Value → Value → Value → Value → Value → Value → Value → Value → Value → World → Prop, A0 (fun _ => false) j0 k0 l0 m0 n0 o0 q0 s0 t0 u0 { z0 with drawn := z0.drawn + 1 } ∧ (
 (∀ B0 : Nat → Bool, B0 0 = false → ∀ C0 D0 E0 F0 G0 H0 I0 J0 K0 L0 : Value, ∀ M0 : World, A0 B0 C0 D0 E0 F0 G0 H0 I0 J0 K0 L0 M0 →
 A0 (setD B0 0) C0 D0 E0 F0 G0 H0 I0 J0 K0 p0 M0) ∧
 (∀ B0 : Nat → Bool, B0 1 = false → ∀ C0 D0 E0 F0 G0 H0 I0 J0 K0 L0 : Value, ∀ N0 : World, A0 B0 C0 D0 E0 F0 G0 H0 I0 J0 K0 L0 N0 →
 A0 (setD B0 1) C0 D0 E0 F0 G0 H0 I0 J0 i0 L0 N0) ∧
 (∀ B0 : Nat → Bool, B0 2 = false → B0 0 = true → B0 1 = true → ∀ C0 D0 E0 F0 G0 H0 I0 J0 K0 L0 : Value, ∀ O0 : World, A0 B0 C0 D0 E0 F0 G0 H0 I0 J0 K0 L0 O0 →
 RR (sOp (.indexAddr 24 (.const L0) (.const K0)) 0) O0 fun P0 Q0 =>
 A0 (setD B0 2) C0 D0 E0 F0 G0 H0 I0 P0 K0 L0 Q0) ∧
 (∀ B0 : Nat → Bool, B0 3 = false → B0 2 = true → ∀ C0 D0 E0 F0 G0 H0 I0 J0 K0 L0 : Value, ∀ S0 : World, A0 B0 C0 D0 E0 F0 G0 H0 I0 J0 K0 L0 S0 →
 RR (sOp (.load 44 (.const J0)) 44) S0 fun T0 U0 =>
 A0 (setD B0 3) C0 D0 E0 F0 G0 H0 T0 J0 K0 L0 U0) ∧
 (∀ B0 : Nat → Bool, B0 4 = false → ∀ C0 D0 E0 F0 G0 H0 I0 J0 K0 L0 : Value, ∀ V0 : World, A0 B0 C0 D0 E0 F0 G0 H0 I0 J0 K0 L0 V0 →
 A0 (setD B0 4) C0 D0 E0 F0 G0 p1 I0 J0 K0 L0 V0) ∧
 (∀ B0 : Nat → Bool, B0 5 = false → ∀ C0 D0 E0 F0 G0 H0 I0 J0 K0 L0 : Value, ∀ W0 : World, A0 B0 C0 D0 E0 F0 G0 H0 I0 J0 K0 L0 W0 →
 A0 (setD B0 5) C0 D0 E0 F0 i0 H0 I0 J0 K0 L0 W0) ∧
 (∀ B0 : Nat → Bool, B0 6 = false → B0 4 = true → B0 5 = true → ∀ C0 D0 E0 F0 G0 H0 I0 J0 K0 L0 : Value, ∀ X0 : World, A0 B0 C0 D0 E0 F0 G0 H0 I0 J0 K0 L0 X0 →
 RR (sOp (.indexAddr 24 (.const H0) (.const G0)) 0) X0 fun Y0 Z0 =>
 A0 (setD B0 6) C0 D0 E0 Y0 G0 H0 I0 J0 K0 L0 Z0) ∧
 (∀ B0 : Nat → Bool, B0 7 = false → B0 6 = true → ∀ C0 D0 E0 F0 G0 H0 I0 J0 K0 L0 : Value, ∀ a1 : World, A0 B0 C0 D0 E0 F0 G0 H0 I0 J0 K0 L0 a1 →
 RR (sOp (.load 44 (.const F0)) 44) a1 fun b1 c1 =>
 A0 (setD B0 7) C0 D0 b1 F0 G0 H0 I0 J0 K0 L0 c1) ∧
 (∀ B0 : Nat → Bool, B0 8 = false → B0 3 = true → B0 7 = true → ∀ C0 D0 E0 F0 G0 H0 I0 J0 K0 L0 : Value, ∀ d1 : World, A0 B0 C0 D0 E0 F0 G0 H0 I0 J0 K0 L0 d1 →
 RR (sCall (Value.func (.func 24) #[] #[]) [I0, E0]) d1 fun e1 f1 =>
 A0 (setD B0 8) C0 e1 E0 F0 G0 H0 I0 J0 K0 L0 f1) ∧
 (∀ B0 : Nat → Bool, B0 9 = false → B0 8 = true → ∀ C0 D0 E0 F0 G0 H0 I0 J0 K0 L0 : Value, ∀ g1 : World, A0 B0 C0 D0 E0 F0 G0 H0 I0 J0 K0 L0 g1 →
 RR (sOp (.unOp .not 4 (.const D0)) 4) g1 fun h1 i1 =>
 A0 (setD B0 9) h1 D0 E0 F0 G0 H0 I0 J0 K0 L0 i1) ∧
 True) ∧
 ∀ B0 : Nat → Bool, B0 9 = true → B0 8 = true → B0 7 = true → B0 6 = true → B0 5 = true → B0 4 = true → B0 3 = true → B0 2 = true → B0 1 = true → B0 0 = true → ∀ C0 D0 E0 F0 G0 H0 I0 J0 K0 L0 : Value, ∀ j1 : World, A0 B0 C0 D0 E0 F0 G0 H0 I0 J0 K0 L0 j1 →
 CondV C0 (
 R (.returned (Value.bool false)) j1) (
 RR (sBin .add 3 false true i0 (Value.int .i64 1)) j1 fun k1 l1 =>
 g0 k1 l1 ∧ h0 k1 l1 < h0 i0 v0))) (
 R (.returned (Value.bool true)) z0)))
theorem calls_l_eqClauseS {p0 p1 : Value} {w : World} {R : Ending → World → Prop} (h : sh_l_eqClauseS p0 p1 w R) : Calls Tryz.prog 8 #[p0, p1] w R :=
  calls_sh (.seq none .leaf (.seq none .leaf (.seq none (.seq none .leaf (.one (.loop [5] .leaf))) .leaf))) [p0, p1] mixed Tryz.func8 (by kernel_rfl) (by kernel_rfl) h


/- loop.example/prologserver/laws.markClauseS : function 9 -/
def sh_l_markClauseS (p0 p1 : Value) (w : World) (R : Ending → World → Prop) : Prop :=
 (∃ (a0 : Value → Value → World → Prop) (b0 : Value → Value → World → Nat), a0 (Value.int .i64 0) p1 w ∧
 ∀ c0 _ _ _ _ _ _ _ _ _ _ _ _ _ _ _ _ _ _ _ _ _ _ _ _ _ _ _ _ _ _ _ _ _ _ d0 _ _ _ _ _ _ _ _ _ _ _ _ : Value, ∀ e0 : World, a0 c0 d0 e0 →
 RR (sBuiltin .len #[24] 3 [false] [p0]) e0 fun f0 g0 =>
 RR (sBin .lss 3 false false c0 f0) g0 fun h0 i0 =>
 CondV h0 (
 RR (sOp (.indexAddr 24 (.const p0) (.const c0)) 0) i0 fun j0 k0 =>
 RR (sOp (.fieldAddr 44 (.const j0) 0) 0) k0 fun l0 m0 =>
 RR (sOp (.fieldAddr 42 (.const l0) 0) 0) m0 fun n0 o0 =>
 RR (sOp (.store 3 (.const n0) (.const d0)) 0) o0 fun _u q0 =>
 RR (sBin .add 3 false true d0 (Value.int .i64 1)) q0 fun s0 t0 =>
 RR (sOp (.indexAddr 24 (.const p0) (.const c0)) 0) t0 fun u0 v0 =>
 RR (sOp (.fieldAddr 44 (.const u0) 0) 0) v0 fun w0 x0 =>
 RR (sOp (.fieldAddr 42 (.const w0) 1) 0) x0 fun y0 z0 =>
 RR (sOp (.store 3 (.const y0) (.const s0)) 0) z0 fun _u A0 =>
 RR (sBin .add 3 false true s0 (Value.int .i64 1)) A0 fun B0 C0 =>
 RR (sCall (Value.func (.func 25) #[] #[]) [B0]) C0 fun D0 E0 =>
 RR (sOp (.indexAddr 24 (.const p0) (.const c0)) 0) E0 fun F0 G0 =>
 RR (sOp (.fieldAddr 44 (.const F0) 0) 0) G0 fun H0 I0 =>
 RR (sOp (.fieldAddr 42 (.const H0) 2) 0) I0 fun J0 K0 =>
 RR (sOp (.store 9 (.const J0) (.const D0)) 0) K0 fun _ L0 =>
 RR (sBin .add 3 false true B0 (Value.int .i64 1)) L0 fun M0 N0 =>
 RR (sOp (.indexAddr 24 (.const p0) (.const c0)) 0) N0 fun O0 P0 =>
 RR (sOp (.fieldAddr 44 (.const O0) 0) 0) P0 fun Q0 S0 =>
 RR (sOp (.fieldAddr 42 (.const Q0) 3) 0) S0 fun T0 U0 =>
 RR (sOp (.load 40 (.const T0)) 40) U0 fun V0 W0 =>
 RR (sCall (Value.func (.func 26) #[] #[]) [V0, M0]) W0 fun X0 Y0 =>
 RR (sOp (.indexAddr 24 (.const p0) (.const c0)) 0) Y0 fun Z0 a1 =>
 RR (sOp (.fieldAddr 44 (.const Z0) 1) 0) a1 fun b1 c1 =>
 RR (sOp (.load 40 (.const b1)) 40) c1 fun d1 e1 =>
 RR (sCall (Value.func (.func 26) #[] #[]) [d1, X0]) e1 fun f1 g1 =>
 RR (sBin .add 3 false true c0 (Value.int .i64 1)) g1 fun h1 i1 =>
 a0 h1 f1 i1 ∧ b0 h1 f1 i1 < b0 c0 d0 e0) (
 R (.returned d0) i0))
theorem calls_l_markClauseS {p0 p1 : Value} {w : World} {R : Ending → World → Prop} (h : sh_l_markClauseS p0 p1 w R) : Calls Tryz.prog 9 #[p0, p1] w R :=
  calls_sh (.seq none .leaf (.seq none (.seq none .leaf (.one (.loop [5, 1] .leaf))) .leaf)) [p0, p1] mixed Tryz.func9 (by kernel_rfl) (by kernel_rfl) h


/- loop.example/prologserver/laws.heldClauseS : function 10 -/
def sh_l_heldClauseS (p0 p1 : Value) (w : World) (R : Ending → World → Prop) : Prop :=
 (∃ (a0 : Value → Value → World → Prop) (b0 : Value → Value → World → Nat), a0 (Value.int .i64 0) p1 w ∧
 ∀ c0 _ _ _ _ _ _ _ _ _ _ _ _ _ _ _ _ _ _ _ _ _ _ _ d0 e0 f0 g0 h0 i0 j0 k0 l0 _ _ _ _ _ _ _ _ _ _ m0 _ _ _ _ _ _ _ _ _ _ _ _ _ _ _ : Value, ∀ n0 : World, a0 c0 m0 n0 →
 RR (sBuiltin .len #[24] 3 [false] [p0]) n0 fun o0 q0 =>
 RR (sBin .lss 3 false false c0 o0) q0 fun s0 t0 =>
 CondV s0 (
 RR (sOp (.indexAddr 24 (.const p0) (.const c0)) 0) t0 fun u0 v0 =>
 RR (sOp (.fieldAddr 44 (.const u0) 0) 0) v0 fun w0 x0 =>
 RR (sOp (.fieldAddr 42 (.const w0) 0) 0) x0 fun y0 z0 =>
 RR (sOp (.load 3 (.const y0)) 3) z0 fun A0 B0 =>
 RR (sBin .neq 3 false false A0 m0) B0 fun C0 D0 =>
 CondV C0 (
 R (.returned (Value.int .i64 (-1))) D0) (
 RR (sBin .add 3 false true m0 (Value.int .i64 1)) D0 fun E0 F0 =>
 RR (sOp (.indexAddr 24 (.const p0) (.const c0)) 0) F0 fun G0 H0 =>
 RR (sOp (.fieldAddr 44 (.const G0) 0) 0) H0 fun I0 J0 =>
 RR (sOp (.fieldAddr 42 (.const I0) 1) 0) J0 fun K0 L0 =>
 RR (sOp (.load 3 (.const K0)) 3) L0 fun M0 N0 =>
 RR (sBin .neq 3 false false M0 E0) N0 fun O0 P0 =>
 CondV O0 (
 R (.returned (Value.int .i64 (-1))) P0) (
 RR (sBin .add 3 false true E0 (Value.int .i64 1)) P0 fun Q0 S0 =>
 (∃ T0 : (Nat → Bool) → Value → Value → Value → Value → Value → Value → Value → Value → Value → World → Prop, T0 (fun _ => false) d0 e0 f0 g0 h0 i0 j0 k0 l0 { S0 with drawn := S0.drawn + 1 } ∧ (
 (∀ U0 : Nat → Bool, U0 0 = false → ∀ V0 W0 X0 Y0 Z0 a1 b1 c1 d1 : Value, ∀ e1 : World, T0 U0 V0 W0 X0 Y0 Z0 a1 b1 c1 d1 e1 →
 T0 (setD U0 0) V0 W0 X0 Y0 Z0 a1 b1 c1 p0 e1) ∧
 (∀ U0 : Nat → Bool, U0 1 = false → ∀ V0 W0 X0 Y0 Z0 a1 b1 c1 d1 : Value, ∀ f1 : World, T0 U0 V0 W0 X0 Y0 Z0 a1 b1 c1 d1 f1 →
 T0 (setD U0 1) V0 W0 X0 Y0 Z0 a1 b1 c0 d1 f1) ∧
 (∀ U0 : Nat → Bool, U0 2 = false → U0 0 = true → U0 1 = true → ∀ V0 W0 X0 Y0 Z0 a1 b1 c1 d1 : Value, ∀ g1 : World, T0 U0 V0 W0 X0 Y0 Z0 a1 b1 c1 d1 g1 →
 RR (sOp (.indexAddr 24 (.const d1) (.const c1)) 0) g1 fun h1 i1 =>
 T0 (setD U0 2) V0 W0 X0 Y0 Z0 a1 h1 c1 d1 i1) ∧
 (∀ U0 : Nat → Bool, U0 3 = false → U0 2 = true → ∀ V0 W0 X0 Y0 Z0 a1 b1 c1 d1 : Value, ∀ j1 : World, T0 U0 V0 W0 X0 Y0 Z0 a1 b1 c1 d1 j1 →
 RR (sOp (.fieldAddr 44 (.const b1) 0) 0) j1 fun k1 l1 =>
 T0 (setD U0 3) V0 W0 X0 Y0 Z0 k1 b1 c1 d1 l1) ∧
 (∀ U0 : Nat → Bool, U0 4 = false → U0 3 = true → ∀ V0 W0 X0 Y0 Z0 a1 b1 c1 d1 : Value, ∀ m1 : World, T0 U0 V0 W0 X0 Y0 Z0 a1 b1 c1 d1 m1 →
 RR (sOp (.fieldAddr 42 (.const a1) 2) 0) m1 fun n1 o1 =>
 T0 (setD U0 4) V0 W0 X0 Y0 n1 a1 b1 c1 d1 o1) ∧
 (∀ U0 : Nat → Bool, U0 5 = false → U0 4 = true → ∀ V0 W0 X0 Y0 Z0 a1 b1 c1 d1 : Value, ∀ q1 : World, T0 U0 V0 W0 X0 Y0 Z0 a1 b1 c1 d1 q1 →
 RR (sOp (.load 9 (.const Z0)) 9) q1 fun s1 t1 =>
 T0 (setD U0 5) V0 W0 X0 s1 Z0 a1 b1 c1 d1 t1) ∧
 (∀ U0 : Nat → Bool, U0 6 = false → ∀ V0 W0 X0 Y0 Z0 a1 b1 c1 d1 : Value, ∀ u1 : World, T0 U0 V0 W0 X0 Y0 Z0 a1 b1 c1 d1 u1 →
 T0 (setD U0 6) V0 W0 Q0 Y0 Z0 a1 b1 c1 d1 u1) ∧
 (∀ U0 : Nat → Bool, U0 7 = false → U0 6 = true → ∀ V0 W0 X0 Y0 Z0 a1 b1 c1 d1 : Value, ∀ v1 : World, T0 U0 V0 W0 X0 Y0 Z0 a1 b1 c1 d1 v1 →
 RR (sCall (Value.func (.func 25) #[] #[]) [X0]) v1 fun w1 x1 =>
 T0 (setD U0 7) V0 w1 X0 Y0 Z0 a1 b1 c1 d1 x1) ∧
 (∀ U0 : Nat → Bool, U0 8 = false → U0 5 = true → U0 7 = true → ∀ V0 W0 X0 Y0 Z0 a1 b1 c1 d1 : Value, ∀ y1 : World, T0 U0 V0 W0 X0 Y0 Z0 a1 b1 c1 d1 y1 →
 RR (sBin .neq 9 false false Y0 W0) y1 fun z1 A1 =>
 T0 (setD U0 8) z1 W0 X0 Y0 Z0 a1 b1 c1 d1 A1) ∧
 True) ∧
 ∀ U0 : Nat → Bool, U0 8 = true → U0 7 = true → U0 6 = true → U0 5 = true → U0 4 = true → U0 3 = true → U0 2 = true → U0 1 = true → U0 0 = true → ∀ V0 W0 X0 Y0 Z0 a1 b1 c1 d1 : Value, ∀ B1 : World, T0 U0 V0 W0 X0 Y0 Z0 a1 b1 c1 d1 B1 →
 CondV V0 (
 R (.returned (Value.int .i64 (-1))) B1) (
 RR (sBin .add 3 false true Q0 (Value.int .i64 1)) B1 fun C1 D1 =>
 RR (sOp (.indexAddr 24 (.const p0) (.const c0)) 0) D1 fun E1 F1 =>
 RR (sOp (.fieldAddr 44 (.const E1) 0) 0) F1 fun G1 H1 =>
 RR (sOp (.fieldAddr 42 (.const G1) 3) 0) H1 fun I1 J1 =>
 RR (sOp (.load 40 (.const I1)) 40) J1 fun K1 L1 =>
 RR (sCall (Value.func (.func 27) #[] #[]) [K1, C1]) L1 fun M1 N1 =>
 RR (sBin .lss 3 false true M1 (Value.int .i64 0)) N1 fun O1 P1 =>
 CondV O1 (
 R (.returned (Value.int .i64 (-1))) P1) (
 RR (sOp (.indexAddr 24 (.const p0) (.const c0)) 0) P1 fun Q1 S1 =>
 RR (sOp (.fieldAddr 44 (.const Q1) 1) 0) S1 fun T1 U1 =>
 RR (sOp (.load 40 (.const T1)) 40) U1 fun V1 W1 =>
 RR (sCall (Value.func (.func 27) #[] #[]) [V1, M1]) W1 fun X1 Y1 =>
 RR (sBin .lss 3 false true X1 (Value.int .i64 0)) Y1 fun Z1 a2 =>
 CondV Z1 (
 R (.returned (Value.int .i64 (-1))) a2) (
 RR (sBin .add 3 false true c0 (Value.int .i64 1)) a2 fun b2 c2 =>
 a0 b2 X1 c2 ∧ b0 b2 X1 c2 < b0 c0 m0 n0))))))) (
 R (.returned m0) t0))
theorem calls_l_heldClauseS {p0 p1 : Value} {w : World} {R : Ending → World → Prop} (h : sh_l_heldClauseS p0 p1 w R) : Calls Tryz.prog 10 #[p0, p1] w R :=
  calls_sh (.seq none .leaf (.seq none (.seq none .leaf (.one (.loop [5, 1] .leaf))) .leaf)) [p0, p1] mixed Tryz.func10 (by kernel_rfl) (by kernel_rfl) h


/- loop.example/prologserver/laws.szClause : function 11 -/
def sh_l_szClause (p0 p1 : Value) (w : World) (R : Ending → World → Prop) : Prop :=
 RR (sOp (.box 36 (.const p0)) 0) w fun a0 b0 =>
 RR (sOp (.fieldAddr 36 (.const a0) 0) 0) b0 fun c0 d0 =>
 RR (sOp (.load 34 (.const c0)) 34) d0 fun e0 f0 =>
 RR (sCall (Value.func (.func 28) #[] #[]) [e0, p1]) f0 fun g0 h0 =>
 RR (sBin .lss 3 false true g0 (Value.int .i64 0)) h0 fun i0 j0 =>
 CondV i0 (
 R (.returned (Value.int .i64 (-1))) j0) (
 RR (sOp (.fieldAddr 36 (.const a0) 1) 0) j0 fun k0 l0 =>
 RR (sOp (.load 32 (.const k0)) 32) l0 fun m0 n0 =>
 RR (sCall (Value.func (.func 29) #[] #[]) [m0, g0]) n0 fun o0 q0 =>
 RR (sBin .lss 3 false true o0 (Value.int .i64 0)) q0 fun s0 t0 =>
 CondV s0 (
 R (.returned (Value.int .i64 (-1))) t0) (
 R (.returned o0) t0))
theorem calls_l_szClause {p0 p1 : Value} {w : World} {R : Ending → World → Prop} (h : sh_l_szClause p0 p1 w R) : Calls Tryz.prog 11 #[p0, p1] w R :=
  calls_sh .leaf [p0, p1] mixed Tryz.func11 (by kernel_rfl) (by kernel_rfl) h


/- loop.example/prologserver/spec.CanUnfold : function 12 -/
def sh_s_CanUnfold (p0 p1 : Value) (w : World) (R : Ending → World → Prop) : Prop :=
 (∃ a0 : Value → World → Prop, (
 RR (sCall (Value.func (.func 15) #[] #[]) [p0]) w fun b0 c0 =>
 RR (sOp (.unOp .not 4 (.const b0)) 4) c0 fun d0 e0 =>
 GuardV d0 false (
 RR (sBin .lss 3 false true p1 (Value.int .i64 0)) e0 fun f0 g0 =>
 RR (sOp (.pick (.const d0) (.const (Value.bool true)) (.const f0)) 4) g0 fun h0 i0 =>
 GuardV h0 false (
 RR (sBuiltin .len #[24] 3 [false] [p0]) i0 fun j0 k0 =>
 RR (sBin .geq 3 false false p1 j0) k0 fun l0 m0 =>
 RR (sOp (.pick (.const h0) (.const (Value.bool true)) (.const l0)) 4) m0 fun n0 o0 =>
 GuardV n0 false (
 RR (sOp (.indexAddr 24 (.const p0) (.const p1)) 0) o0 fun q0 s0 =>
 RR (sOp (.load 44 (.const q0)) 44) s0 fun t0 u0 =>
 RR (sCall (Value.func (.func 30) #[] #[]) [t0]) u0 fun v0 w0 =>
 RR (sOp (.unOp .not 4 (.const v0)) 4) w0 fun x0 y0 =>
 RR (sOp (.pick (.const n0) (.const (Value.bool true)) (.const x0)) 4) y0 fun z0 A0 =>
 a0 z0 A0) (
 RR (sOp (.pick (.const n0) (.const (Value.bool true)) (.const undef)) 4) o0 fun B0 C0 =>
 a0 B0 C0)) (
 RR (sOp (.pick (.const h0) (.const (Value.bool true)) (.const undef)) 4) i0 fun D0 E0 =>
 GuardV D0 false (
 RR (sOp (.indexAddr 24 (.const p0) (.const p1)) 0) E0 fun F0 G0 =>
 RR (sOp (.load 44 (.const F0)) 44) G0 fun H0 I0 =>
 RR (sCall (Value.func (.func 30) #[] #[]) [H0]) I0 fun J0 K0 =>
 RR (sOp (.unOp .not 4 (.const J0)) 4) K0 fun L0 M0 =>
 RR (sOp (.pick (.const D0) (.const (Value.bool true)) (.const L0)) 4) M0 fun N0 O0 =>
 a0 N0 O0) (
 RR (sOp (.pick (.const D0) (.const (Value.bool true)) (.const undef)) 4) E0 fun P0 Q0 =>
 a0 P0 Q0))) (
 RR (sOp (.pick (.const d0) (.const (Value.bool true)) (.const undef)) 4) e0 fun S0 T0 =>
 GuardV S0 false (
 RR (sBuiltin .len #[24] 3 [false] [p0]) T0 fun U0 V0 =>
 RR (sBin .geq 3 false false p1 U0) V0 fun W0 X0 =>
 RR (sOp (.pick (.const S0) (.const (Value.bool true)) (.const W0)) 4) X0 fun Y0 Z0 =>
 GuardV Y0 false (
 RR (sOp (.indexAddr 24 (.const p0) (.const p1)) 0) Z0 fun a1 b1 =>
 RR (sOp (.load 44 (.const a1)) 44) b1 fun c1 d1 =>
 RR (sCall (Value.func (.func 30) #[] #[]) [c1]) d1 fun e1 f1 =>
 RR (sOp (.unOp .not 4 (.const e1)) 4) f1 fun g1 h1 =>
 RR (sOp (.pick (.const Y0) (.const (Value.bool true)) (.const g1)) 4) h1 fun i1 j1 =>
 a0 i1 j1) (
 RR (sOp (.pick (.const Y0) (.const (Value.bool true)) (.const undef)) 4) Z0 fun k1 l1 =>
 a0 k1 l1)) (
 RR (sOp (.pick (.const S0) (.const (Value.bool true)) (.const undef)) 4) T0 fun m1 n1 =>
 GuardV m1 false (
 RR (sOp (.indexAddr 24 (.const p0) (.const p1)) 0) n1 fun o1 q1 =>
 RR (sOp (.load 44 (.const o1)) 44) q1 fun s1 t1 =>
 RR (sCall (Value.func (.func 30) #[] #[]) [s1]) t1 fun u1 v1 =>
 RR (sOp (.unOp .not 4 (.const u1)) 4) v1 fun w1 x1 =>
 RR (sOp (.pick (.const m1) (.const (Value.bool true)) (.const w1)) 4) x1 fun y1 z1 =>
 a0 y1 z1) (
 RR (sOp (.pick (.const m1) (.const (Value.bool true)) (.const undef)) 4) n1 fun A1 B1 =>
 a0 A1 B1)))) ∧
 ∀ C1 _ _ _ _ _ _ _ _ _ _ _ _ _ _ _ _ _ _ _ _ : Value, ∀ D1 : World, a0 C1 D1 →
 CondV C1 (
 R (.returned (Value.bool false)) D1) (
 RR (sOp (.indexAddr 24 (.const p0) (.const p1)) 0) D1 fun E1 F1 =>
 RR (sOp (.fieldAddr 44 (.const E1) 1) 0) F1 fun G1 H1 =>
 RR (sOp (.load 40 (.const G1)) 40) H1 fun I1 J1 =>
 RR (sOp (.indexAddr 40 (.const I1) (.const (Value.int .i64 0))) 0) J1 fun K1 L1 =>
 RR (sOp (.load 42 (.const K1)) 42) L1 fun M1 N1 =>
 RR (sCall (Value.func (.func 13) #[] #[]) [p0, M1]) N1 fun O1 P1 =>
 (∃ (Q1 : Value → World → Prop) (S1 : Value → World → Nat), Q1 (Value.int .i64 0) P1 ∧
 ∀ T1 _ _ _ _ _ _ _ _ _ _ _ _ _ _ _ _ _ _ _ _ _ _ _ : Value, ∀ U1 : World, Q1 T1 U1 →
 RR (sBuiltin .len #[38] 3 [false] [O1]) U1 fun V1 W1 =>
 RR (sBin .lss 3 false false T1 V1) W1 fun X1 Y1 =>
 CondV X1 (
 (∃ Z1 : Value → World → Prop, (
 RR (sOp (.indexAddr 38 (.const O1) (.const T1)) 0) Y1 fun a2 b2 =>
 RR (sOp (.load 3 (.const a2)) 3) b2 fun c2 d2 =>
 RR (sOp (.indexAddr 24 (.const p0) (.const c2)) 0) d2 fun e2 f2 =>
 RR (sOp (.load 44 (.const e2)) 44) f2 fun g2 h2 =>
 RR (sCall (Value.func (.func 31) #[] #[]) [g2]) h2 fun i2 j2 =>
 GuardV i2 false (
 RR (sOp (.indexAddr 38 (.const O1) (.const T1)) 0) j2 fun k2 l2 =>
 RR (sOp (.load 3 (.const k2)) 3) l2 fun m2 n2 =>
 RR (sBin .eql 3 false false m2 p1) n2 fun o2 q2 =>
 RR (sOp (.pick (.const i2) (.const (Value.bool true)) (.const o2)) 4) q2 fun s2 t2 =>
 Z1 s2 t2) (
 RR (sOp (.pick (.const i2) (.const (Value.bool true)) (.const undef)) 4) j2 fun u2 v2 =>
 Z1 u2 v2)) ∧
 ∀ w2 _ _ _ _ _ _ _ _ _ _ _ _ _ _ _ : Value, ∀ x2 : World, Z1 w2 x2 →
 CondV w2 (
 R (.returned (Value.bool false)) x2) (
 RR (sBin .add 3 false true T1 (Value.int .i64 1)) x2 fun y2 z2 =>
 Q1 y2 z2 ∧ S1 y2 z2 < S1 T1 U1))) (
 RR (sBuiltin .len #[38] 3 [false] [O1]) Y1 fun A2 B2 =>
 RR (sBin .gtr 3 false true A2 (Value.int .i64 0)) B2 fun C2 D2 =>
 GuardV C2 true (
 RR (sOp (.indexAddr 24 (.const p0) (.const p1)) 0) D2 fun E2 F2 =>
 RR (sOp (.load 44 (.const E2)) 44) F2 fun G2 H2 =>
 RR (sCall (Value.func (.func 31) #[] #[]) [G2]) H2 fun I2 J2 =>
 RR (sOp (.unOp .not 4 (.const I2)) 4) J2 fun K2 L2 =>
 RR (sOp (.pick (.const C2) (.const K2) (.const (Value.bool false))) 4) L2 fun M2 N2 =>
 R (.returned M2) N2) (
 RR (sOp (.pick (.const C2) (.const undef) (.const (Value.bool false))) 4) D2 fun O2 P2 =>
 R (.returned O2) P2)))))
theorem calls_s_CanUnfold {p0 p1 : Value} {w : World} {R : Ending → World → Prop} (h : sh_s_CanUnfold p0 p1 w R) : Calls Tryz.prog 12 #[p0, p1] w R :=
  calls_sh (.seq none .leaf (.seq none (.seq (some [27]) .leaf .leaf) (.seq none .leaf (.seq none (.seq none .leaf (.one (.loop [6] (.seq none .leaf (.seq none (.one (.seq (some [58]) .leaf .leaf)) .leaf))))) .leaf)))) [p0, p1] mixed Tryz.func12 (by kernel_rfl) (by kernel_rfl) h


/- loop.example/prologserver/spec.l4For : function 13 -/
def sh_s_l4For (p0 p1 : Value) (w : World) (R : Ending → World → Prop) : Prop :=
 RR (sOp (.box 42 (.const p1)) 0) w fun a0 b0 =>
 RR (sBuildSlice 38 0 []) b0 fun c0 d0 =>
 (∃ (e0 : Value → Value → World → Prop) (f0 : Value → Value → World → Nat), e0 (Value.int .i64 0) c0 d0 ∧
 ∀ g0 _ _ h0 _ _ _ _ i0 j0 k0 l0 m0 n0 o0 q0 s0 t0 u0 v0 w0 x0 y0 z0 A0 B0 C0 D0 E0 F0 _ _ _ _ : Value, ∀ G0 : World, e0 g0 h0 G0 →
 RR (sBuiltin .len #[24] 3 [false] [p0]) G0 fun H0 I0 =>
 RR (sBin .lss 3 false false g0 H0) I0 fun J0 K0 =>
 CondV J0 (
 (∃ L0 : Value → World → Prop, (
 (∃ M0 : (Nat → Bool) → Value → Value → Value → Value → Value → Value → Value → Value → Value → Value → Value → Value → Value → Value → Value → Value → Value → Value → Value → Value → Value → Value → World → Prop, M0 (fun _ => false) i0 j0 k0 l0 m0 n0 o0 q0 s0 t0 u0 v0 w0 x0 y0 z0 A0 B0 C0 D0 E0 F0 { K0 with drawn := K0.drawn + 1 } ∧ (
 (∀ N0 : Nat → Bool, N0 0 = false → ∀ O0 P0 Q0 S0 T0 U0 V0 W0 X0 Y0 Z0 a1 b1 c1 d1 e1 f1 g1 h1 i1 j1 k1 : Value, ∀ l1 : World, M0 N0 O0 P0 Q0 S0 T0 U0 V0 W0 X0 Y0 Z0 a1 b1 c1 d1 e1 f1 g1 h1 i1 j1 k1 l1 →
 M0 (setD N0 0) O0 P0 Q0 S0 T0 U0 V0 W0 X0 Y0 Z0 a1 b1 c1 d1 e1 f1 g1 h1 i1 j1 p0 l1) ∧
 (∀ N0 : Nat → Bool, N0 1 = false → ∀ O0 P0 Q0 S0 T0 U0 V0 W0 X0 Y0 Z0 a1 b1 c1 d1 e1 f1 g1 h1 i1 j1 k1 : Value, ∀ m1 : World, M0 N0 O0 P0 Q0 S0 T0 U0 V0 W0 X0 Y0 Z0 a1 b1 c1 d1 e1 f1 g1 h1 i1 j1 k1 m1 →
 M0 (setD N0 1) O0 P0 Q0 S0 T0 U0 V0 W0 X0 Y0 Z0 a1 b1 c1 d1 e1 f1 g1 h1 i1 g0 k1 m1) ∧
 (∀ N0 : Nat → Bool, N0 2 = false → N0 0 = true → N0 1 = true → ∀ O0 P0 Q0 S0 T0 U0 V0 W0 X0 Y0 Z0 a1 b1 c1 d1 e1 f1 g1 h1 i1 j1 k1 : Value, ∀ n1 : World, M0 N0 O0 P0 Q0 S0 T0 U0 V0 W0 X0 Y0 Z0 a1 b1 c1 d1 e1 f1 g1 h1 i1 j1 k1 n1 →
 RR (sOp (.indexAddr 24 (.const k1) (.const j1)) 0) n1 fun o1 q1 =>
 M0 (setD N0 2) O0 P0 Q0 S0 T0 U0 V0 W0 X0 Y0 Z0 a1 b1 c1 d1 e1 f1 g1 h1 o1 j1 k1 q1) ∧
 (∀ N0 : Nat → Bool, N0 3 = false → N0 2 = true → ∀ O0 P0 Q0 S0 T0 U0 V0 W0 X0 Y0 Z0 a1 b1 c1 d1 e1 f1 g1 h1 i1 j1 k1 : Value, ∀ s1 : World, M0 N0 O0 P0 Q0 S0 T0 U0 V0 W0 X0 Y0 Z0 a1 b1 c1 d1 e1 f1 g1 h1 i1 j1 k1 s1 →
 RR (sOp (.fieldAddr 44 (.const i1) 0) 0) s1 fun t1 u1 =>
 M0 (setD N0 3) O0 P0 Q0 S0 T0 U0 V0 W0 X0 Y0 Z0 a1 b1 c1 d1 e1 f1 g1 t1 i1 j1 k1 u1) ∧
 (∀ N0 : Nat → Bool, N0 4 = false → N0 3 = true → ∀ O0 P0 Q0 S0 T0 U0 V0 W0 X0 Y0 Z0 a1 b1 c1 d1 e1 f1 g1 h1 i1 j1 k1 : Value, ∀ v1 : World, M0 N0 O0 P0 Q0 S0 T0 U0 V0 W0 X0 Y0 Z0 a1 b1 c1 d1 e1 f1 g1 h1 i1 j1 k1 v1 →
 RR (sOp (.fieldAddr 42 (.const h1) 2) 0) v1 fun w1 x1 =>
 M0 (setD N0 4) O0 P0 Q0 S0 T0 U0 V0 W0 X0 Y0 Z0 a1 b1 c1 d1 e1 f1 w1 h1 i1 j1 k1 x1) ∧
 (∀ N0 : Nat → Bool, N0 5 = false → N0 4 = true → ∀ O0 P0 Q0 S0 T0 U0 V0 W0 X0 Y0 Z0 a1 b1 c1 d1 e1 f1 g1 h1 i1 j1 k1 : Value, ∀ y1 : World, M0 N0 O0 P0 Q0 S0 T0 U0 V0 W0 X0 Y0 Z0 a1 b1 c1 d1 e1 f1 g1 h1 i1 j1 k1 y1 →
 RR (sOp (.load 9 (.const g1)) 9) y1 fun z1 A1 =>
 M0 (setD N0 5) O0 P0 Q0 S0 T0 U0 V0 W0 X0 Y0 Z0 a1 b1 c1 d1 e1 z1 g1 h1 i1 j1 k1 A1) ∧
 (∀ N0 : Nat → Bool, N0 6 = false → ∀ O0 P0 Q0 S0 T0 U0 V0 W0 X0 Y0 Z0 a1 b1 c1 d1 e1 f1 g1 h1 i1 j1 k1 : Value, ∀ B1 : World, M0 N0 O0 P0 Q0 S0 T0 U0 V0 W0 X0 Y0 Z0 a1 b1 c1 d1 e1 f1 g1 h1 i1 j1 k1 B1 →
 RR (sOp (.fieldAddr 42 (.const a0) 2) 0) B1 fun C1 D1 =>
 M0 (setD N0 6) O0 P0 Q0 S0 T0 U0 V0 W0 X0 Y0 Z0 a1 b1 c1 d1 C1 f1 g1 h1 i1 j1 k1 D1) ∧
 (∀ N0 : Nat → Bool, N0 7 = false → N0 6 = true → ∀ O0 P0 Q0 S0 T0 U0 V0 W0 X0 Y0 Z0 a1 b1 c1 d1 e1 f1 g1 h1 i1 j1 k1 : Value, ∀ E1 : World, M0 N0 O0 P0 Q0 S0 T0 U0 V0 W0 X0 Y0 Z0 a1 b1 c1 d1 e1 f1 g1 h1 i1 j1 k1 E1 →
 RR (sOp (.load 9 (.const e1)) 9) E1 fun F1 G1 =>
 M0 (setD N0 7) O0 P0 Q0 S0 T0 U0 V0 W0 X0 Y0 Z0 a1 b1 c1 F1 e1 f1 g1 h1 i1 j1 k1 G1) ∧
 (∀ N0 : Nat → Bool, N0 8 = false → N0 5 = true → N0 7 = true → ∀ O0 P0 Q0 S0 T0 U0 V0 W0 X0 Y0 Z0 a1 b1 c1 d1 e1 f1 g1 h1 i1 j1 k1 : Value, ∀ H1 : World, M0 N0 O0 P0 Q0 S0 T0 U0 V0 W0 X0 Y0 Z0 a1 b1 c1 d1 e1 f1 g1 h1 i1 j1 k1 H1 →
 RR (sBin .eql 9 false false f1 d1) H1 fun I1 J1 =>
 M0 (setD N0 8) O0 P0 Q0 S0 T0 U0 V0 W0 X0 Y0 Z0 a1 b1 I1 d1 e1 f1 g1 h1 i1 j1 k1 J1) ∧
 (∀ N0 : Nat → Bool, N0 9 = false → N0 8 = true → ∀ O0 P0 Q0 S0 T0 U0 V0 W0 X0 Y0 Z0 a1 b1 c1 d1 e1 f1 g1 h1 i1 j1 k1 : Value, ∀ K1 : World, M0 N0 O0 P0 Q0 S0 T0 U0 V0 W0 X0 Y0 Z0 a1 b1 c1 d1 e1 f1 g1 h1 i1 j1 k1 K1 →
 M0 (setD N0 9) O0 P0 Q0 S0 T0 U0 V0 W0 X0 Y0 Z0 a1 c1 c1 d1 e1 f1 g1 h1 i1 j1 k1 K1) ∧
 (∀ N0 : Nat → Bool, N0 10 = false → N0 9 = true → ∀ O0 P0 Q0 S0 T0 U0 V0 W0 X0 Y0 Z0 a1 b1 c1 d1 e1 f1 g1 h1 i1 j1 k1 : Value, ∀ L1 : World, M0 N0 O0 P0 Q0 S0 T0 U0 V0 W0 X0 Y0 Z0 a1 b1 c1 d1 e1 f1 g1 h1 i1 j1 k1 L1 →
 GuardV b1 true (M0 (setD N0 10) O0 P0 Q0 S0 T0 U0 V0 W0 X0 Y0 Z0 p0 b1 c1 d1 e1 f1 g1 h1 i1 j1 k1 L1) (M0 (setD N0 10) O0 P0 Q0 S0 T0 U0 V0 W0 X0 Y0 Z0 undef b1 c1 d1 e1 f1 g1 h1 i1 j1 k1 L1)) ∧
 (∀ N0 : Nat → Bool, N0 11 = false → N0 9 = true → ∀ O0 P0 Q0 S0 T0 U0 V0 W0 X0 Y0 Z0 a1 b1 c1 d1 e1 f1 g1 h1 i1 j1 k1 : Value, ∀ M1 : World, M0 N0 O0 P0 Q0 S0 T0 U0 V0 W0 X0 Y0 Z0 a1 b1 c1 d1 e1 f1 g1 h1 i1 j1 k1 M1 →
 GuardV b1 true (M0 (setD N0 11) O0 P0 Q0 S0 T0 U0 V0 W0 X0 Y0 g0 a1 b1 c1 d1 e1 f1 g1 h1 i1 j1 k1 M1) (M0 (setD N0 11) O0 P0 Q0 S0 T0 U0 V0 W0 X0 Y0 undef a1 b1 c1 d1 e1 f1 g1 h1 i1 j1 k1 M1)) ∧
 (∀ N0 : Nat → Bool, N0 12 = false → N0 10 = true → N0 11 = true → N0 9 = true → ∀ O0 P0 Q0 S0 T0 U0 V0 W0 X0 Y0 Z0 a1 b1 c1 d1 e1 f1 g1 h1 i1 j1 k1 : Value, ∀ N1 : World, M0 N0 O0 P0 Q0 S0 T0 U0 V0 W0 X0 Y0 Z0 a1 b1 c1 d1 e1 f1 g1 h1 i1 j1 k1 N1 →
 GuardV b1 true (RR (sOp (.indexAddr 24 (.const a1) (.const Z0)) 0) N1 fun O1 P1 =>
 M0 (setD N0 12) O0 P0 Q0 S0 T0 U0 V0 W0 X0 O1 Z0 a1 b1 c1 d1 e1 f1 g1 h1 i1 j1 k1 P1) (M0 (setD N0 12) O0 P0 Q0 S0 T0 U0 V0 W0 X0 undef Z0 a1 b1 c1 d1 e1 f1 g1 h1 i1 j1 k1 N1)) ∧
 (∀ N0 : Nat → Bool, N0 13 = false → N0 12 = true → N0 9 = true → ∀ O0 P0 Q0 S0 T0 U0 V0 W0 X0 Y0 Z0 a1 b1 c1 d1 e1 f1 g1 h1 i1 j1 k1 : Value, ∀ Q1 : World, M0 N0 O0 P0 Q0 S0 T0 U0 V0 W0 X0 Y0 Z0 a1 b1 c1 d1 e1 f1 g1 h1 i1 j1 k1 Q1 →
 GuardV b1 true (RR (sOp (.fieldAddr 44 (.const Y0) 0) 0) Q1 fun S1 T1 =>
 M0 (setD N0 13) O0 P0 Q0 S0 T0 U0 V0 W0 S1 Y0 Z0 a1 b1 c1 d1 e1 f1 g1 h1 i1 j1 k1 T1) (M0 (setD N0 13) O0 P0 Q0 S0 T0 U0 V0 W0 undef Y0 Z0 a1 b1 c1 d1 e1 f1 g1 h1 i1 j1 k1 Q1)) ∧
 (∀ N0 : Nat → Bool, N0 14 = false → N0 13 = true → N0 9 = true → ∀ O0 P0 Q0 S0 T0 U0 V0 W0 X0 Y0 Z0 a1 b1 c1 d1 e1 f1 g1 h1 i1 j1 k1 : Value, ∀ U1 : World, M0 N0 O0 P0 Q0 S0 T0 U0 V0 W0 X0 Y0 Z0 a1 b1 c1 d1 e1 f1 g1 h1 i1 j1 k1 U1 →
 GuardV b1 true (RR (sOp (.fieldAddr 42 (.const X0) 3) 0) U1 fun V1 W1 =>
 M0 (setD N0 14) O0 P0 Q0 S0 T0 U0 V0 V1 X0 Y0 Z0 a1 b1 c1 d1 e1 f1 g1 h1 i1 j1 k1 W1) (M0 (setD N0 14) O0 P0 Q0 S0 T0 U0 V0 undef X0 Y0 Z0 a1 b1 c1 d1 e1 f1 g1 h1 i1 j1 k1 U1)) ∧
 (∀ N0 : Nat → Bool, N0 15 = false → N0 14 = true → N0 9 = true → ∀ O0 P0 Q0 S0 T0 U0 V0 W0 X0 Y0 Z0 a1 b1 c1 d1 e1 f1 g1 h1 i1 j1 k1 : Value, ∀ X1 : World, M0 N0 O0 P0 Q0 S0 T0 U0 V0 W0 X0 Y0 Z0 a1 b1 c1 d1 e1 f1 g1 h1 i1 j1 k1 X1 →
 GuardV b1 true (RR (sOp (.load 40 (.const W0)) 40) X1 fun Y1 Z1 =>
 M0 (setD N0 15) O0 P0 Q0 S0 T0 U0 Y1 W0 X0 Y0 Z0 a1 b1 c1 d1 e1 f1 g1 h1 i1 j1 k1 Z1) (M0 (setD N0 15) O0 P0 Q0 S0 T0 U0 undef W0 X0 Y0 Z0 a1 b1 c1 d1 e1 f1 g1 h1 i1 j1 k1 X1)) ∧
 (∀ N0 : Nat → Bool, N0 16 = false → N0 15 = true → N0 9 = true → ∀ O0 P0 Q0 S0 T0 U0 V0 W0 X0 Y0 Z0 a1 b1 c1 d1 e1 f1 g1 h1 i1 j1 k1 : Value, ∀ a2 : World, M0 N0 O0 P0 Q0 S0 T0 U0 V0 W0 X0 Y0 Z0 a1 b1 c1 d1 e1 f1 g1 h1 i1 j1 k1 a2 →
 GuardV b1 true (RR (sBuiltin .len #[40] 3 [false] [V0]) a2 fun b2 c2 =>
 M0 (setD N0 16) O0 P0 Q0 S0 T0 b2 V0 W0 X0 Y0 Z0 a1 b1 c1 d1 e1 f1 g1 h1 i1 j1 k1 c2) (M0 (setD N0 16) O0 P0 Q0 S0 T0 undef V0 W0 X0 Y0 Z0 a1 b1 c1 d1 e1 f1 g1 h1 i1 j1 k1 a2)) ∧
 (∀ N0 : Nat → Bool, N0 17 = false → N0 9 = true → ∀ O0 P0 Q0 S0 T0 U0 V0 W0 X0 Y0 Z0 a1 b1 c1 d1 e1 f1 g1 h1 i1 j1 k1 : Value, ∀ d2 : World, M0 N0 O0 P0 Q0 S0 T0 U0 V0 W0 X0 Y0 Z0 a1 b1 c1 d1 e1 f1 g1 h1 i1 j1 k1 d2 →
 GuardV b1 true (RR (sOp (.fieldAddr 42 (.const a0) 3) 0) d2 fun e2 f2 =>
 M0 (setD N0 17) O0 P0 Q0 S0 e2 U0 V0 W0 X0 Y0 Z0 a1 b1 c1 d1 e1 f1 g1 h1 i1 j1 k1 f2) (M0 (setD N0 17) O0 P0 Q0 S0 undef U0 V0 W0 X0 Y0 Z0 a1 b1 c1 d1 e1 f1 g1 h1 i1 j1 k1 d2)) ∧
 (∀ N0 : Nat → Bool, N0 18 = false → N0 17 = true → N0 9 = true → ∀ O0 P0 Q0 S0 T0 U0 V0 W0 X0 Y0 Z0 a1 b1 c1 d1 e1 f1 g1 h1 i1 j1 k1 : Value, ∀ g2 : World, M0 N0 O0 P0 Q0 S0 T0 U0 V0 W0 X0 Y0 Z0 a1 b1 c1 d1 e1 f1 g1 h1 i1 j1 k1 g2 →
 GuardV b1 true (RR (sOp (.load 40 (.const T0)) 40) g2 fun h2 i2 =>
 M0 (setD N0 18) O0 P0 Q0 h2 T0 U0 V0 W0 X0 Y0 Z0 a1 b1 c1 d1 e1 f1 g1 h1 i1 j1 k1 i2) (M0 (setD N0 18) O0 P0 Q0 undef T0 U0 V0 W0 X0 Y0 Z0 a1 b1 c1 d1 e1 f1 g1 h1 i1 j1 k1 g2)) ∧
 (∀ N0 : Nat → Bool, N0 19 = false → N0 18 = true → N0 9 = true → ∀ O0 P0 Q0 S0 T0 U0 V0 W0 X0 Y0 Z0 a1 b1 c1 d1 e1 f1 g1 h1 i1 j1 k1 : Value, ∀ j2 : World, M0 N0 O0 P0 Q0 S0 T0 U0 V0 W0 X0 Y0 Z0 a1 b1 c1 d1 e1 f1 g1 h1 i1 j1 k1 j2 →
 GuardV b1 true (RR (sBuiltin .len #[40] 3 [false] [S0]) j2 fun k2 l2 =>
 M0 (setD N0 19) O0 P0 k2 S0 T0 U0 V0 W0 X0 Y0 Z0 a1 b1 c1 d1 e1 f1 g1 h1 i1 j1 k1 l2) (M0 (setD N0 19) O0 P0 undef S0 T0 U0 V0 W0 X0 Y0 Z0 a1 b1 c1 d1 e1 f1 g1 h1 i1 j1 k1 j2)) ∧
 (∀ N0 : Nat → Bool, N0 20 = false → N0 16 = true → N0 19 = true → N0 9 = true → ∀ O0 P0 Q0 S0 T0 U0 V0 W0 X0 Y0 Z0 a1 b1 c1 d1 e1 f1 g1 h1 i1 j1 k1 : Value, ∀ m2 : World, M0 N0 O0 P0 Q0 S0 T0 U0 V0 W0 X0 Y0 Z0 a1 b1 c1 d1 e1 f1 g1 h1 i1 j1 k1 m2 →
 GuardV b1 true (RR (sBin .eql 3 false false U0 Q0) m2 fun n2 o2 =>
 M0 (setD N0 20) O0 n2 Q0 S0 T0 U0 V0 W0 X0 Y0 Z0 a1 b1 c1 d1 e1 f1 g1 h1 i1 j1 k1 o2) (M0 (setD N0 20) O0 undef Q0 S0 T0 U0 V0 W0 X0 Y0 Z0 a1 b1 c1 d1 e1 f1 g1 h1 i1 j1 k1 m2)) ∧
 (∀ N0 : Nat → Bool, N0 21 = false → N0 9 = true → N0 20 = true → ∀ O0 P0 Q0 S0 T0 U0 V0 W0 X0 Y0 Z0 a1 b1 c1 d1 e1 f1 g1 h1 i1 j1 k1 : Value, ∀ q2 : World, M0 N0 O0 P0 Q0 S0 T0 U0 V0 W0 X0 Y0 Z0 a1 b1 c1 d1 e1 f1 g1 h1 i1 j1 k1 q2 →
 RR (sOp (.pick (.const b1) (.const P0) (.const (Value.bool false))) 4) q2 fun s2 t2 =>
 M0 (setD N0 21) s2 P0 Q0 S0 T0 U0 V0 W0 X0 Y0 Z0 a1 b1 c1 d1 e1 f1 g1 h1 i1 j1 k1 t2) ∧
 True) ∧
 ∀ N0 : Nat → Bool, N0 21 = true → N0 20 = true → N0 19 = true → N0 18 = true → N0 17 = true → N0 16 = true → N0 15 = true → N0 14 = true → N0 13 = true → N0 12 = true → N0 11 = true → N0 10 = true → N0 9 = true → N0 8 = true → N0 7 = true → N0 6 = true → N0 5 = true → N0 4 = true → N0 3 = true → N0 2 = true → N0 1 = true → N0 0 = true → ∀ O0 P0 Q0 S0 T0 U0 V0 W0 X0 Y0 Z0 a1 b1 c1 d1 e1 f1 g1 h1 i1 j1 k1 : Value, ∀ u2 : World, M0 N0 O0 P0 Q0 S0 T0 U0 V0 W0 X0 Y0 Z0 a1 b1 c1 d1 e1 f1 g1 h1 i1 j1 k1 u2 →
 CondV O0 (
 RR (sBuildSlice 38 1 [(0, g0)]) u2 fun v2 w2 =>
 RR (sBuiltin .append #[38, 38] 38 [false, false] [h0, v2]) w2 fun x2 y2 =>
 L0 x2 y2) (
 L0 h0 u2))) ∧
 ∀ z2 _ _ _ _ _ _ _ _ _ _ _ _ _ _ _ _ _ _ _ _ _ _ _ _ _ _ : Value, ∀ A2 : World, L0 z2 A2 →
 RR (sBin .add 3 false true g0 (Value.int .i64 1)) A2 fun B2 C2 =>
 e0 B2 z2 C2 ∧ f0 B2 z2 C2 < f0 g0 h0 G0)) (
 R (.returned h0) K0))
theorem calls_s_l4For {p0 p1 : Value} {w : World} {R : Ending → World → Prop} (h : sh_s_l4For p0 p1 w R) : Calls Tryz.prog 13 #[p0, p1] w R :=
  calls_sh (.seq none .leaf (.seq none .leaf (.seq none (.seq none .leaf (.one (.loop [6, 5] (.seq none .leaf (.seq (some [5]) .leaf .leaf))))) .leaf))) [p0, p1] mixed Tryz.func13 (by kernel_rfl) (by kernel_rfl) h


/- loop.example/prologserver/spec.l15Resolvent : function 14 -/
def sh_s_l15Resolvent (p0 p1 : Value) (w : World) (R : Ending → World → Prop) : Prop :=
 RR (sOp (.box 44 (.const p0)) 0) w fun a0 b0 =>
 RR (sOp (.box 44 (.const p1)) 0) b0 fun c0 d0 =>
 RR (sOp (.alloc 44) 0) d0 fun e0 f0 =>
 RR (sOp (.load 44 (.const c0)) 44) f0 fun g0 h0 =>
 RR (sCall (Value.func (.func 32) #[] #[]) [g0, (Value.int .i64 26)]) h0 fun i0 j0 =>
 RR (sOp (.alloc 44) 0) j0 fun k0 l0 =>
 RR (sOp (.store 44 (.const k0) (.const i0)) 0) l0 fun _u m0 =>
 RR (sBin .mul 3 true false (Value.int .i64 2) (Value.int .i64 26)) m0 fun n0 o0 =>
 RR (sOp (.makeSlice 40 (.const n0) (.const n0)) 40) o0 fun q0 s0 =>
 (∃ t0 : (Nat → Bool) → Value → Value → Value → Value → Value → Value → Value → Value → Value → World → Prop, t0 (fun _ => false) undef undef undef undef undef undef undef undef undef { s0 with drawn := s0.drawn + 1 } ∧ (
 (∀ u0 : Nat → Bool, u0 0 = false → ∀ v0 w0 x0 y0 z0 A0 B0 C0 D0 : Value, ∀ E0 : World, t0 u0 v0 w0 x0 y0 z0 A0 B0 C0 D0 E0 →
 RR (sOp (.fieldAddr 44 (.const a0) 1) 0) E0 fun F0 G0 =>
 t0 (setD u0 0) v0 w0 x0 y0 z0 A0 B0 C0 F0 G0) ∧
 (∀ u0 : Nat → Bool, u0 1 = false → u0 0 = true → ∀ v0 w0 x0 y0 z0 A0 B0 C0 D0 : Value, ∀ H0 : World, t0 u0 v0 w0 x0 y0 z0 A0 B0 C0 D0 H0 →
 RR (sOp (.load 40 (.const D0)) 40) H0 fun I0 J0 =>
 t0 (setD u0 1) v0 w0 x0 y0 z0 A0 B0 I0 D0 J0) ∧
 (∀ u0 : Nat → Bool, u0 2 = false → u0 1 = true → ∀ v0 w0 x0 y0 z0 A0 B0 C0 D0 : Value, ∀ K0 : World, t0 u0 v0 w0 x0 y0 z0 A0 B0 C0 D0 K0 →
 RR (sOp (.indexAddr 40 (.const C0) (.const (Value.int .i64 0))) 0) K0 fun L0 M0 =>
 t0 (setD u0 2) v0 w0 x0 y0 z0 A0 L0 C0 D0 M0) ∧
 (∀ u0 : Nat → Bool, u0 3 = false → u0 2 = true → ∀ v0 w0 x0 y0 z0 A0 B0 C0 D0 : Value, ∀ N0 : World, t0 u0 v0 w0 x0 y0 z0 A0 B0 C0 D0 N0 →
 RR (sOp (.load 42 (.const B0)) 42) N0 fun O0 P0 =>
 t0 (setD u0 3) v0 w0 x0 y0 z0 O0 B0 C0 D0 P0) ∧
 (∀ u0 : Nat → Bool, u0 4 = false → ∀ v0 w0 x0 y0 z0 A0 B0 C0 D0 : Value, ∀ Q0 : World, t0 u0 v0 w0 x0 y0 z0 A0 B0 C0 D0 Q0 →
 RR (sOp (.fieldAddr 44 (.const k0) 0) 0) Q0 fun S0 T0 =>
 t0 (setD u0 4) v0 w0 x0 y0 S0 A0 B0 C0 D0 T0) ∧
 (∀ u0 : Nat → Bool, u0 5 = false → u0 4 = true → ∀ v0 w0 x0 y0 z0 A0 B0 C0 D0 : Value, ∀ U0 : World, t0 u0 v0 w0 x0 y0 z0 A0 B0 C0 D0 U0 →
 RR (sOp (.load 42 (.const z0)) 42) U0 fun V0 W0 =>
 t0 (setD u0 5) v0 w0 x0 V0 z0 A0 B0 C0 D0 W0) ∧
 (∀ u0 : Nat → Bool, u0 6 = false → ∀ v0 w0 x0 y0 z0 A0 B0 C0 D0 : Value, ∀ X0 : World, t0 u0 v0 w0 x0 y0 z0 A0 B0 C0 D0 X0 →
 t0 (setD u0 6) v0 w0 q0 y0 z0 A0 B0 C0 D0 X0) ∧
 (∀ u0 : Nat → Bool, u0 7 = false → u0 3 = true → u0 5 = true → u0 6 = true → ∀ v0 w0 x0 y0 z0 A0 B0 C0 D0 : Value, ∀ Y0 : World, t0 u0 v0 w0 x0 y0 z0 A0 B0 C0 D0 Y0 →
 RR (sCall (Value.func (.func 33) #[] #[]) [A0, y0, x0]) Y0 fun Z0 a1 =>
 t0 (setD u0 7) v0 Z0 x0 y0 z0 A0 B0 C0 D0 a1) ∧
 (∀ u0 : Nat → Bool, u0 8 = false → u0 7 = true → ∀ v0 w0 x0 y0 z0 A0 B0 C0 D0 : Value, ∀ b1 : World, t0 u0 v0 w0 x0 y0 z0 A0 B0 C0 D0 b1 →
 RR (sOp (.unOp .not 4 (.const w0)) 4) b1 fun c1 d1 =>
 t0 (setD u0 8) c1 w0 x0 y0 z0 A0 B0 C0 D0 d1) ∧
 True) ∧
 ∀ u0 : Nat → Bool, u0 8 = true → u0 7 = true → u0 6 = true → u0 5 = true → u0 4 = true → u0 3 = true → u0 2 = true → u0 1 = true → u0 0 = true → ∀ v0 w0 x0 y0 z0 A0 B0 C0 D0 : Value, ∀ e1 : World, t0 u0 v0 w0 x0 y0 z0 A0 B0 C0 D0 e1 →
 CondV v0 (
 RR (sBuild 44 []) e1 fun f1 g1 =>
 RR (sOp (.store 44 (.const e0) (.const f1)) 0) g1 fun _u h1 =>
 (LoadV Tryz.prog 44 e0 h1 fun r0 => R (.returned (.tuple #[r0, (Value.bool false), (Value.bool true)])) h1)) (
 (∃ i1 : (Nat → Bool) → Value → Value → Value → Value → Value → Value → Value → Value → Value → Value → Value → World → Prop, i1 (fun _ => false) undef undef undef undef undef undef undef undef undef undef undef { e1 with drawn := e1.drawn + 1 } ∧ (
 (∀ j1 : Nat → Bool, j1 0 = false → ∀ k1 l1 m1 n1 o1 q1 s1 t1 u1 v1 w1 : Value, ∀ x1 : World, i1 j1 k1 l1 m1 n1 o1 q1 s1 t1 u1 v1 w1 x1 →
 RR (sOp (.fieldAddr 44 (.const a0) 0) 0) x1 fun y1 z1 =>
 i1 (setD j1 0) k1 l1 m1 n1 o1 q1 s1 t1 u1 v1 y1 z1) ∧
 (∀ j1 : Nat → Bool, j1 1 = false → j1 0 = true → ∀ k1 l1 m1 n1 o1 q1 s1 t1 u1 v1 w1 : Value, ∀ A1 : World, i1 j1 k1 l1 m1 n1 o1 q1 s1 t1 u1 v1 w1 A1 →
 RR (sOp (.load 42 (.const w1)) 42) A1 fun B1 C1 =>
 i1 (setD j1 1) k1 l1 m1 n1 o1 q1 s1 t1 u1 B1 w1 C1) ∧
 (∀ j1 : Nat → Bool, j1 2 = false → j1 1 = true → ∀ k1 l1 m1 n1 o1 q1 s1 t1 u1 v1 w1 : Value, ∀ D1 : World, i1 j1 k1 l1 m1 n1 o1 q1 s1 t1 u1 v1 w1 D1 →
 RR (sBuildSlice 40 1 [(0, v1)]) D1 fun E1 F1 =>
 i1 (setD j1 2) k1 l1 m1 n1 o1 q1 s1 t1 E1 v1 w1 F1) ∧
 (∀ j1 : Nat → Bool, j1 3 = false → ∀ k1 l1 m1 n1 o1 q1 s1 t1 u1 v1 w1 : Value, ∀ G1 : World, i1 j1 k1 l1 m1 n1 o1 q1 s1 t1 u1 v1 w1 G1 →
 RR (sOp (.fieldAddr 44 (.const k0) 1) 0) G1 fun H1 I1 =>
 i1 (setD j1 3) k1 l1 m1 n1 o1 q1 s1 H1 u1 v1 w1 I1) ∧
 (∀ j1 : Nat → Bool, j1 4 = false → j1 3 = true → ∀ k1 l1 m1 n1 o1 q1 s1 t1 u1 v1 w1 : Value, ∀ J1 : World, i1 j1 k1 l1 m1 n1 o1 q1 s1 t1 u1 v1 w1 J1 →
 RR (sOp (.load 40 (.const t1)) 40) J1 fun K1 L1 =>
 i1 (setD j1 4) k1 l1 m1 n1 o1 q1 K1 t1 u1 v1 w1 L1) ∧
 (∀ j1 : Nat → Bool, j1 5 = false → j1 2 = true → j1 4 = true → ∀ k1 l1 m1 n1 o1 q1 s1 t1 u1 v1 w1 : Value, ∀ M1 : World, i1 j1 k1 l1 m1 n1 o1 q1 s1 t1 u1 v1 w1 M1 →
 RR (sBuiltin .append #[40, 40] 40 [false, false] [u1, s1]) M1 fun N1 O1 =>
 i1 (setD j1 5) k1 l1 m1 n1 o1 N1 s1 t1 u1 v1 w1 O1) ∧
 (∀ j1 : Nat → Bool, j1 6 = false → ∀ k1 l1 m1 n1 o1 q1 s1 t1 u1 v1 w1 : Value, ∀ P1 : World, i1 j1 k1 l1 m1 n1 o1 q1 s1 t1 u1 v1 w1 P1 →
 RR (sOp (.fieldAddr 44 (.const a0) 1) 0) P1 fun Q1 S1 =>
 i1 (setD j1 6) k1 l1 m1 n1 Q1 q1 s1 t1 u1 v1 w1 S1) ∧
 (∀ j1 : Nat → Bool, j1 7 = false → j1 6 = true → ∀ k1 l1 m1 n1 o1 q1 s1 t1 u1 v1 w1 : Value, ∀ T1 : World, i1 j1 k1 l1 m1 n1 o1 q1 s1 t1 u1 v1 w1 T1 →
 RR (sOp (.load 40 (.const o1)) 40) T1 fun U1 V1 =>
 i1 (setD j1 7) k1 l1 m1 U1 o1 q1 s1 t1 u1 v1 w1 V1) ∧
 (∀ j1 : Nat → Bool, j1 8 = false → j1 7 = true → ∀ k1 l1 m1 n1 o1 q1 s1 t1 u1 v1 w1 : Value, ∀ W1 : World, i1 j1 k1 l1 m1 n1 o1 q1 s1 t1 u1 v1 w1 W1 →
 RR (sOp (.slice 40 (.const n1) (some (.const (Value.int .i64 1))) none none) 40) W1 fun X1 Y1 =>
 i1 (setD j1 8) k1 l1 X1 n1 o1 q1 s1 t1 u1 v1 w1 Y1) ∧
 (∀ j1 : Nat → Bool, j1 9 = false → j1 5 = true → j1 8 = true → j1 5 = true → ∀ k1 l1 m1 n1 o1 q1 s1 t1 u1 v1 w1 : Value, ∀ Z1 : World, i1 j1 k1 l1 m1 n1 o1 q1 s1 t1 u1 v1 w1 Z1 →
 RR (sBuiltin .append #[40, 40] 40 [false, false] [q1, m1]) Z1 fun a2 b2 =>
 i1 (setD j1 9) k1 a2 m1 n1 o1 q1 s1 t1 u1 v1 w1 b2) ∧
 (∀ j1 : Nat → Bool, j1 10 = false → j1 9 = true → j1 9 = true → j1 0 = true → j1 1 = true → j1 2 = true → j1 3 = true → j1 4 = true → j1 5 = true → j1 6 = true → j1 7 = true → j1 8 = true → j1 9 = true → ∀ k1 l1 m1 n1 o1 q1 s1 t1 u1 v1 w1 : Value, ∀ c2 : World, i1 j1 k1 l1 m1 n1 o1 q1 s1 t1 u1 v1 w1 c2 →
 i1 (setD j1 10) l1 l1 m1 n1 o1 q1 s1 t1 u1 v1 w1 c2) ∧
 True) ∧
 ∀ j1 : Nat → Bool, j1 10 = true → j1 9 = true → j1 8 = true → j1 7 = true → j1 6 = true → j1 5 = true → j1 4 = true → j1 3 = true → j1 2 = true → j1 1 = true → j1 0 = true → ∀ k1 l1 m1 n1 o1 q1 s1 t1 u1 v1 w1 : Value, ∀ d2 : World, i1 j1 k1 l1 m1 n1 o1 q1 s1 t1 u1 v1 w1 d2 →
 RR (sBuildSlice 40 0 []) d2 fun e2 f2 =>
 (∃ (g2 : Value → Value → World → Prop) (h2 : Value → Value → World → Nat), g2 (Value.int .i64 0) e2 f2 ∧
 ∀ i2 _ _ j2 _ _ _ _ k2 l2 _ _ _ _ _ _ _ _ _ _ _ _ _ _ _ _ _ _ : Value, ∀ m2 : World, g2 i2 j2 m2 →
 RR (sBuiltin .len #[40] 3 [false] [k1]) m2 fun n2 o2 =>
 RR (sBin .lss 3 false false i2 n2) o2 fun q2 s2 =>
 CondV q2 (
 RR (sOp (.indexAddr 40 (.const k1) (.const i2)) 0) s2 fun t2 u2 =>
 RR (sOp (.load 42 (.const t2)) 42) u2 fun v2 w2 =>
 RR (sCall (Value.func (.func 34) #[] #[]) [v2, q0]) w2 fun x2 y2 =>
 RR (sOp (.extract (.const x2) 0) 42) y2 fun z2 A2 =>
 RR (sOp (.extract (.const x2) 1) 4) A2 fun B2 C2 =>
 RR (sOp (.alloc 42) 0) C2 fun D2 E2 =>
 RR (sOp (.store 42 (.const D2) (.const z2)) 0) E2 fun _u F2 =>
 RR (sOp (.unOp .not 4 (.const B2)) 4) F2 fun G2 H2 =>
 CondV G2 (
 RR (sBuild 44 []) H2 fun I2 J2 =>
 RR (sOp (.store 44 (.const e0) (.const I2)) 0) J2 fun _u K2 =>
 (LoadV Tryz.prog 44 e0 K2 fun r0 => R (.returned (.tuple #[r0, (Value.bool true), (Value.bool false)])) K2)) (
 RR (sOp (.load 42 (.const D2)) 42) H2 fun L2 M2 =>
 RR (sBuildSlice 40 1 [(0, L2)]) M2 fun N2 O2 =>
 RR (sBuiltin .append #[40, 40] 40 [false, false] [j2, N2]) O2 fun P2 Q2 =>
 RR (sBin .add 3 false true i2 (Value.int .i64 1)) Q2 fun S2 T2 =>
 g2 S2 P2 T2 ∧ h2 S2 P2 T2 < h2 i2 j2 m2)) (
 RR (sCall (Value.func (.func 35) #[] #[]) [j2]) s2 fun U2 V2 =>
 (∃ W2 : (Nat → Bool) → Value → Value → Value → Value → Value → Value → Value → World → Prop, W2 (fun _ => false) undef undef undef undef undef undef undef { V2 with drawn := V2.drawn + 1 } ∧ (
 (∀ X2 : Nat → Bool, X2 0 = false → ∀ Y2 Z2 a3 b3 c3 d3 e3 : Value, ∀ f3 : World, W2 X2 Y2 Z2 a3 b3 c3 d3 e3 f3 →
 W2 (setD X2 0) Y2 Z2 a3 b3 c3 d3 U2 f3) ∧
 (∀ X2 : Nat → Bool, X2 1 = false → X2 0 = true → ∀ Y2 Z2 a3 b3 c3 d3 e3 : Value, ∀ g3 : World, W2 X2 Y2 Z2 a3 b3 c3 d3 e3 g3 →
 RR (sOp (.indexAddr 40 (.const e3) (.const (Value.int .i64 0))) 0) g3 fun h3 i3 =>
 W2 (setD X2 1) Y2 Z2 a3 b3 c3 h3 e3 i3) ∧
 (∀ X2 : Nat → Bool, X2 2 = false → X2 1 = true → ∀ Y2 Z2 a3 b3 c3 d3 e3 : Value, ∀ j3 : World, W2 X2 Y2 Z2 a3 b3 c3 d3 e3 j3 →
 RR (sOp (.load 42 (.const d3)) 42) j3 fun k3 l3 =>
 W2 (setD X2 2) Y2 Z2 a3 b3 k3 d3 e3 l3) ∧
 (∀ X2 : Nat → Bool, X2 3 = false → ∀ Y2 Z2 a3 b3 c3 d3 e3 : Value, ∀ m3 : World, W2 X2 Y2 Z2 a3 b3 c3 d3 e3 m3 →
 W2 (setD X2 3) Y2 Z2 a3 U2 c3 d3 e3 m3) ∧
 (∀ X2 : Nat → Bool, X2 4 = false → X2 3 = true → ∀ Y2 Z2 a3 b3 c3 d3 e3 : Value, ∀ n3 : World, W2 X2 Y2 Z2 a3 b3 c3 d3 e3 n3 →
 RR (sOp (.slice 40 (.const b3) (some (.const (Value.int .i64 1))) none none) 40) n3 fun o3 q3 =>
 W2 (setD X2 4) Y2 Z2 o3 b3 c3 d3 e3 q3) ∧
 (∀ X2 : Nat → Bool, X2 5 = false → X2 2 = true → X2 4 = true → ∀ Y2 Z2 a3 b3 c3 d3 e3 : Value, ∀ s3 : World, W2 X2 Y2 Z2 a3 b3 c3 d3 e3 s3 →
 RR (sBuild 44 [(0, c3), (1, a3)]) s3 fun t3 u3 =>
 W2 (setD X2 5) Y2 t3 a3 b3 c3 d3 e3 u3) ∧
 (∀ X2 : Nat → Bool, X2 6 = false → ∀ Y2 Z2 a3 b3 c3 d3 e3 : Value, ∀ v3 : World, W2 X2 Y2 Z2 a3 b3 c3 d3 e3 v3 →
 RR (sOp (.alloc 44) 0) v3 fun w3 x3 =>
 W2 (setD X2 6) w3 Z2 a3 b3 c3 d3 e3 x3) ∧
 (∀ X2 : Nat → Bool, X2 7 = false → X2 6 = true → X2 5 = true → X2 0 = true → X2 1 = true → X2 2 = true → X2 3 = true → X2 4 = true → X2 5 = true → X2 6 = true → ∀ Y2 Z2 a3 b3 c3 d3 e3 : Value, ∀ y3 : World, W2 X2 Y2 Z2 a3 b3 c3 d3 e3 y3 →
 RR (sOp (.store 44 (.const Y2) (.const Z2)) 0) y3 fun _u z3 =>
 W2 (setD X2 7) Y2 Z2 a3 b3 c3 d3 e3 z3) ∧
 True) ∧
 ∀ X2 : Nat → Bool, X2 7 = true → X2 6 = true → X2 5 = true → X2 4 = true → X2 3 = true → X2 2 = true → X2 1 = true → X2 0 = true → ∀ Y2 Z2 a3 b3 c3 d3 e3 : Value, ∀ A3 : World, W2 X2 Y2 Z2 a3 b3 c3 d3 e3 A3 →
 (∃ B3 : (Nat → Bool) → Value → Value → Value → Value → Value → World → Prop, B3 (fun _ => false) k2 l2 undef undef undef { A3 with drawn := A3.drawn + 1 } ∧ (
 (∀ C3 : Nat → Bool, C3 0 = false → ∀ D3 E3 F3 G3 H3 : Value, ∀ I3 : World, B3 C3 D3 E3 F3 G3 H3 I3 →
 RR (sOp (.load 44 (.const Y2)) 44) I3 fun J3 K3 =>
 B3 (setD C3 0) D3 E3 F3 G3 J3 K3) ∧
 (∀ C3 : Nat → Bool, C3 1 = false → ∀ D3 E3 F3 G3 H3 : Value, ∀ L3 : World, B3 C3 D3 E3 F3 G3 H3 L3 →
 RR (sOp (.load 44 (.const Y2)) 44) L3 fun M3 N3 =>
 B3 (setD C3 1) D3 E3 F3 M3 H3 N3) ∧
 (∀ C3 : Nat → Bool, C3 2 = false → C3 1 = true → ∀ D3 E3 F3 G3 H3 : Value, ∀ O3 : World, B3 C3 D3 E3 F3 G3 H3 O3 →
 RR (sCall (Value.func (.func 36) #[] #[]) [G3]) O3 fun P3 Q3 =>
 B3 (setD C3 2) D3 E3 P3 G3 H3 Q3) ∧
 (∀ C3 : Nat → Bool, C3 3 = false → C3 0 = true → C3 2 = true → C3 0 = true → ∀ D3 E3 F3 G3 H3 : Value, ∀ S3 : World, B3 C3 D3 E3 F3 G3 H3 S3 →
 RR (sOp (.store 44 (.const e0) (.const H3)) 0) S3 fun _ T3 =>
 B3 (setD C3 3) D3 E3 F3 G3 H3 T3) ∧
 (∀ C3 : Nat → Bool, C3 4 = false → C3 3 = true → C3 0 = true → C3 3 = true → ∀ D3 E3 F3 G3 H3 : Value, ∀ U3 : World, B3 C3 D3 E3 F3 G3 H3 U3 →
 B3 (setD C3 4) D3 (Value.bool true) F3 G3 H3 U3) ∧
 (∀ C3 : Nat → Bool, C3 5 = false → C3 2 = true → C3 4 = true → C3 0 = true → C3 1 = true → C3 2 = true → C3 3 = true → C3 4 = true → ∀ D3 E3 F3 G3 H3 : Value, ∀ V3 : World, B3 C3 D3 E3 F3 G3 H3 V3 →
 B3 (setD C3 5) F3 E3 F3 G3 H3 V3) ∧
 True) ∧
 ∀ C3 : Nat → Bool, C3 5 = true → C3 4 = true → C3 3 = true → C3 2 = true → C3 1 = true → C3 0 = true → ∀ D3 E3 F3 G3 H3 : Value, ∀ W3 : World, B3 C3 D3 E3 F3 G3 H3 W3 →
 (LoadV Tryz.prog 44 e0 W3 fun r0 => R (.returned (.tuple #[r0, E3, D3])) W3))))))))
theorem calls_s_l15Resolvent {p0 p1 : Value} {w : World} {R : Ending → World → Prop} (h : sh_s_l15Resolvent p0 p1 w R) : Calls Tryz.prog 14 #[p0, p1] w R :=
  calls_sh (.seq none .leaf (.seq none .leaf (.seq none .leaf (.seq none .leaf (.seq none .leaf (.seq none .leaf (.seq none .leaf (.seq none (.seq none .leaf (.one (.loop [12, 11] .leaf))) .leaf)))))))) [p0, p1] mixed Tryz.func14 (by kernel_rfl) (by kernel_rfl) h


/- loop.example/prologserver/spec.ProgramValid : function 15 -/
def sh_s_ProgramValid (p0 : Value) (w : World) (R : Ending → World → Prop) : Prop :=
 (∃ (a0 : Value → World → Prop) (b0 : Value → World → Nat), a0 (Value.int .i64 0) w ∧
 ∀ c0 _ _ _ _ _ _ _ _ _ _ _ _ _ _ _ _ _ : Value, ∀ d0 : World, a0 c0 d0 →
 (∃ e0 : Value → World → Prop, (
 RR (sBuiltin .len #[24] 3 [false] [p0]) d0 fun f0 g0 =>
 RR (sBin .lss 3 false false c0 f0) g0 fun h0 i0 =>
 GuardV h0 true (
 RR (sBin .leq 3 false true c0 (Value.int .i64 20)) i0 fun j0 k0 =>
 RR (sOp (.pick (.const h0) (.const j0) (.const (Value.bool false))) 4) k0 fun l0 m0 =>
 e0 l0 m0) (
 RR (sOp (.pick (.const h0) (.const undef) (.const (Value.bool false))) 4) i0 fun n0 o0 =>
 e0 n0 o0)) ∧
 ∀ q0 _ _ _ _ _ _ _ : Value, ∀ s0 : World, e0 q0 s0 →
 CondV q0 (
 RR (sOp (.indexAddr 24 (.const p0) (.const c0)) 0) s0 fun t0 u0 =>
 RR (sOp (.load 44 (.const t0)) 44) u0 fun v0 w0 =>
 RR (sCall (Value.func (.func 36) #[] #[]) [v0]) w0 fun x0 y0 =>
 RR (sOp (.unOp .not 4 (.const x0)) 4) y0 fun z0 A0 =>
 CondV z0 (
 R (.returned (Value.bool false)) A0) (
 RR (sBin .add 3 false true c0 (Value.int .i64 1)) A0 fun B0 C0 =>
 a0 B0 C0 ∧ b0 B0 C0 < b0 c0 d0)) (
 RR (sBuiltin .len #[24] 3 [false] [p0]) s0 fun D0 E0 =>
 RR (sBin .leq 3 false true D0 (Value.int .i64 20)) E0 fun F0 G0 =>
 R (.returned F0) G0)))
theorem calls_s_ProgramValid {p0 : Value} {w : World} {R : Ending → World → Prop} (h : sh_s_ProgramValid p0 w R) : Calls Tryz.prog 15 #[p0] w R :=
  calls_sh (.seq none .leaf (.seq none (.seq none .leaf (.one (.loop [3] (.seq none (.seq (some [11]) .leaf .leaf) .leaf)))) .leaf)) [p0] mixed Tryz.func15 (by kernel_rfl) (by kernel_rfl) h


/- loop.example/prologserver/spec.l14Copy : function 16 -/
def sh_s_l14Copy (p0 : Value) (w : World) (R : Ending → World → Prop) : Prop :=
 RR (sBuildSlice 24 0 []) w fun a0 b0 =>
 (∃ (c0 : Value → Value → World → Prop) (d0 : Value → Value → World → Nat), c0 (Value.int .i64 0) a0 b0 ∧
 ∀ e0 _ _ f0 _ _ _ _ _ _ _ _ _ _ _ _ : Value, ∀ g0 : World, c0 e0 f0 g0 →
 RR (sBuiltin .len #[24] 3 [false] [p0]) g0 fun h0 i0 =>
 RR (sBin .lss 3 false false e0 h0) i0 fun j0 k0 =>
 CondV j0 (
 RR (sOp (.indexAddr 24 (.const p0) (.const e0)) 0) k0 fun l0 m0 =>
 RR (sOp (.load 44 (.const l0)) 44) m0 fun n0 o0 =>
 RR (sCall (Value.func (.func 37) #[] #[]) [n0]) o0 fun q0 s0 =>
 RR (sBuildSlice 24 1 [(0, q0)]) s0 fun t0 u0 =>
 RR (sBuiltin .append #[24, 24] 24 [false, false] [f0, t0]) u0 fun v0 w0 =>
 RR (sBin .add 3 false true e0 (Value.int .i64 1)) w0 fun x0 y0 =>
 c0 x0 v0 y0 ∧ d0 x0 v0 y0 < d0 e0 f0 g0) (
 R (.returned f0) k0))
theorem calls_s_l14Copy {p0 : Value} {w : World} {R : Ending → World → Prop} (h : sh_s_l14Copy p0 w R) : Calls Tryz.prog 16 #[p0] w R :=
  calls_sh (.seq none .leaf (.seq none .leaf (.seq none (.seq none .leaf (.one (.loop [4, 3] .leaf))) .leaf))) [p0] mixed Tryz.func16 (by kernel_rfl) (by kernel_rfl) h


/- loop.example/prologserver/laws.toClause : function 17 -/
def sh_l_toClause (p0 : Value) (w : World) (R : Ending → World → Prop) : Prop :=
 RR (sOp (.box 36 (.const p0)) 0) w fun a0 b0 =>
 RR (sOp (.alloc 44) 0) b0 fun c0 d0 =>
 RR (sOp (.alloc 44) 0) d0 fun e0 f0 =>
 RR (sOp (.fieldAddr 36 (.const a0) 0) 0) f0 fun g0 h0 =>
 RR (sOp (.load 34 (.const g0)) 34) h0 fun i0 j0 =>
 RR (sCall (Value.func (.func 38) #[] #[]) [i0]) j0 fun k0 l0 =>
 RR (sOp (.fieldAddr 44 (.const e0) 0) 0) l0 fun m0 n0 =>
 RR (sOp (.store 42 (.const m0) (.const k0)) 0) n0 fun _u o0 =>
 RR (sOp (.fieldAddr 36 (.const a0) 1) 0) o0 fun q0 s0 =>
 RR (sOp (.load 32 (.const q0)) 32) s0 fun t0 u0 =>
 RR (sCall (Value.func (.func 39) #[] #[]) [t0]) u0 fun v0 w0 =>
 RR (sOp (.fieldAddr 44 (.const e0) 1) 0) w0 fun x0 y0 =>
 RR (sOp (.store 40 (.const x0) (.const v0)) 0) y0 fun _u z0 =>
 RR (sOp (.load 44 (.const e0)) 44) z0 fun A0 B0 =>
 RR (sOp (.store 44 (.const c0) (.const A0)) 0) B0 fun _ C0 =>
 (LoadV Tryz.prog 44 c0 C0 fun r0 => R (.returned r0) C0)
theorem calls_l_toClause {p0 : Value} {w : World} {R : Ending → World → Prop} (h : sh_l_toClause p0 w R) : Calls Tryz.prog 17 #[p0] w R :=
  calls_sh .leaf [p0] mixed Tryz.func17 (by kernel_rfl) (by kernel_rfl) h


/- loop.example/prologserver/impl.CanUnfold : function 18 -/
def sh_i_CanUnfold (p0 p1 : Value) (w : World) (R : Ending → World → Prop) : Prop :=
 RR (sOp (.box 24 (.const p0)) 0) w fun a0 b0 =>
 (∃ c0 : Value → World → Prop, (
 RR (sOp (.load 24 (.const a0)) 24) b0 fun d0 e0 =>
 RR (sCall (Value.func (.func 23) #[] #[]) [d0]) e0 fun f0 g0 =>
 RR (sOp (.unOp .not 4 (.const f0)) 4) g0 fun h0 i0 =>
 GuardV h0 false (
 RR (sOp (.load 24 (.const a0)) 24) i0 fun j0 k0 =>
 RR (sBuiltin .len #[24] 3 [false] [j0]) k0 fun l0 m0 =>
 RR (sBin .sub 3 false true l0 (Value.int .i64 1)) m0 fun n0 o0 =>
 RR (sCall (Value.func (.func 40) #[] #[]) [p1, (Value.int .i64 0), n0]) o0 fun q0 s0 =>
 RR (sOp (.unOp .not 4 (.const q0)) 4) s0 fun t0 u0 =>
 RR (sOp (.pick (.const h0) (.const (Value.bool true)) (.const t0)) 4) u0 fun v0 w0 =>
 GuardV v0 false (
 RR (sOp (.load 24 (.const a0)) 24) w0 fun x0 y0 =>
 RR (sOp (.indexAddr 24 (.const x0) (.const p1)) 0) y0 fun z0 A0 =>
 RR (sOp (.load 44 (.const z0)) 44) A0 fun B0 C0 =>
 RR (sCall (Value.func (.func 41) #[] #[]) [B0]) C0 fun D0 E0 =>
 RR (sOp (.unOp .not 4 (.const D0)) 4) E0 fun F0 G0 =>
 RR (sOp (.pick (.const v0) (.const (Value.bool true)) (.const F0)) 4) G0 fun H0 I0 =>
 GuardV H0 false (
 RR (sOp (.load 24 (.const a0)) 24) I0 fun J0 K0 =>
 RR (sOp (.indexAddr 24 (.const J0) (.const p1)) 0) K0 fun L0 M0 =>
 RR (sOp (.load 44 (.const L0)) 44) M0 fun N0 O0 =>
 RR (sCall (Value.func (.func 42) #[] #[]) [N0]) O0 fun P0 Q0 =>
 RR (sOp (.pick (.const H0) (.const (Value.bool true)) (.const P0)) 4) Q0 fun S0 T0 =>
 c0 S0 T0) (
 RR (sOp (.pick (.const H0) (.const (Value.bool true)) (.const undef)) 4) I0 fun U0 V0 =>
 c0 U0 V0)) (
 RR (sOp (.pick (.const v0) (.const (Value.bool true)) (.const undef)) 4) w0 fun W0 X0 =>
 GuardV W0 false (
 RR (sOp (.load 24 (.const a0)) 24) X0 fun Y0 Z0 =>
 RR (sOp (.indexAddr 24 (.const Y0) (.const p1)) 0) Z0 fun a1 b1 =>
 RR (sOp (.load 44 (.const a1)) 44) b1 fun c1 d1 =>
 RR (sCall (Value.func (.func 42) #[] #[]) [c1]) d1 fun e1 f1 =>
 RR (sOp (.pick (.const W0) (.const (Value.bool true)) (.const e1)) 4) f1 fun g1 h1 =>
 c0 g1 h1) (
 RR (sOp (.pick (.const W0) (.const (Value.bool true)) (.const undef)) 4) X0 fun i1 j1 =>
 c0 i1 j1))) (
 RR (sOp (.pick (.const h0) (.const (Value.bool true)) (.const undef)) 4) i0 fun k1 l1 =>
 GuardV k1 false (
 RR (sOp (.load 24 (.const a0)) 24) l1 fun m1 n1 =>
 RR (sOp (.indexAddr 24 (.const m1) (.const p1)) 0) n1 fun o1 q1 =>
 RR (sOp (.load 44 (.const o1)) 44) q1 fun s1 t1 =>
 RR (sCall (Value.func (.func 41) #[] #[]) [s1]) t1 fun u1 v1 =>
 RR (sOp (.unOp .not 4 (.const u1)) 4) v1 fun w1 x1 =>
 RR (sOp (.pick (.const k1) (.const (Value.bool true)) (.const w1)) 4) x1 fun y1 z1 =>
 GuardV y1 false (
 RR (sOp (.load 24 (.const a0)) 24) z1 fun A1 B1 =>
 RR (sOp (.indexAddr 24 (.const A1) (.const p1)) 0) B1 fun C1 D1 =>
 RR (sOp (.load 44 (.const C1)) 44) D1 fun E1 F1 =>
 RR (sCall (Value.func (.func 42) #[] #[]) [E1]) F1 fun G1 H1 =>
 RR (sOp (.pick (.const y1) (.const (Value.bool true)) (.const G1)) 4) H1 fun I1 J1 =>
 c0 I1 J1) (
 RR (sOp (.pick (.const y1) (.const (Value.bool true)) (.const undef)) 4) z1 fun K1 L1 =>
 c0 K1 L1)) (
 RR (sOp (.pick (.const k1) (.const (Value.bool true)) (.const undef)) 4) l1 fun M1 N1 =>
 GuardV M1 false (
 RR (sOp (.load 24 (.const a0)) 24) N1 fun O1 P1 =>
 RR (sOp (.indexAddr 24 (.const O1) (.const p1)) 0) P1 fun Q1 S1 =>
 RR (sOp (.load 44 (.const Q1)) 44) S1 fun T1 U1 =>
 RR (sCall (Value.func (.func 42) #[] #[]) [T1]) U1 fun V1 W1 =>
 RR (sOp (.pick (.const M1) (.const (Value.bool true)) (.const V1)) 4) W1 fun X1 Y1 =>
 c0 X1 Y1) (
 RR (sOp (.pick (.const M1) (.const (Value.bool true)) (.const undef)) 4) N1 fun Z1 a2 =>
 c0 Z1 a2)))) ∧
 ∀ b2 _ _ _ _ _ _ _ _ _ _ _ _ _ _ _ _ _ _ _ _ _ _ _ _ _ : Value, ∀ c2 : World, c0 b2 c2 →
 CondV b2 (
 R (.returned (Value.bool false)) c2) (
 (∃ d2 : (Nat → Bool) → Value → Value → Value → Value → Value → Value → Value → Value → Value → Value → Value → World → Prop, d2 (fun _ => false) undef undef undef undef undef undef undef undef undef undef undef { c2 with drawn := c2.drawn + 1 } ∧ (
 (∀ e2 : Nat → Bool, e2 0 = false → ∀ f2 g2 h2 i2 j2 k2 l2 m2 n2 o2 q2 : Value, ∀ s2 : World, d2 e2 f2 g2 h2 i2 j2 k2 l2 m2 n2 o2 q2 s2 →
 RR (sOp (.load 24 (.const a0)) 24) s2 fun t2 u2 =>
 d2 (setD e2 0) f2 g2 h2 i2 j2 k2 l2 m2 n2 o2 t2 u2) ∧
 (∀ e2 : Nat → Bool, e2 1 = false → ∀ f2 g2 h2 i2 j2 k2 l2 m2 n2 o2 q2 : Value, ∀ v2 : World, d2 e2 f2 g2 h2 i2 j2 k2 l2 m2 n2 o2 q2 v2 →
 RR (sOp (.load 24 (.const a0)) 24) v2 fun w2 x2 =>
 d2 (setD e2 1) f2 g2 h2 i2 j2 k2 l2 m2 n2 w2 q2 x2) ∧
 (∀ e2 : Nat → Bool, e2 2 = false → ∀ f2 g2 h2 i2 j2 k2 l2 m2 n2 o2 q2 : Value, ∀ y2 : World, d2 e2 f2 g2 h2 i2 j2 k2 l2 m2 n2 o2 q2 y2 →
 d2 (setD e2 2) f2 g2 h2 i2 j2 k2 l2 m2 p1 o2 q2 y2) ∧
 (∀ e2 : Nat → Bool, e2 3 = false → e2 1 = true → e2 2 = true → ∀ f2 g2 h2 i2 j2 k2 l2 m2 n2 o2 q2 : Value, ∀ z2 : World, d2 e2 f2 g2 h2 i2 j2 k2 l2 m2 n2 o2 q2 z2 →
 RR (sOp (.indexAddr 24 (.const o2) (.const n2)) 0) z2 fun A2 B2 =>
 d2 (setD e2 3) f2 g2 h2 i2 j2 k2 l2 A2 n2 o2 q2 B2) ∧
 (∀ e2 : Nat → Bool, e2 4 = false → e2 3 = true → ∀ f2 g2 h2 i2 j2 k2 l2 m2 n2 o2 q2 : Value, ∀ C2 : World, d2 e2 f2 g2 h2 i2 j2 k2 l2 m2 n2 o2 q2 C2 →
 RR (sOp (.fieldAddr 44 (.const m2) 1) 0) C2 fun D2 E2 =>
 d2 (setD e2 4) f2 g2 h2 i2 j2 k2 D2 m2 n2 o2 q2 E2) ∧
 (∀ e2 : Nat → Bool, e2 5 = false → e2 4 = true → ∀ f2 g2 h2 i2 j2 k2 l2 m2 n2 o2 q2 : Value, ∀ F2 : World, d2 e2 f2 g2 h2 i2 j2 k2 l2 m2 n2 o2 q2 F2 →
 RR (sOp (.load 40 (.const l2)) 40) F2 fun G2 H2 =>
 d2 (setD e2 5) f2 g2 h2 i2 j2 G2 l2 m2 n2 o2 q2 H2) ∧
 (∀ e2 : Nat → Bool, e2 6 = false → e2 5 = true → ∀ f2 g2 h2 i2 j2 k2 l2 m2 n2 o2 q2 : Value, ∀ I2 : World, d2 e2 f2 g2 h2 i2 j2 k2 l2 m2 n2 o2 q2 I2 →
 RR (sOp (.indexAddr 40 (.const k2) (.const (Value.int .i64 0))) 0) I2 fun J2 K2 =>
 d2 (setD e2 6) f2 g2 h2 i2 J2 k2 l2 m2 n2 o2 q2 K2) ∧
 (∀ e2 : Nat → Bool, e2 7 = false → e2 6 = true → ∀ f2 g2 h2 i2 j2 k2 l2 m2 n2 o2 q2 : Value, ∀ L2 : World, d2 e2 f2 g2 h2 i2 j2 k2 l2 m2 n2 o2 q2 L2 →
 RR (sOp (.load 42 (.const j2)) 42) L2 fun M2 N2 =>
 d2 (setD e2 7) f2 g2 h2 M2 j2 k2 l2 m2 n2 o2 q2 N2) ∧
 (∀ e2 : Nat → Bool, e2 8 = false → e2 7 = true → ∀ f2 g2 h2 i2 j2 k2 l2 m2 n2 o2 q2 : Value, ∀ O2 : World, d2 e2 f2 g2 h2 i2 j2 k2 l2 m2 n2 o2 q2 O2 →
 RR (sCall (Value.func (.func 21) #[] #[]) [i2]) O2 fun P2 Q2 =>
 d2 (setD e2 8) f2 g2 P2 i2 j2 k2 l2 m2 n2 o2 q2 Q2) ∧
 (∀ e2 : Nat → Bool, e2 9 = false → e2 0 = true → e2 8 = true → e2 8 = true → ∀ f2 g2 h2 i2 j2 k2 l2 m2 n2 o2 q2 : Value, ∀ S2 : World, d2 e2 f2 g2 h2 i2 j2 k2 l2 m2 n2 o2 q2 S2 →
 RR (sCall (Value.func (.func 20) #[] #[]) [q2, h2]) S2 fun T2 U2 =>
 d2 (setD e2 9) f2 T2 h2 i2 j2 k2 l2 m2 n2 o2 q2 U2) ∧
 (∀ e2 : Nat → Bool, e2 10 = false → e2 9 = true → e2 9 = true → e2 0 = true → e2 1 = true → e2 2 = true → e2 3 = true → e2 4 = true → e2 5 = true → e2 6 = true → e2 7 = true → e2 8 = true → e2 9 = true → ∀ f2 g2 h2 i2 j2 k2 l2 m2 n2 o2 q2 : Value, ∀ V2 : World, d2 e2 f2 g2 h2 i2 j2 k2 l2 m2 n2 o2 q2 V2 →
 d2 (setD e2 10) g2 g2 h2 i2 j2 k2 l2 m2 n2 o2 q2 V2) ∧
 True) ∧
 ∀ e2 : Nat → Bool, e2 10 = true → e2 9 = true → e2 8 = true → e2 7 = true → e2 6 = true → e2 5 = true → e2 4 = true → e2 3 = true → e2 2 = true → e2 1 = true → e2 0 = true → ∀ f2 g2 h2 i2 j2 k2 l2 m2 n2 o2 q2 : Value, ∀ W2 : World, d2 e2 f2 g2 h2 i2 j2 k2 l2 m2 n2 o2 q2 W2 →
 RR (sBuiltin .len #[38] 3 [false] [f2]) W2 fun X2 Y2 =>
 RR (sBin .gtr 3 false true X2 (Value.int .i64 0)) Y2 fun Z2 a3 =>
 GuardV Z2 true (
 RR (sCall (Value.func (.func 43) #[] #[]) [f2, p1]) a3 fun b3 c3 =>
 RR (sOp (.unOp .not 4 (.const b3)) 4) c3 fun d3 e3 =>
 RR (sOp (.pick (.const Z2) (.const d3) (.const (Value.bool false))) 4) e3 fun f3 g3 =>
 GuardV f3 true (
 RR (sMakeFunc (.func 45) [] [a0]) g3 fun h3 i3 =>
 RR (sCall (Value.func (.func 44) #[] #[]) [f2, h3]) i3 fun j3 k3 =>
 RR (sOp (.unOp .not 4 (.const j3)) 4) k3 fun l3 m3 =>
 RR (sOp (.pick (.const f3) (.const l3) (.const (Value.bool false))) 4) m3 fun n3 o3 =>
 R (.returned n3) o3) (
 RR (sOp (.pick (.const f3) (.const undef) (.const (Value.bool false))) 4) g3 fun q3 s3 =>
 R (.returned q3) s3)) (
 RR (sOp (.pick (.const Z2) (.const undef) (.const (Value.bool false))) 4) a3 fun t3 u3 =>
 GuardV t3 true (
 RR (sMakeFunc (.func 45) [] [a0]) u3 fun v3 w3 =>
 RR (sCall (Value.func (.func 44) #[] #[]) [f2, v3]) w3 fun x3 y3 =>
 RR (sOp (.unOp .not 4 (.const x3)) 4) y3 fun z3 A3 =>
 RR (sOp (.pick (.const t3) (.const z3) (.const (Value.bool false))) 4) A3 fun B3 C3 =>
 R (.returned B3) C3) (
 RR (sOp (.pick (.const t3) (.const undef) (.const (Value.bool false))) 4) u3 fun D3 E3 =>
 R (.returned D3) E3)))))
theorem calls_i_CanUnfold {p0 p1 : Value} {w : World} {R : Ending → World → Prop} (h : sh_i_CanUnfold p0 p1 w R) : Calls Tryz.prog 18 #[p0, p1] w R :=
  calls_sh (.seq none .leaf (.seq none (.seq (some [31]) .leaf .leaf) .leaf)) [p0, p1] mixed Tryz.func18 (by kernel_rfl) (by kernel_rfl) h


/- loop.example/prologserver/impl.ownProgram : function 19 -/
def sh_i_ownProgram (p0 : Value) (w : World) (R : Ending → World → Prop) : Prop :=
 RR (sBuiltin .len #[24] 3 [false] [p0]) w fun a0 b0 =>
 (∃ (c0 : Value → Value → World → Prop) (d0 : Value → Value → World → Nat), c0 (Value.int .i64 0) (Value.slice none 0 0) b0 ∧
 ∀ e0 _ f0 _ _ _ _ _ _ _ _ _ : Value, ∀ g0 : World, c0 e0 f0 g0 →
 RR (sBin .lss 3 false false e0 a0) g0 fun h0 i0 =>
 CondV h0 (
 RR (sOp (.indexAddr 24 (.const p0) (.const e0)) 0) i0 fun j0 k0 =>
 RR (sOp (.load 44 (.const j0)) 44) k0 fun l0 m0 =>
 RR (sOp (.alloc 44) 0) m0 fun n0 o0 =>
 RR (sOp (.store 44 (.const n0) (.const l0)) 0) o0 fun _ q0 =>
 RR (sOp (.load 44 (.const n0)) 44) q0 fun s0 t0 =>
 RR (sCall (Value.func (.func 46) #[] #[]) [s0]) t0 fun u0 v0 =>
 RR (sBuildSlice 24 1 [(0, u0)]) v0 fun w0 x0 =>
 RR (sBuiltin .append #[24, 24] 24 [false, false] [f0, w0]) x0 fun y0 z0 =>
 RR (sBin .add 3 false true e0 (Value.int .i64 1)) z0 fun A0 B0 =>
 c0 A0 y0 B0 ∧ d0 A0 y0 B0 < d0 e0 f0 g0) (
 R (.returned f0) i0))
theorem calls_i_ownProgram {p0 : Value} {w : World} {R : Ending → World → Prop} (h : sh_i_ownProgram p0 w R) : Calls Tryz.prog 19 #[p0] w R :=
  calls_sh (.seq none .leaf (.seq none .leaf (.seq none (.seq none .leaf (.one (.loop [8, 3] .leaf))) .leaf))) [p0] mixed Tryz.func19 (by kernel_rfl) (by kernel_rfl) h


/- loop.example/prologserver/impl.clausesFor : function 20 -/
def sh_i_clausesFor (p0 p1 : Value) (w : World) (R : Ending → World → Prop) : Prop :=
 RR (sOp (.box 52 (.const p1)) 0) w fun a0 b0 =>
 RR (sBuiltin .len #[24] 3 [false] [p0]) b0 fun c0 d0 =>
 (∃ (e0 : Value → Value → World → Prop) (f0 : Value → Value → World → Nat), e0 (Value.int .i64 0) (Value.slice none 0 0) d0 ∧
 ∀ g0 _ h0 _ _ _ _ i0 j0 k0 l0 m0 _ _ _ _ _ _ : Value, ∀ n0 : World, e0 g0 h0 n0 →
 RR (sBin .lss 3 false false g0 c0) n0 fun o0 q0 =>
 CondV o0 (
 (∃ s0 : Value → World → Prop, (
 RR (sOp (.indexAddr 24 (.const p0) (.const g0)) 0) q0 fun t0 u0 =>
 RR (sOp (.load 44 (.const t0)) 44) u0 fun v0 w0 =>
 RR (sOp (.alloc 44) 0) w0 fun x0 y0 =>
 RR (sOp (.store 44 (.const x0) (.const v0)) 0) y0 fun _ z0 =>
 (∃ A0 : (Nat → Bool) → Value → Value → Value → Value → Value → World → Prop, A0 (fun _ => false) i0 j0 k0 l0 m0 { z0 with drawn := z0.drawn + 1 } ∧ (
 (∀ B0 : Nat → Bool, B0 0 = false → ∀ C0 D0 E0 F0 G0 : Value, ∀ H0 : World, A0 B0 C0 D0 E0 F0 G0 H0 →
 RR (sOp (.fieldAddr 44 (.const x0) 0) 0) H0 fun I0 J0 =>
 A0 (setD B0 0) C0 D0 E0 F0 I0 J0) ∧
 (∀ B0 : Nat → Bool, B0 1 = false → B0 0 = true → ∀ C0 D0 E0 F0 G0 : Value, ∀ K0 : World, A0 B0 C0 D0 E0 F0 G0 K0 →
 RR (sOp (.load 42 (.const G0)) 42) K0 fun L0 M0 =>
 A0 (setD B0 1) C0 D0 E0 L0 G0 M0) ∧
 (∀ B0 : Nat → Bool, B0 2 = false → B0 1 = true → ∀ C0 D0 E0 F0 G0 : Value, ∀ N0 : World, A0 B0 C0 D0 E0 F0 G0 N0 →
 RR (sCall (Value.func (.func 21) #[] #[]) [F0]) N0 fun O0 P0 =>
 A0 (setD B0 2) C0 D0 O0 F0 G0 P0) ∧
 (∀ B0 : Nat → Bool, B0 3 = false → ∀ C0 D0 E0 F0 G0 : Value, ∀ Q0 : World, A0 B0 C0 D0 E0 F0 G0 Q0 →
 RR (sOp (.load 52 (.const a0)) 52) Q0 fun S0 T0 =>
 A0 (setD B0 3) C0 S0 E0 F0 G0 T0) ∧
 (∀ B0 : Nat → Bool, B0 4 = false → B0 2 = true → B0 3 = true → ∀ C0 D0 E0 F0 G0 : Value, ∀ U0 : World, A0 B0 C0 D0 E0 F0 G0 U0 →
 RR (sBin .eql 52 false false E0 D0) U0 fun V0 W0 =>
 A0 (setD B0 4) V0 D0 E0 F0 G0 W0) ∧
 True) ∧
 ∀ B0 : Nat → Bool, B0 4 = true → B0 3 = true → B0 2 = true → B0 1 = true → B0 0 = true → ∀ C0 D0 E0 F0 G0 : Value, ∀ X0 : World, A0 B0 C0 D0 E0 F0 G0 X0 →
 CondV C0 (
 RR (sBuildSlice 38 1 [(0, g0)]) X0 fun Y0 Z0 =>
 RR (sBuiltin .append #[38, 38] 38 [false, false] [h0, Y0]) Z0 fun a1 b1 =>
 s0 a1 b1) (
 s0 h0 X0))) ∧
 ∀ c1 _ _ _ _ _ _ _ _ _ _ _ _ _ _ : Value, ∀ d1 : World, s0 c1 d1 →
 RR (sBin .add 3 false true g0 (Value.int .i64 1)) d1 fun e1 f1 =>
 e0 e1 c1 f1 ∧ f0 e1 c1 f1 < f0 g0 h0 n0)) (
 R (.returned h0) q0))
theorem calls_i_clausesFor {p0 p1 : Value} {w : World} {R : Ending → World → Prop} (h : sh_i_clausesFor p0 p1 w R) : Calls Tryz.prog 20 #[p0, p1] w R :=
  calls_sh (.seq none .leaf (.seq none .leaf (.seq none (.seq none .leaf (.one (.loop [10, 5] (.seq none .leaf (.seq none .leaf (.seq (some [5]) .leaf .leaf)))))) .leaf))) [p0, p1] mixed Tryz.func20 (by kernel_rfl) (by kernel_rfl) h


/- loop.example/prologserver/impl.pred : function 21 -/
def sh_i_pred (p0 : Value) (w : World) (R : Ending → World → Prop) : Prop :=
 RR (sOp (.box 42 (.const p0)) 0) w fun a0 b0 =>
 RR (sOp (.alloc 52) 0) b0 fun c0 d0 =>
 RR (sOp (.fieldAddr 42 (.const a0) 2) 0) d0 fun e0 f0 =>
 RR (sOp (.load 9 (.const e0)) 9) f0 fun g0 h0 =>
 RR (sOp (.fieldAddr 42 (.const a0) 3) 0) h0 fun i0 j0 =>
 RR (sOp (.load 40 (.const i0)) 40) j0 fun k0 l0 =>
 RR (sBuiltin .len #[40] 3 [false] [k0]) l0 fun m0 n0 =>
 RR (sBuild 52 [(0, g0), (1, m0)]) n0 fun o0 q0 =>
 RR (sOp (.store 52 (.const c0) (.const o0)) 0) q0 fun _ s0 =>
 (LoadV Tryz.prog 52 c0 s0 fun r0 => R (.returned r0) s0)
theorem calls_i_pred {p0 : Value} {w : World} {R : Ending → World → Prop} (h : sh_i_pred p0 w R) : Calls Tryz.prog 21 #[p0] w R :=
  calls_sh .leaf [p0] mixed Tryz.func21 (by kernel_rfl) (by kernel_rfl) h


/- loop.example/prologserver/impl.resolvent : function 22 -/
def sh_i_resolvent (p0 p1 : Value) (w : World) (R : Ending → World → Prop) : Prop :=
 RR (sOp (.box 44 (.const p0)) 0) w fun a0 b0 =>
 RR (sOp (.box 44 (.const p1)) 0) b0 fun c0 d0 =>
 RR (sOp (.alloc 44) 0) d0 fun e0 f0 =>
 RR (sCall (Value.func (.func 47) #[] #[]) []) f0 fun g0 h0 =>
 (∃ i0 : (Nat → Bool) → Value → Value → Value → Value → Value → Value → Value → Value → Value → Value → Value → World → Prop, i0 (fun _ => false) undef undef undef undef undef undef undef undef undef undef undef { h0 with drawn := h0.drawn + 1 } ∧ (
 (∀ j0 : Nat → Bool, j0 0 = false → ∀ k0 l0 m0 n0 o0 q0 s0 t0 u0 v0 w0 : Value, ∀ x0 : World, i0 j0 k0 l0 m0 n0 o0 q0 s0 t0 u0 v0 w0 x0 →
 i0 (setD j0 0) k0 l0 m0 n0 o0 q0 s0 t0 u0 v0 g0 x0) ∧
 (∀ j0 : Nat → Bool, j0 1 = false → ∀ k0 l0 m0 n0 o0 q0 s0 t0 u0 v0 w0 : Value, ∀ y0 : World, i0 j0 k0 l0 m0 n0 o0 q0 s0 t0 u0 v0 w0 y0 →
 RR (sOp (.fieldAddr 44 (.const a0) 1) 0) y0 fun z0 A0 =>
 i0 (setD j0 1) k0 l0 m0 n0 o0 q0 s0 t0 u0 z0 w0 A0) ∧
 (∀ j0 : Nat → Bool, j0 2 = false → j0 1 = true → ∀ k0 l0 m0 n0 o0 q0 s0 t0 u0 v0 w0 : Value, ∀ B0 : World, i0 j0 k0 l0 m0 n0 o0 q0 s0 t0 u0 v0 w0 B0 →
 RR (sOp (.load 40 (.const v0)) 40) B0 fun C0 D0 =>
 i0 (setD j0 2) k0 l0 m0 n0 o0 q0 s0 t0 C0 v0 w0 D0) ∧
 (∀ j0 : Nat → Bool, j0 3 = false → j0 2 = true → ∀ k0 l0 m0 n0 o0 q0 s0 t0 u0 v0 w0 : Value, ∀ E0 : World, i0 j0 k0 l0 m0 n0 o0 q0 s0 t0 u0 v0 w0 E0 →
 RR (sOp (.indexAddr 40 (.const u0) (.const (Value.int .i64 0))) 0) E0 fun F0 G0 =>
 i0 (setD j0 3) k0 l0 m0 n0 o0 q0 s0 F0 u0 v0 w0 G0) ∧
 (∀ j0 : Nat → Bool, j0 4 = false → j0 3 = true → ∀ k0 l0 m0 n0 o0 q0 s0 t0 u0 v0 w0 : Value, ∀ H0 : World, i0 j0 k0 l0 m0 n0 o0 q0 s0 t0 u0 v0 w0 H0 →
 RR (sOp (.load 42 (.const t0)) 42) H0 fun I0 J0 =>
 i0 (setD j0 4) k0 l0 m0 n0 o0 q0 I0 t0 u0 v0 w0 J0) ∧
 (∀ j0 : Nat → Bool, j0 5 = false → ∀ k0 l0 m0 n0 o0 q0 s0 t0 u0 v0 w0 : Value, ∀ K0 : World, i0 j0 k0 l0 m0 n0 o0 q0 s0 t0 u0 v0 w0 K0 →
 RR (sOp (.fieldAddr 44 (.const c0) 0) 0) K0 fun L0 M0 =>
 i0 (setD j0 5) k0 l0 m0 n0 o0 L0 s0 t0 u0 v0 w0 M0) ∧
 (∀ j0 : Nat → Bool, j0 6 = false → j0 5 = true → ∀ k0 l0 m0 n0 o0 q0 s0 t0 u0 v0 w0 : Value, ∀ N0 : World, i0 j0 k0 l0 m0 n0 o0 q0 s0 t0 u0 v0 w0 N0 →
 RR (sOp (.load 42 (.const q0)) 42) N0 fun O0 P0 =>
 i0 (setD j0 6) k0 l0 m0 n0 O0 q0 s0 t0 u0 v0 w0 P0) ∧
 (∀ j0 : Nat → Bool, j0 7 = false → ∀ k0 l0 m0 n0 o0 q0 s0 t0 u0 v0 w0 : Value, ∀ Q0 : World, i0 j0 k0 l0 m0 n0 o0 q0 s0 t0 u0 v0 w0 Q0 →
 i0 (setD j0 7) k0 l0 m0 (Value.func (.func 48) #[] #[]) o0 q0 s0 t0 u0 v0 w0 Q0) ∧
 (∀ j0 : Nat → Bool, j0 8 = false → j0 6 = true → j0 7 = true → ∀ k0 l0 m0 n0 o0 q0 s0 t0 u0 v0 w0 : Value, ∀ S0 : World, i0 j0 k0 l0 m0 n0 o0 q0 s0 t0 u0 v0 w0 S0 →
 RR (sCall (Value.func (.func 51) #[] #[]) [o0, n0]) S0 fun T0 U0 =>
 i0 (setD j0 8) k0 l0 T0 n0 o0 q0 s0 t0 u0 v0 w0 U0) ∧
 (∀ j0 : Nat → Bool, j0 9 = false → j0 0 = true → j0 4 = true → j0 8 = true → j0 8 = true → ∀ k0 l0 m0 n0 o0 q0 s0 t0 u0 v0 w0 : Value, ∀ V0 : World, i0 j0 k0 l0 m0 n0 o0 q0 s0 t0 u0 v0 w0 V0 →
 RR (sCall (Value.func (.func 50) #[] #[]) [w0, s0, m0]) V0 fun W0 X0 =>
 i0 (setD j0 9) k0 W0 m0 n0 o0 q0 s0 t0 u0 v0 w0 X0) ∧
 (∀ j0 : Nat → Bool, j0 10 = false → j0 9 = true → ∀ k0 l0 m0 n0 o0 q0 s0 t0 u0 v0 w0 : Value, ∀ Y0 : World, i0 j0 k0 l0 m0 n0 o0 q0 s0 t0 u0 v0 w0 Y0 →
 RR (sOp (.unOp .not 4 (.const l0)) 4) Y0 fun Z0 a1 =>
 i0 (setD j0 10) Z0 l0 m0 n0 o0 q0 s0 t0 u0 v0 w0 a1) ∧
 True) ∧
 ∀ j0 : Nat → Bool, j0 10 = true → j0 9 = true → j0 8 = true → j0 7 = true → j0 6 = true → j0 5 = true → j0 4 = true → j0 3 = true → j0 2 = true → j0 1 = true → j0 0 = true → ∀ k0 l0 m0 n0 o0 q0 s0 t0 u0 v0 w0 : Value, ∀ b1 : World, i0 j0 k0 l0 m0 n0 o0 q0 s0 t0 u0 v0 w0 b1 →
 CondV k0 (
 RR (sBuild 44 []) b1 fun c1 d1 =>
 RR (sOp (.store 44 (.const e0) (.const c1)) 0) d1 fun _u e1 =>
 (LoadV Tryz.prog 44 e0 e1 fun r0 => R (.returned (.tuple #[r0, (Value.bool false), (Value.bool false)])) e1)) (
 RR (sOp (.fieldAddr 44 (.const a0) 0) 0) b1 fun f1 g1 =>
 RR (sOp (.load 42 (.const f1)) 42) g1 fun h1 i1 =>
 RR (sBuildSlice 40 1 [(0, h1)]) i1 fun j1 k1 =>
 RR (sOp (.fieldAddr 44 (.const c0) 1) 0) k1 fun l1 m1 =>
 RR (sOp (.load 40 (.const l1)) 40) m1 fun n1 o1 =>
 RR (sBuiltin .len #[40] 3 [false] [n1]) o1 fun q1 s1 =>
 (∃ (t1 : Value → Value → World → Prop) (u1 : Value → Value → World → Nat), t1 (Value.int .i64 0) j1 s1 ∧
 ∀ v1 _ w1 _ _ _ _ _ _ _ _ _ _ : Value, ∀ x1 : World, t1 v1 w1 x1 →
 RR (sBin .lss 3 false false v1 q1) x1 fun y1 z1 =>
 CondV y1 (
 RR (sOp (.indexAddr 40 (.const n1) (.const v1)) 0) z1 fun A1 B1 =>
 RR (sOp (.load 42 (.const A1)) 42) B1 fun C1 D1 =>
 RR (sOp (.alloc 42) 0) D1 fun E1 F1 =>
 RR (sOp (.store 42 (.const E1) (.const C1)) 0) F1 fun _u G1 =>
 RR (sOp (.load 42 (.const E1)) 42) G1 fun H1 I1 =>
 RR (sCall (Value.func (.func 51) #[] #[]) [H1, (Value.func (.func 48) #[] #[])]) I1 fun J1 K1 =>
 RR (sBuildSlice 40 1 [(0, J1)]) K1 fun L1 M1 =>
 RR (sBuiltin .append #[40, 40] 40 [false, false] [w1, L1]) M1 fun N1 O1 =>
 RR (sBin .add 3 false true v1 (Value.int .i64 1)) O1 fun P1 Q1 =>
 t1 P1 N1 Q1 ∧ u1 P1 N1 Q1 < u1 v1 w1 x1) (
 RR (sOp (.fieldAddr 44 (.const a0) 1) 0) z1 fun S1 T1 =>
 RR (sOp (.load 40 (.const S1)) 40) T1 fun U1 V1 =>
 RR (sOp (.slice 40 (.const U1) (some (.const (Value.int .i64 1))) none none) 40) V1 fun W1 X1 =>
 RR (sBuiltin .append #[40, 40] 40 [false, false] [w1, W1]) X1 fun Y1 Z1 =>
 RR (sBuiltin .len #[40] 3 [false] [Y1]) Z1 fun a2 b2 =>
 (∃ (c2 : Value → World → Prop) (d2 : Value → World → Nat), c2 (Value.int .i64 0) b2 ∧
 ∀ e2 _ _ _ _ _ f2 g2 _ _ _ _ _ _ _ _ _ _ _ _ _ _ _ _ _ : Value, ∀ h2 : World, c2 e2 h2 →
 RR (sBin .lss 3 false false e2 a2) h2 fun i2 j2 =>
 CondV i2 (
 RR (sOp (.indexAddr 40 (.const Y1) (.const e2)) 0) j2 fun k2 l2 =>
 RR (sOp (.load 42 (.const k2)) 42) l2 fun m2 n2 =>
 RR (sOp (.alloc 42) 0) n2 fun o2 q2 =>
 RR (sOp (.store 42 (.const o2) (.const m2)) 0) q2 fun _u s2 =>
 RR (sOp (.load 42 (.const o2)) 42) s2 fun t2 u2 =>
 RR (sCall (Value.func (.func 52) #[] #[]) [g0, t2]) u2 fun v2 w2 =>
 RR (sOp (.extract (.const v2) 0) 42) w2 fun x2 y2 =>
 RR (sOp (.extract (.const v2) 1) 4) y2 fun z2 A2 =>
 RR (sOp (.alloc 42) 0) A2 fun B2 C2 =>
 RR (sOp (.store 42 (.const B2) (.const x2)) 0) C2 fun _u D2 =>
 RR (sOp (.unOp .not 4 (.const z2)) 4) D2 fun E2 F2 =>
 CondV E2 (
 RR (sBuild 44 []) F2 fun G2 H2 =>
 RR (sOp (.store 44 (.const e0) (.const G2)) 0) H2 fun _u I2 =>
 (LoadV Tryz.prog 44 e0 I2 fun r0 => R (.returned (.tuple #[r0, (Value.bool true), (Value.bool false)])) I2)) (
 RR (sOp (.load 42 (.const B2)) 42) F2 fun J2 K2 =>
 RR (sOp (.indexAddr 40 (.const Y1) (.const e2)) 0) K2 fun L2 M2 =>
 RR (sOp (.store 42 (.const L2) (.const J2)) 0) M2 fun _u N2 =>
 RR (sBin .add 3 false true e2 (Value.int .i64 1)) N2 fun O2 P2 =>
 c2 O2 P2 ∧ d2 O2 P2 < d2 e2 h2)) (
 (∃ Q2 : (Nat → Bool) → Value → Value → Value → Value → Value → Value → Value → World → Prop, Q2 (fun _ => false) undef undef undef undef undef undef undef { j2 with drawn := j2.drawn + 1 } ∧ (
 (∀ S2 : Nat → Bool, S2 0 = false → ∀ T2 U2 V2 W2 X2 Y2 Z2 : Value, ∀ a3 : World, Q2 S2 T2 U2 V2 W2 X2 Y2 Z2 a3 →
 Q2 (setD S2 0) T2 U2 V2 W2 X2 Y2 Y1 a3) ∧
 (∀ S2 : Nat → Bool, S2 1 = false → S2 0 = true → ∀ T2 U2 V2 W2 X2 Y2 Z2 : Value, ∀ b3 : World, Q2 S2 T2 U2 V2 W2 X2 Y2 Z2 b3 →
 RR (sOp (.indexAddr 40 (.const Z2) (.const (Value.int .i64 0))) 0) b3 fun c3 d3 =>
 Q2 (setD S2 1) T2 U2 V2 W2 X2 c3 Z2 d3) ∧
 (∀ S2 : Nat → Bool, S2 2 = false → S2 1 = true → ∀ T2 U2 V2 W2 X2 Y2 Z2 : Value, ∀ e3 : World, Q2 S2 T2 U2 V2 W2 X2 Y2 Z2 e3 →
 RR (sOp (.load 42 (.const Y2)) 42) e3 fun f3 g3 =>
 Q2 (setD S2 2) T2 U2 V2 W2 f3 Y2 Z2 g3) ∧
 (∀ S2 : Nat → Bool, S2 3 = false → ∀ T2 U2 V2 W2 X2 Y2 Z2 : Value, ∀ h3 : World, Q2 S2 T2 U2 V2 W2 X2 Y2 Z2 h3 →
 Q2 (setD S2 3) T2 U2 V2 Y1 X2 Y2 Z2 h3) ∧
 (∀ S2 : Nat → Bool, S2 4 = false → S2 3 = true → ∀ T2 U2 V2 W2 X2 Y2 Z2 : Value, ∀ i3 : World, Q2 S2 T2 U2 V2 W2 X2 Y2 Z2 i3 →
 RR (sOp (.slice 40 (.const W2) (some (.const (Value.int .i64 1))) none none) 40) i3 fun j3 k3 =>
 Q2 (setD S2 4) T2 U2 j3 W2 X2 Y2 Z2 k3) ∧
 (∀ S2 : Nat → Bool, S2 5 = false → S2 2 = true → S2 4 = true → ∀ T2 U2 V2 W2 X2 Y2 Z2 : Value, ∀ l3 : World, Q2 S2 T2 U2 V2 W2 X2 Y2 Z2 l3 →
 RR (sBuild 44 [(0, X2), (1, V2)]) l3 fun m3 n3 =>
 Q2 (setD S2 5) T2 m3 V2 W2 X2 Y2 Z2 n3) ∧
 (∀ S2 : Nat → Bool, S2 6 = false → S2 5 = true → ∀ T2 U2 V2 W2 X2 Y2 Z2 : Value, ∀ o3 : World, Q2 S2 T2 U2 V2 W2 X2 Y2 Z2 o3 →
 RR (sCall (Value.func (.func 53) #[] #[]) [U2]) o3 fun q3 s3 =>
 Q2 (setD S2 6) q3 U2 V2 W2 X2 Y2 Z2 s3) ∧
 (∀ S2 : Nat → Bool, S2 7 = false → S2 6 = true → S2 6 = true → S2 0 = true → S2 1 = true → S2 2 = true → S2 3 = true → S2 4 = true → S2 5 = true → S2 6 = true → ∀ T2 U2 V2 W2 X2 Y2 Z2 : Value, ∀ t3 : World, Q2 S2 T2 U2 V2 W2 X2 Y2 Z2 t3 →
 RR (sOp (.store 44 (.const e0) (.const T2)) 0) t3 fun _u u3 =>
 Q2 (setD S2 7) T2 U2 V2 W2 X2 Y2 Z2 u3) ∧
 True) ∧
 ∀ S2 : Nat → Bool, S2 7 = true → S2 6 = true → S2 5 = true → S2 4 = true → S2 3 = true → S2 2 = true → S2 1 = true → S2 0 = true → ∀ T2 U2 V2 W2 X2 Y2 Z2 : Value, ∀ v3 : World, Q2 S2 T2 U2 V2 W2 X2 Y2 Z2 v3 →
 (∃ w3 : (Nat → Bool) → Value → Value → Value → Value → Value → Value → World → Prop, w3 (fun _ => false) f2 g2 undef undef undef undef { v3 with drawn := v3.drawn + 1 } ∧ (
 (∀ x3 : Nat → Bool, x3 0 = false → ∀ y3 z3 A3 B3 C3 D3 : Value, ∀ E3 : World, w3 x3 y3 z3 A3 B3 C3 D3 E3 →
 RR (sOp (.load 44 (.const e0)) 44) E3 fun F3 G3 =>
 w3 (setD x3 0) y3 z3 A3 B3 C3 F3 G3) ∧
 (∀ x3 : Nat → Bool, x3 1 = false → x3 0 = true → ∀ y3 z3 A3 B3 C3 D3 : Value, ∀ H3 : World, w3 x3 y3 z3 A3 B3 C3 D3 H3 →
 RR (sCall (Value.func (.func 46) #[] #[]) [D3]) H3 fun I3 J3 =>
 w3 (setD x3 1) y3 z3 A3 B3 I3 D3 J3) ∧
 (∀ x3 : Nat → Bool, x3 2 = false → ∀ y3 z3 A3 B3 C3 D3 : Value, ∀ K3 : World, w3 x3 y3 z3 A3 B3 C3 D3 K3 →
 RR (sOp (.load 44 (.const e0)) 44) K3 fun L3 M3 =>
 w3 (setD x3 2) y3 z3 A3 L3 C3 D3 M3) ∧
 (∀ x3 : Nat → Bool, x3 3 = false → x3 2 = true → x3 1 = true → ∀ y3 z3 A3 B3 C3 D3 : Value, ∀ N3 : World, w3 x3 y3 z3 A3 B3 C3 D3 N3 →
 RR (sCall (Value.func (.func 54) #[] #[]) [B3]) N3 fun O3 P3 =>
 w3 (setD x3 3) y3 z3 O3 B3 C3 D3 P3) ∧
 (∀ x3 : Nat → Bool, x3 4 = false → x3 1 = true → x3 3 = true → x3 0 = true → x3 1 = true → x3 2 = true → ∀ y3 z3 A3 B3 C3 D3 : Value, ∀ Q3 : World, w3 x3 y3 z3 A3 B3 C3 D3 Q3 →
 RR (sOp (.store 44 (.const e0) (.const C3)) 0) Q3 fun _ S3 =>
 w3 (setD x3 4) y3 z3 A3 B3 C3 D3 S3) ∧
 (∀ x3 : Nat → Bool, x3 5 = false → x3 4 = true → x3 0 = true → x3 1 = true → x3 2 = true → x3 4 = true → ∀ y3 z3 A3 B3 C3 D3 : Value, ∀ T3 : World, w3 x3 y3 z3 A3 B3 C3 D3 T3 →
 w3 (setD x3 5) y3 (Value.bool true) A3 B3 C3 D3 T3) ∧
 (∀ x3 : Nat → Bool, x3 6 = false → x3 3 = true → x3 5 = true → x3 0 = true → x3 1 = true → x3 2 = true → x3 3 = true → x3 4 = true → x3 5 = true → ∀ y3 z3 A3 B3 C3 D3 : Value, ∀ U3 : World, w3 x3 y3 z3 A3 B3 C3 D3 U3 →
 w3 (setD x3 6) A3 z3 A3 B3 C3 D3 U3) ∧
 True) ∧
 ∀ x3 : Nat → Bool, x3 6 = true → x3 5 = true → x3 4 = true → x3 3 = true → x3 2 = true → x3 1 = true → x3 0 = true → ∀ y3 z3 A3 B3 C3 D3 : Value, ∀ V3 : World, w3 x3 y3 z3 A3 B3 C3 D3 V3 →
 (LoadV Tryz.prog 44 e0 V3 fun r0 => R (.returned (.tuple #[r0, z3, y3])) V3)))))))))
theorem calls_i_resolvent {p0 p1 : Value} {w : World} {R : Ending → World → Prop} (h : sh_i_resolvent p0 p1 w R) : Calls Tryz.prog 22 #[p0, p1] w R :=
  calls_sh (.seq none .leaf (.seq none .leaf (.seq none .leaf (.seq none .leaf (.seq none .leaf (.seq none (.seq none .leaf (.one (.loop [35, 9] .leaf))) (.seq none .leaf (.seq none (.seq none .leaf (.one (.loop [53] .leaf))) .leaf)))))))) [p0, p1] mixed Tryz.func22 (by kernel_rfl) (by kernel_rfl) h


/- loop.example/prologserver/impl.ProgramValid : function 23 -/
def sh_i_ProgramValid (p0 : Value) (w : World) (R : Ending → World → Prop) : Prop :=
 RR (sBuiltin .len #[24] 3 [false] [p0]) w fun a0 b0 =>
 RR (sBin .leq 3 false true a0 (Value.int .i64 20)) b0 fun c0 d0 =>
 GuardV c0 true (
 RR (sCall (Value.func (.func 55) #[] #[]) [p0, (Value.func (.func 56) #[] #[])]) d0 fun e0 f0 =>
 RR (sOp (.unOp .not 4 (.const e0)) 4) f0 fun g0 h0 =>
 RR (sOp (.pick (.const c0) (.const g0) (.const (Value.bool false))) 4) h0 fun i0 j0 =>
 R (.returned i0) j0) (
 RR (sOp (.pick (.const c0) (.const undef) (.const (Value.bool false))) 4) d0 fun k0 l0 =>
 R (.returned k0) l0)
theorem calls_i_ProgramValid {p0 : Value} {w : World} {R : Ending → World → Prop} (h : sh_i_ProgramValid p0 w R) : Calls Tryz.prog 23 #[p0] w R :=
  calls_sh .leaf [p0] mixed Tryz.func23 (by kernel_rfl) (by kernel_rfl) h


/- loop.example/prologserver/laws.eqClause : function 24 -/
def sh_l_eqClause (p0 p1 : Value) (w : World) (R : Ending → World → Prop) : Prop :=
 RR (sOp (.box 44 (.const p0)) 0) w fun a0 b0 =>
 RR (sOp (.box 44 (.const p1)) 0) b0 fun c0 d0 =>
 RR (sOp (.fieldAddr 44 (.const a0) 0) 0) d0 fun e0 f0 =>
 RR (sOp (.load 42 (.const e0)) 42) f0 fun g0 h0 =>
 RR (sOp (.fieldAddr 44 (.const c0) 0) 0) h0 fun i0 j0 =>
 RR (sOp (.load 42 (.const i0)) 42) j0 fun k0 l0 =>
 RR (sCall (Value.func (.func 57) #[] #[]) [g0, k0]) l0 fun m0 n0 =>
 RR (sOp (.unOp .not 4 (.const m0)) 4) n0 fun o0 q0 =>
 CondV o0 (
 R (.returned (Value.bool false)) q0) (
 RR (sOp (.fieldAddr 44 (.const a0) 1) 0) q0 fun s0 t0 =>
 RR (sOp (.load 40 (.const s0)) 40) t0 fun u0 v0 =>
 RR (sOp (.fieldAddr 44 (.const c0) 1) 0) v0 fun w0 x0 =>
 RR (sOp (.load 40 (.const w0)) 40) x0 fun y0 z0 =>
 RR (sCall (Value.func (.func 58) #[] #[]) [u0, y0]) z0 fun A0 B0 =>
 RR (sOp (.unOp .not 4 (.const A0)) 4) B0 fun C0 D0 =>
 CondV C0 (
 R (.returned (Value.bool false)) D0) (
 R (.returned (Value.bool true)) D0))
theorem calls_l_eqClause {p0 p1 : Value} {w : World} {R : Ending → World → Prop} (h : sh_l_eqClause p0 p1 w R) : Calls Tryz.prog 24 #[p0, p1] w R :=
  calls_sh .leaf [p0, p1] mixed Tryz.func24 (by kernel_rfl) (by kernel_rfl) h


/- loop.example/prologserver/laws.markText : function 25 -/
def sh_l_markText (p0 : Value) (w : World) (R : Ending → World → Prop) : Prop :=
 RR (sBin .leq 3 false true p0 (Value.int .i64 0)) w fun a0 b0 =>
 CondV a0 (
 R (.returned (Value.string ⟨#[109, 48]⟩)) b0) (
 (∃ (c0 : Value → Value → World → Prop) (d0 : Value → Value → World → Nat), c0 p0 (Value.string ⟨#[]⟩) b0 ∧
 ∀ e0 _ _ f0 _ _ _ _ _ _ _ _ _ _ : Value, ∀ g0 : World, c0 e0 f0 g0 →
 RR (sBin .gtr 3 false true e0 (Value.int .i64 0)) g0 fun h0 i0 =>
 CondV h0 (
 RR (sBin .rem 3 false true e0 (Value.int .i64 10)) i0 fun j0 k0 =>
 RR (sBin .add 3 true false (Value.int .i64 48) j0) k0 fun l0 m0 =>
 RR (sOp (.convert 3 5 (.const l0)) 5) m0 fun n0 o0 =>
 RR (sBuildSlice 80 1 [(0, n0)]) o0 fun q0 s0 =>
 RR (sOp (.convert 80 9 (.const q0)) 9) s0 fun t0 u0 =>
 RR (sBin .add 9 false false t0 f0) u0 fun v0 w0 =>
 RR (sBin .quo 3 false true e0 (Value.int .i64 10)) w0 fun x0 y0 =>
 c0 x0 v0 y0 ∧ d0 x0 v0 y0 < d0 e0 f0 g0) (
 RR (sBin .add 9 true false (Value.string ⟨#[109]⟩) f0) i0 fun z0 A0 =>
 R (.returned z0) A0)))
theorem calls_l_markText {p0 : Value} {w : World} {R : Ending → World → Prop} (h : sh_l_markText p0 w R) : Calls Tryz.prog 25 #[p0] w R :=
  calls_sh (.seq none .leaf (.seq none .leaf (.seq none .leaf (.seq none (.one (.loop [0, 3] .leaf)) .leaf)))) [p0] mixed Tryz.func25 (by kernel_rfl) (by kernel_rfl) h


/- loop.example/prologserver/laws.markTermS : function 26 -/
def sh_l_markTermS (p0 p1 : Value) (w : World) (R : Ending → World → Prop) : Prop :=
 (∃ (a0 : Value → Value → World → Prop) (b0 : Value → Value → World → Nat), a0 (Value.int .i64 0) p1 w ∧
 ∀ c0 _ _ _ _ _ _ _ _ _ _ _ _ _ _ _ _ _ _ _ _ _ _ _ _ d0 _ _ _ _ _ _ _ _ _ _ _ : Value, ∀ e0 : World, a0 c0 d0 e0 →
 RR (sBuiltin .len #[40] 3 [false] [p0]) e0 fun f0 g0 =>
 RR (sBin .lss 3 false false c0 f0) g0 fun h0 i0 =>
 CondV h0 (
 RR (sOp (.indexAddr 40 (.const p0) (.const c0)) 0) i0 fun j0 k0 =>
 RR (sOp (.fieldAddr 42 (.const j0) 0) 0) k0 fun l0 m0 =>
 RR (sOp (.store 3 (.const l0) (.const d0)) 0) m0 fun _u n0 =>
 RR (sBin .add 3 false true d0 (Value.int .i64 1)) n0 fun o0 q0 =>
 RR (sOp (.indexAddr 40 (.const p0) (.const c0)) 0) q0 fun s0 t0 =>
 RR (sOp (.fieldAddr 42 (.const s0) 1) 0) t0 fun u0 v0 =>
 RR (sOp (.store 3 (.const u0) (.const o0)) 0) v0 fun _u w0 =>
 RR (sBin .add 3 false true o0 (Value.int .i64 1)) w0 fun x0 y0 =>
 RR (sCall (Value.func (.func 25) #[] #[]) [x0]) y0 fun z0 A0 =>
 RR (sOp (.indexAddr 40 (.const p0) (.const c0)) 0) A0 fun B0 C0 =>
 RR (sOp (.fieldAddr 42 (.const B0) 2) 0) C0 fun D0 E0 =>
 RR (sOp (.store 9 (.const D0) (.const z0)) 0) E0 fun _ F0 =>
 RR (sBin .add 3 false true x0 (Value.int .i64 1)) F0 fun G0 H0 =>
 RR (sOp (.indexAddr 40 (.const p0) (.const c0)) 0) H0 fun I0 J0 =>
 RR (sOp (.fieldAddr 42 (.const I0) 3) 0) J0 fun K0 L0 =>
 RR (sOp (.load 40 (.const K0)) 40) L0 fun M0 N0 =>
 RR (sCall (Value.func (.func 26) #[] #[]) [M0, G0]) N0 fun O0 P0 =>
 RR (sBin .add 3 false true c0 (Value.int .i64 1)) P0 fun Q0 S0 =>
 a0 Q0 O0 S0 ∧ b0 Q0 O0 S0 < b0 c0 d0 e0) (
 R (.returned d0) i0))
theorem calls_l_markTermS {p0 p1 : Value} {w : World} {R : Ending → World → Prop} (h : sh_l_markTermS p0 p1 w R) : Calls Tryz.prog 26 #[p0, p1] w R :=
  calls_sh (.seq none .leaf (.seq none (.seq none .leaf (.one (.loop [5, 1] .leaf))) .leaf)) [p0, p1] mixed Tryz.func26 (by kernel_rfl) (by kernel_rfl) h


/- loop.example/prologserver/laws.heldTermS : function 27 -/
def sh_l_heldTermS (p0 p1 : Value) (w : World) (R : Ending → World → Prop) : Prop :=
 (∃ (a0 : Value → Value → World → Prop) (b0 : Value → Value → World → Nat), a0 (Value.int .i64 0) p1 w ∧
 ∀ c0 _ _ _ _ _ _ _ _ _ _ _ _ _ d0 e0 f0 g0 h0 i0 j0 k0 _ _ _ _ _ _ _ _ _ l0 _ _ _ _ _ _ _ _ _ _ _ _ _ _ : Value, ∀ m0 : World, a0 c0 l0 m0 →
 RR (sBuiltin .len #[40] 3 [false] [p0]) m0 fun n0 o0 =>
 RR (sBin .lss 3 false false c0 n0) o0 fun q0 s0 =>
 CondV q0 (
 RR (sOp (.indexAddr 40 (.const p0) (.const c0)) 0) s0 fun t0 u0 =>
 RR (sOp (.fieldAddr 42 (.const t0) 0) 0) u0 fun v0 w0 =>
 RR (sOp (.load 3 (.const v0)) 3) w0 fun x0 y0 =>
 RR (sBin .neq 3 false false x0 l0) y0 fun z0 A0 =>
 CondV z0 (
 R (.returned (Value.int .i64 (-1))) A0) (
 RR (sBin .add 3 false true l0 (Value.int .i64 1)) A0 fun B0 C0 =>
 RR (sOp (.indexAddr 40 (.const p0) (.const c0)) 0) C0 fun D0 E0 =>
 RR (sOp (.fieldAddr 42 (.const D0) 1) 0) E0 fun F0 G0 =>
 RR (sOp (.load 3 (.const F0)) 3) G0 fun H0 I0 =>
 RR (sBin .neq 3 false false H0 B0) I0 fun J0 K0 =>
 CondV J0 (
 R (.returned (Value.int .i64 (-1))) K0) (
 RR (sBin .add 3 false true B0 (Value.int .i64 1)) K0 fun L0 M0 =>
 (∃ N0 : (Nat → Bool) → Value → Value → Value → Value → Value → Value → Value → Value → World → Prop, N0 (fun _ => false) d0 e0 f0 g0 h0 i0 j0 k0 { M0 with drawn := M0.drawn + 1 } ∧ (
 (∀ O0 : Nat → Bool, O0 0 = false → ∀ P0 Q0 S0 T0 U0 V0 W0 X0 : Value, ∀ Y0 : World, N0 O0 P0 Q0 S0 T0 U0 V0 W0 X0 Y0 →
 N0 (setD O0 0) P0 Q0 S0 T0 U0 V0 W0 p0 Y0) ∧
 (∀ O0 : Nat → Bool, O0 1 = false → ∀ P0 Q0 S0 T0 U0 V0 W0 X0 : Value, ∀ Z0 : World, N0 O0 P0 Q0 S0 T0 U0 V0 W0 X0 Z0 →
 N0 (setD O0 1) P0 Q0 S0 T0 U0 V0 c0 X0 Z0) ∧
 (∀ O0 : Nat → Bool, O0 2 = false → O0 0 = true → O0 1 = true → ∀ P0 Q0 S0 T0 U0 V0 W0 X0 : Value, ∀ a1 : World, N0 O0 P0 Q0 S0 T0 U0 V0 W0 X0 a1 →
 RR (sOp (.indexAddr 40 (.const X0) (.const W0)) 0) a1 fun b1 c1 =>
 N0 (setD O0 2) P0 Q0 S0 T0 U0 b1 W0 X0 c1) ∧
 (∀ O0 : Nat → Bool, O0 3 = false → O0 2 = true → ∀ P0 Q0 S0 T0 U0 V0 W0 X0 : Value, ∀ d1 : World, N0 O0 P0 Q0 S0 T0 U0 V0 W0 X0 d1 →
 RR (sOp (.fieldAddr 42 (.const V0) 2) 0) d1 fun e1 f1 =>
 N0 (setD O0 3) P0 Q0 S0 T0 e1 V0 W0 X0 f1) ∧
 (∀ O0 : Nat → Bool, O0 4 = false → O0 3 = true → ∀ P0 Q0 S0 T0 U0 V0 W0 X0 : Value, ∀ g1 : World, N0 O0 P0 Q0 S0 T0 U0 V0 W0 X0 g1 →
 RR (sOp (.load 9 (.const U0)) 9) g1 fun h1 i1 =>
 N0 (setD O0 4) P0 Q0 S0 h1 U0 V0 W0 X0 i1) ∧
 (∀ O0 : Nat → Bool, O0 5 = false → ∀ P0 Q0 S0 T0 U0 V0 W0 X0 : Value, ∀ j1 : World, N0 O0 P0 Q0 S0 T0 U0 V0 W0 X0 j1 →
 N0 (setD O0 5) P0 Q0 L0 T0 U0 V0 W0 X0 j1) ∧
 (∀ O0 : Nat → Bool, O0 6 = false → O0 5 = true → ∀ P0 Q0 S0 T0 U0 V0 W0 X0 : Value, ∀ k1 : World, N0 O0 P0 Q0 S0 T0 U0 V0 W0 X0 k1 →
 RR (sCall (Value.func (.func 25) #[] #[]) [S0]) k1 fun l1 m1 =>
 N0 (setD O0 6) P0 l1 S0 T0 U0 V0 W0 X0 m1) ∧
 (∀ O0 : Nat → Bool, O0 7 = false → O0 4 = true → O0 6 = true → ∀ P0 Q0 S0 T0 U0 V0 W0 X0 : Value, ∀ n1 : World, N0 O0 P0 Q0 S0 T0 U0 V0 W0 X0 n1 →
 RR (sBin .neq 9 false false T0 Q0) n1 fun o1 q1 =>
 N0 (setD O0 7) o1 Q0 S0 T0 U0 V0 W0 X0 q1) ∧
 True) ∧
 ∀ O0 : Nat → Bool, O0 7 = true → O0 6 = true → O0 5 = true → O0 4 = true → O0 3 = true → O0 2 = true → O0 1 = true → O0 0 = true → ∀ P0 Q0 S0 T0 U0 V0 W0 X0 : Value, ∀ s1 : World, N0 O0 P0 Q0 S0 T0 U0 V0 W0 X0 s1 →
 CondV P0 (
 R (.returned (Value.int .i64 (-1))) s1) (
 RR (sBin .add 3 false true L0 (Value.int .i64 1)) s1 fun t1 u1 =>
 RR (sOp (.indexAddr 40 (.const p0) (.const c0)) 0) u1 fun v1 w1 =>
 RR (sOp (.fieldAddr 42 (.const v1) 3) 0) w1 fun x1 y1 =>
 RR (sOp (.load 40 (.const x1)) 40) y1 fun z1 A1 =>
 RR (sCall (Value.func (.func 27) #[] #[]) [z1, t1]) A1 fun B1 C1 =>
 RR (sBin .lss 3 false true B1 (Value.int .i64 0)) C1 fun D1 E1 =>
 CondV D1 (
 R (.returned (Value.int .i64 (-1))) E1) (
 RR (sBin .add 3 false true c0 (Value.int .i64 1)) E1 fun F1 G1 =>
 a0 F1 B1 G1 ∧ b0 F1 B1 G1 < b0 c0 l0 m0)))))) (
 R (.returned l0) s0))
theorem calls_l_heldTermS {p0 p1 : Value} {w : World} {R : Ending → World → Prop} (h : sh_l_heldTermS p0 p1 w R) : Calls Tryz.prog 27 #[p0, p1] w R :=
  calls_sh (.seq none .leaf (.seq none (.seq none .leaf (.one (.loop [5, 1] .leaf))) .leaf)) [p0, p1] mixed Tryz.func27 (by kernel_rfl) (by kernel_rfl) h


/- loop.example/prologserver/laws.szTerm : function 28 -/
def sh_l_szTerm (p0 p1 : Value) (w : World) (R : Ending → World → Prop) : Prop :=
 RR (sOp (.box 34 (.const p0)) 0) w fun a0 b0 =>
 RR (sOp (.fieldAddr 34 (.const a0) 2) 0) b0 fun c0 d0 =>
 RR (sOp (.load 9 (.const c0)) 9) d0 fun e0 f0 =>
 RR (sBuiltin .len #[9] 3 [false] [e0]) f0 fun g0 h0 =>
 RR (sBin .sub 3 false false p1 g0) h0 fun i0 j0 =>
 RR (sBin .lss 3 false true i0 (Value.int .i64 0)) j0 fun k0 l0 =>
 CondV k0 (
 R (.returned (Value.int .i64 (-1))) l0) (
 RR (sOp (.fieldAddr 34 (.const a0) 3) 0) l0 fun m0 n0 =>
 RR (sOp (.load 32 (.const m0)) 32) n0 fun o0 q0 =>
 RR (sCall (Value.func (.func 29) #[] #[]) [o0, i0]) q0 fun s0 t0 =>
 RR (sBin .lss 3 false true s0 (Value.int .i64 0)) t0 fun u0 v0 =>
 CondV u0 (
 R (.returned (Value.int .i64 (-1))) v0) (
 R (.returned s0) v0))
theorem calls_l_szTerm {p0 p1 : Value} {w : World} {R : Ending → World → Prop} (h : sh_l_szTerm p0 p1 w R) : Calls Tryz.prog 28 #[p0, p1] w R :=
  calls_sh .leaf [p0, p1] mixed Tryz.func28 (by kernel_rfl) (by kernel_rfl) h


/- loop.example/prologserver/laws.szTermS : function 29 -/
def sh_l_szTermS (p0 p1 : Value) (w : World) (R : Ending → World → Prop) : Prop :=
 RR (sBuiltin .len #[32] 3 [false] [p0]) w fun a0 b0 =>
 RR (sBin .sub 3 false false p1 a0) b0 fun c0 d0 =>
 RR (sBin .lss 3 false true c0 (Value.int .i64 0)) d0 fun e0 f0 =>
 CondV e0 (
 R (.returned (Value.int .i64 (-1))) f0) (
 (∃ (g0 : Value → Value → World → Prop) (h0 : Value → Value → World → Nat), g0 (Value.int .i64 0) c0 f0 ∧
 ∀ i0 _ _ _ _ _ j0 _ _ _ _ _ _ _ _ _ _ : Value, ∀ k0 : World, g0 i0 j0 k0 →
 RR (sBuiltin .len #[32] 3 [false] [p0]) k0 fun l0 m0 =>
 RR (sBin .lss 3 false false i0 l0) m0 fun n0 o0 =>
 CondV n0 (
 RR (sOp (.indexAddr 32 (.const p0) (.const i0)) 0) o0 fun q0 s0 =>
 RR (sOp (.load 34 (.const q0)) 34) s0 fun t0 u0 =>
 RR (sCall (Value.func (.func 28) #[] #[]) [t0, j0]) u0 fun v0 w0 =>
 RR (sBin .lss 3 false true v0 (Value.int .i64 0)) w0 fun x0 y0 =>
 CondV x0 (
 R (.returned (Value.int .i64 (-1))) y0) (
 RR (sBin .add 3 false true i0 (Value.int .i64 1)) y0 fun z0 A0 =>
 g0 z0 v0 A0 ∧ h0 z0 v0 A0 < h0 i0 j0 k0)) (
 R (.returned j0) o0)))
theorem calls_l_szTermS {p0 p1 : Value} {w : World} {R : Ending → World → Prop} (h : sh_l_szTermS p0 p1 w R) : Calls Tryz.prog 29 #[p0, p1] w R :=
  calls_sh (.seq none .leaf (.seq none .leaf (.seq none .leaf (.seq none (.seq none .leaf (.one (.loop [5, 1] .leaf))) .leaf)))) [p0, p1] mixed Tryz.func29 (by kernel_rfl) (by kernel_rfl) h


/- loop.example/prologserver/spec.l15First : function 30 -/
def sh_s_l15First (p0 : Value) (w : World) (R : Ending → World → Prop) : Prop :=
 RR (sOp (.box 44 (.const p0)) 0) w fun a0 b0 =>
 RR (sOp (.fieldAddr 44 (.const a0) 1) 0) b0 fun c0 d0 =>
 RR (sOp (.load 40 (.const c0)) 40) d0 fun e0 f0 =>
 RR (sBuiltin .len #[40] 3 [false] [e0]) f0 fun g0 h0 =>
 RR (sBin .gtr 3 false true g0 (Value.int .i64 0)) h0 fun i0 j0 =>
 GuardV i0 true (
 RR (sOp (.fieldAddr 44 (.const a0) 1) 0) j0 fun k0 l0 =>
 RR (sOp (.load 40 (.const k0)) 40) l0 fun m0 n0 =>
 RR (sOp (.indexAddr 40 (.const m0) (.const (Value.int .i64 0))) 0) n0 fun o0 q0 =>
 RR (sOp (.load 42 (.const o0)) 42) q0 fun s0 t0 =>
 RR (sCall (Value.func (.func 59) #[] #[]) [s0]) t0 fun u0 v0 =>
 RR (sOp (.pick (.const i0) (.const u0) (.const (Value.bool false))) 4) v0 fun w0 x0 =>
 R (.returned w0) x0) (
 RR (sOp (.pick (.const i0) (.const undef) (.const (Value.bool false))) 4) j0 fun y0 z0 =>
 R (.returned y0) z0)
theorem calls_s_l15First {p0 : Value} {w : World} {R : Ending → World → Prop} (h : sh_s_l15First p0 w R) : Calls Tryz.prog 30 #[p0] w R :=
  calls_sh .leaf [p0] mixed Tryz.func30 (by kernel_rfl) (by kernel_rfl) h


/- loop.example/prologserver/spec.l15Cuts : function 31 -/
def sh_s_l15Cuts (p0 : Value) (w : World) (R : Ending → World → Prop) : Prop :=
 RR (sOp (.box 44 (.const p0)) 0) w fun a0 b0 =>
 (∃ (c0 : Value → World → Prop) (d0 : Value → World → Nat), c0 (Value.int .i64 0) b0 ∧
 ∀ e0 _ _ _ _ _ _ _ _ _ _ _ _ _ _ : Value, ∀ f0 : World, c0 e0 f0 →
 RR (sOp (.fieldAddr 44 (.const a0) 1) 0) f0 fun g0 h0 =>
 RR (sOp (.load 40 (.const g0)) 40) h0 fun i0 j0 =>
 RR (sBuiltin .len #[40] 3 [false] [i0]) j0 fun k0 l0 =>
 RR (sBin .lss 3 false false e0 k0) l0 fun m0 n0 =>
 CondV m0 (
 RR (sOp (.fieldAddr 44 (.const a0) 1) 0) n0 fun o0 q0 =>
 RR (sOp (.load 40 (.const o0)) 40) q0 fun s0 t0 =>
 RR (sOp (.indexAddr 40 (.const s0) (.const e0)) 0) t0 fun u0 v0 =>
 RR (sOp (.load 42 (.const u0)) 42) v0 fun w0 x0 =>
 RR (sCall (Value.func (.func 60) #[] #[]) [w0]) x0 fun y0 z0 =>
 CondV y0 (
 R (.returned (Value.bool true)) z0) (
 RR (sBin .add 3 false true e0 (Value.int .i64 1)) z0 fun A0 B0 =>
 c0 A0 B0 ∧ d0 A0 B0 < d0 e0 f0)) (
 R (.returned (Value.bool false)) n0))
theorem calls_s_l15Cuts {p0 : Value} {w : World} {R : Ending → World → Prop} (h : sh_s_l15Cuts p0 w R) : Calls Tryz.prog 31 #[p0] w R :=
  calls_sh (.seq none .leaf (.seq none (.seq none .leaf (.one (.loop [3] .leaf))) .leaf)) [p0] mixed Tryz.func31 (by kernel_rfl) (by kernel_rfl) h


/- loop.example/prologserver/spec.l15Fresh : function 32 -/
def sh_s_l15Fresh (p0 p1 : Value) (w : World) (R : Ending → World → Prop) : Prop :=
 RR (sOp (.box 44 (.const p0)) 0) w fun a0 b0 =>
 RR (sOp (.alloc 44) 0) b0 fun c0 d0 =>
 RR (sOp (.fieldAddr 44 (.const a0) 0) 0) d0 fun e0 f0 =>
 RR (sOp (.load 42 (.const e0)) 42) f0 fun g0 h0 =>
 RR (sCall (Value.func (.func 61) #[] #[]) [g0, p1]) h0 fun i0 j0 =>
 RR (sBuild 44 [(0, i0)]) j0 fun k0 l0 =>
 RR (sOp (.alloc 44) 0) l0 fun m0 n0 =>
 RR (sOp (.store 44 (.const m0) (.const k0)) 0) n0 fun _u o0 =>
 (∃ (q0 : Value → World → Prop) (s0 : Value → World → Nat), q0 (Value.int .i64 0) o0 ∧
 ∀ t0 _ _ u0 v0 w0 x0 y0 z0 A0 B0 C0 D0 E0 F0 _ _ _ _ _ : Value, ∀ G0 : World, q0 t0 G0 →
 RR (sOp (.fieldAddr 44 (.const a0) 1) 0) G0 fun H0 I0 =>
 RR (sOp (.load 40 (.const H0)) 40) I0 fun J0 K0 =>
 RR (sBuiltin .len #[40] 3 [false] [J0]) K0 fun L0 M0 =>
 RR (sBin .lss 3 false false t0 L0) M0 fun N0 O0 =>
 CondV N0 (
 (∃ P0 : (Nat → Bool) → Value → Value → Value → Value → Value → Value → Value → Value → Value → Value → Value → Value → World → Prop, P0 (fun _ => false) u0 v0 w0 x0 y0 z0 A0 B0 C0 D0 E0 F0 { O0 with drawn := O0.drawn + 1 } ∧ (
 (∀ Q0 : Nat → Bool, Q0 0 = false → ∀ S0 T0 U0 V0 W0 X0 Y0 Z0 a1 b1 c1 d1 : Value, ∀ e1 : World, P0 Q0 S0 T0 U0 V0 W0 X0 Y0 Z0 a1 b1 c1 d1 e1 →
 RR (sOp (.fieldAddr 44 (.const m0) 1) 0) e1 fun f1 g1 =>
 P0 (setD Q0 0) S0 T0 U0 V0 W0 X0 Y0 Z0 a1 b1 c1 f1 g1) ∧
 (∀ Q0 : Nat → Bool, Q0 1 = false → Q0 0 = true → ∀ S0 T0 U0 V0 W0 X0 Y0 Z0 a1 b1 c1 d1 : Value, ∀ h1 : World, P0 Q0 S0 T0 U0 V0 W0 X0 Y0 Z0 a1 b1 c1 d1 h1 →
 RR (sOp (.load 40 (.const d1)) 40) h1 fun i1 j1 =>
 P0 (setD Q0 1) S0 T0 U0 V0 W0 X0 Y0 Z0 a1 b1 i1 d1 j1) ∧
 (∀ Q0 : Nat → Bool, Q0 2 = false → ∀ S0 T0 U0 V0 W0 X0 Y0 Z0 a1 b1 c1 d1 : Value, ∀ k1 : World, P0 Q0 S0 T0 U0 V0 W0 X0 Y0 Z0 a1 b1 c1 d1 k1 →
 RR (sOp (.fieldAddr 44 (.const a0) 1) 0) k1 fun l1 m1 =>
 P0 (setD Q0 2) S0 T0 U0 V0 W0 X0 Y0 Z0 a1 l1 c1 d1 m1) ∧
 (∀ Q0 : Nat → Bool, Q0 3 = false → Q0 2 = true → ∀ S0 T0 U0 V0 W0 X0 Y0 Z0 a1 b1 c1 d1 : Value, ∀ n1 : World, P0 Q0 S0 T0 U0 V0 W0 X0 Y0 Z0 a1 b1 c1 d1 n1 →
 RR (sOp (.load 40 (.const b1)) 40) n1 fun o1 q1 =>
 P0 (setD Q0 3) S0 T0 U0 V0 W0 X0 Y0 Z0 o1 b1 c1 d1 q1) ∧
 (∀ Q0 : Nat → Bool, Q0 4 = false → ∀ S0 T0 U0 V0 W0 X0 Y0 Z0 a1 b1 c1 d1 : Value, ∀ s1 : World, P0 Q0 S0 T0 U0 V0 W0 X0 Y0 Z0 a1 b1 c1 d1 s1 →
 P0 (setD Q0 4) S0 T0 U0 V0 W0 X0 Y0 t0 a1 b1 c1 d1 s1) ∧
 (∀ Q0 : Nat → Bool, Q0 5 = false → Q0 3 = true → Q0 4 = true → ∀ S0 T0 U0 V0 W0 X0 Y0 Z0 a1 b1 c1 d1 : Value, ∀ t1 : World, P0 Q0 S0 T0 U0 V0 W0 X0 Y0 Z0 a1 b1 c1 d1 t1 →
 RR (sOp (.indexAddr 40 (.const a1) (.const Z0)) 0) t1 fun u1 v1 =>
 P0 (setD Q0 5) S0 T0 U0 V0 W0 X0 u1 Z0 a1 b1 c1 d1 v1) ∧
 (∀ Q0 : Nat → Bool, Q0 6 = false → Q0 5 = true → ∀ S0 T0 U0 V0 W0 X0 Y0 Z0 a1 b1 c1 d1 : Value, ∀ w1 : World, P0 Q0 S0 T0 U0 V0 W0 X0 Y0 Z0 a1 b1 c1 d1 w1 →
 RR (sOp (.load 42 (.const Y0)) 42) w1 fun x1 y1 =>
 P0 (setD Q0 6) S0 T0 U0 V0 W0 x1 Y0 Z0 a1 b1 c1 d1 y1) ∧
 (∀ Q0 : Nat → Bool, Q0 7 = false → ∀ S0 T0 U0 V0 W0 X0 Y0 Z0 a1 b1 c1 d1 : Value, ∀ z1 : World, P0 Q0 S0 T0 U0 V0 W0 X0 Y0 Z0 a1 b1 c1 d1 z1 →
 P0 (setD Q0 7) S0 T0 U0 V0 p1 X0 Y0 Z0 a1 b1 c1 d1 z1) ∧
 (∀ Q0 : Nat → Bool, Q0 8 = false → Q0 6 = true → Q0 7 = true → ∀ S0 T0 U0 V0 W0 X0 Y0 Z0 a1 b1 c1 d1 : Value, ∀ A1 : World, P0 Q0 S0 T0 U0 V0 W0 X0 Y0 Z0 a1 b1 c1 d1 A1 →
 RR (sCall (Value.func (.func 61) #[] #[]) [X0, W0]) A1 fun B1 C1 =>
 P0 (setD Q0 8) S0 T0 U0 B1 W0 X0 Y0 Z0 a1 b1 c1 d1 C1) ∧
 (∀ Q0 : Nat → Bool, Q0 9 = false → Q0 8 = true → ∀ S0 T0 U0 V0 W0 X0 Y0 Z0 a1 b1 c1 d1 : Value, ∀ D1 : World, P0 Q0 S0 T0 U0 V0 W0 X0 Y0 Z0 a1 b1 c1 d1 D1 →
 RR (sBuildSlice 40 1 [(0, V0)]) D1 fun E1 F1 =>
 P0 (setD Q0 9) S0 T0 E1 V0 W0 X0 Y0 Z0 a1 b1 c1 d1 F1) ∧
 (∀ Q0 : Nat → Bool, Q0 10 = false → Q0 1 = true → Q0 9 = true → Q0 8 = true → ∀ S0 T0 U0 V0 W0 X0 Y0 Z0 a1 b1 c1 d1 : Value, ∀ G1 : World, P0 Q0 S0 T0 U0 V0 W0 X0 Y0 Z0 a1 b1 c1 d1 G1 →
 RR (sBuiltin .append #[40, 40] 40 [false, false] [c1, U0]) G1 fun H1 I1 =>
 P0 (setD Q0 10) S0 H1 U0 V0 W0 X0 Y0 Z0 a1 b1 c1 d1 I1) ∧
 (∀ Q0 : Nat → Bool, Q0 11 = false → Q0 0 = true → Q0 1 = true → Q0 2 = true → Q0 3 = true → Q0 4 = true → Q0 5 = true → Q0 6 = true → Q0 7 = true → Q0 8 = true → Q0 9 = true → Q0 10 = true → ∀ S0 T0 U0 V0 W0 X0 Y0 Z0 a1 b1 c1 d1 : Value, ∀ J1 : World, P0 Q0 S0 T0 U0 V0 W0 X0 Y0 Z0 a1 b1 c1 d1 J1 →
 RR (sOp (.fieldAddr 44 (.const m0) 1) 0) J1 fun K1 L1 =>
 P0 (setD Q0 11) K1 T0 U0 V0 W0 X0 Y0 Z0 a1 b1 c1 d1 L1) ∧
 (∀ Q0 : Nat → Bool, Q0 12 = false → Q0 11 = true → Q0 10 = true → Q0 10 = true → Q0 0 = true → Q0 1 = true → Q0 2 = true → Q0 3 = true → Q0 4 = true → Q0 5 = true → Q0 6 = true → Q0 7 = true → Q0 8 = true → Q0 9 = true → Q0 10 = true → ∀ S0 T0 U0 V0 W0 X0 Y0 Z0 a1 b1 c1 d1 : Value, ∀ M1 : World, P0 Q0 S0 T0 U0 V0 W0 X0 Y0 Z0 a1 b1 c1 d1 M1 →
 RR (sOp (.store 40 (.const S0) (.const T0)) 0) M1 fun _u N1 =>
 P0 (setD Q0 12) S0 T0 U0 V0 W0 X0 Y0 Z0 a1 b1 c1 d1 N1) ∧
 True) ∧
 ∀ Q0 : Nat → Bool, Q0 12 = true → Q0 11 = true → Q0 10 = true → Q0 9 = true → Q0 8 = true → Q0 7 = true → Q0 6 = true → Q0 5 = true → Q0 4 = true → Q0 3 = true → Q0 2 = true → Q0 1 = true → Q0 0 = true → ∀ S0 T0 U0 V0 W0 X0 Y0 Z0 a1 b1 c1 d1 : Value, ∀ O1 : World, P0 Q0 S0 T0 U0 V0 W0 X0 Y0 Z0 a1 b1 c1 d1 O1 →
 RR (sBin .add 3 false true t0 (Value.int .i64 1)) O1 fun P1 Q1 =>
 q0 P1 Q1 ∧ s0 P1 Q1 < s0 t0 G0)) (
 RR (sOp (.load 44 (.const m0)) 44) O0 fun S1 T1 =>
 RR (sOp (.store 44 (.const c0) (.const S1)) 0) T1 fun _ U1 =>
 (LoadV Tryz.prog 44 c0 U1 fun r0 => R (.returned r0) U1)))
theorem calls_s_l15Fresh {p0 p1 : Value} {w : World} {R : Ending → World → Prop} (h : sh_s_l15Fresh p0 p1 w R) : Calls Tryz.prog 32 #[p0, p1] w R :=
  calls_sh (.seq none .leaf (.seq none .leaf (.seq none (.seq none .leaf (.one (.loop [6] .leaf))) .leaf))) [p0, p1] mixed Tryz.func32 (by kernel_rfl) (by kernel_rfl) h


/- loop.example/prologserver/spec.l3Unify : function 33 -/
def sh_s_l3Unify (p0 p1 p2 : Value) (w : World) (R : Ending → World → Prop) : Prop :=
 RR (sOp (.box 42 (.const p0)) 0) w fun a0 b0 =>
 RR (sOp (.box 42 (.const p1)) 0) b0 fun c0 d0 =>
 RR (sOp (.load 42 (.const a0)) 42) d0 fun e0 f0 =>
 RR (sCall (Value.func (.func 62) #[] #[]) [e0, p2]) f0 fun g0 h0 =>
 RR (sOp (.store 42 (.const a0) (.const g0)) 0) h0 fun _u i0 =>
 RR (sOp (.load 42 (.const c0)) 42) i0 fun j0 k0 =>
 RR (sCall (Value.func (.func 62) #[] #[]) [j0, p2]) k0 fun l0 m0 =>
 RR (sOp (.store 42 (.const c0) (.const l0)) 0) m0 fun _u n0 =>
 (∃ o0 : Value → World → Prop, (
 RR (sOp (.fieldAddr 42 (.const a0) 0) 0) n0 fun q0 s0 =>
 RR (sOp (.load 3 (.const q0)) 3) s0 fun t0 u0 =>
 RR (sBin .eql 3 false true t0 (Value.int .i64 1)) u0 fun v0 w0 =>
 GuardV v0 true (
 RR (sOp (.fieldAddr 42 (.const c0) 0) 0) w0 fun x0 y0 =>
 RR (sOp (.load 3 (.const x0)) 3) y0 fun z0 A0 =>
 RR (sBin .eql 3 false true z0 (Value.int .i64 1)) A0 fun B0 C0 =>
 RR (sOp (.pick (.const v0) (.const B0) (.const (Value.bool false))) 4) C0 fun D0 E0 =>
 GuardV D0 true (
 RR (sOp (.fieldAddr 42 (.const a0) 1) 0) E0 fun F0 G0 =>
 RR (sOp (.load 3 (.const F0)) 3) G0 fun H0 I0 =>
 RR (sOp (.fieldAddr 42 (.const c0) 1) 0) I0 fun J0 K0 =>
 RR (sOp (.load 3 (.const J0)) 3) K0 fun L0 M0 =>
 RR (sBin .eql 3 false false H0 L0) M0 fun N0 O0 =>
 RR (sOp (.pick (.const D0) (.const N0) (.const (Value.bool false))) 4) O0 fun P0 Q0 =>
 o0 P0 Q0) (
 RR (sOp (.pick (.const D0) (.const undef) (.const (Value.bool false))) 4) E0 fun S0 T0 =>
 o0 S0 T0)) (
 RR (sOp (.pick (.const v0) (.const undef) (.const (Value.bool false))) 4) w0 fun U0 V0 =>
 GuardV U0 true (
 RR (sOp (.fieldAddr 42 (.const a0) 1) 0) V0 fun W0 X0 =>
 RR (sOp (.load 3 (.const W0)) 3) X0 fun Y0 Z0 =>
 RR (sOp (.fieldAddr 42 (.const c0) 1) 0) Z0 fun a1 b1 =>
 RR (sOp (.load 3 (.const a1)) 3) b1 fun c1 d1 =>
 RR (sBin .eql 3 false false Y0 c1) d1 fun e1 f1 =>
 RR (sOp (.pick (.const U0) (.const e1) (.const (Value.bool false))) 4) f1 fun g1 h1 =>
 o0 g1 h1) (
 RR (sOp (.pick (.const U0) (.const undef) (.const (Value.bool false))) 4) V0 fun i1 j1 =>
 o0 i1 j1))) ∧
 ∀ k1 _ _ _ _ _ _ _ _ _ _ _ _ _ _ : Value, ∀ l1 : World, o0 k1 l1 →
 CondV k1 (
 R (.returned (Value.bool true)) l1) (
 RR (sOp (.fieldAddr 42 (.const a0) 0) 0) l1 fun m1 n1 =>
 RR (sOp (.load 3 (.const m1)) 3) n1 fun o1 q1 =>
 RR (sBin .eql 3 false true o1 (Value.int .i64 1)) q1 fun s1 t1 =>
 CondV s1 (
 RR (sOp (.fieldAddr 42 (.const a0) 1) 0) t1 fun u1 v1 =>
 RR (sOp (.load 3 (.const u1)) 3) v1 fun w1 x1 =>
 RR (sOp (.load 42 (.const c0)) 42) x1 fun y1 z1 =>
 RR (sCall (Value.func (.func 63) #[] #[]) [w1, y1, p2]) z1 fun A1 B1 =>
 CondV A1 (
 R (.returned (Value.bool false)) B1) (
 RR (sOp (.fieldAddr 42 (.const a0) 1) 0) B1 fun C1 D1 =>
 RR (sOp (.load 3 (.const C1)) 3) D1 fun E1 F1 =>
 RR (sOp (.load 42 (.const c0)) 42) F1 fun G1 H1 =>
 RR (sOp (.indexAddr 40 (.const p2) (.const E1)) 0) H1 fun I1 J1 =>
 RR (sOp (.store 42 (.const I1) (.const G1)) 0) J1 fun _ K1 =>
 R (.returned (Value.bool true)) K1)) (
 RR (sOp (.fieldAddr 42 (.const c0) 0) 0) t1 fun L1 M1 =>
 RR (sOp (.load 3 (.const L1)) 3) M1 fun N1 O1 =>
 RR (sBin .eql 3 false true N1 (Value.int .i64 1)) O1 fun P1 Q1 =>
 CondV P1 (
 RR (sOp (.load 42 (.const c0)) 42) Q1 fun S1 T1 =>
 RR (sOp (.load 42 (.const a0)) 42) T1 fun U1 V1 =>
 RR (sCall (Value.func (.func 33) #[] #[]) [S1, U1, p2]) V1 fun W1 X1 =>
 R (.returned W1) X1) (
 (∃ Y1 : Value → World → Prop, (
 RR (sOp (.fieldAddr 42 (.const a0) 0) 0) Q1 fun Z1 a2 =>
 RR (sOp (.load 3 (.const Z1)) 3) a2 fun b2 c2 =>
 RR (sOp (.fieldAddr 42 (.const c0) 0) 0) c2 fun d2 e2 =>
 RR (sOp (.load 3 (.const d2)) 3) e2 fun f2 g2 =>
 RR (sBin .neq 3 false false b2 f2) g2 fun h2 i2 =>
 GuardV h2 false (
 RR (sOp (.fieldAddr 42 (.const a0) 1) 0) i2 fun j2 k2 =>
 RR (sOp (.load 3 (.const j2)) 3) k2 fun l2 m2 =>
 RR (sOp (.fieldAddr 42 (.const c0) 1) 0) m2 fun n2 o2 =>
 RR (sOp (.load 3 (.const n2)) 3) o2 fun q2 s2 =>
 RR (sBin .neq 3 false false l2 q2) s2 fun t2 u2 =>
 RR (sOp (.pick (.const h2) (.const (Value.bool true)) (.const t2)) 4) u2 fun v2 w2 =>
 GuardV v2 false (
 RR (sOp (.fieldAddr 42 (.const a0) 2) 0) w2 fun x2 y2 =>
 RR (sOp (.load 9 (.const x2)) 9) y2 fun z2 A2 =>
 RR (sOp (.fieldAddr 42 (.const c0) 2) 0) A2 fun B2 C2 =>
 RR (sOp (.load 9 (.const B2)) 9) C2 fun D2 E2 =>
 RR (sBin .neq 9 false false z2 D2) E2 fun F2 G2 =>
 RR (sOp (.pick (.const v2) (.const (Value.bool true)) (.const F2)) 4) G2 fun H2 I2 =>
 GuardV H2 false (
 RR (sOp (.fieldAddr 42 (.const a0) 3) 0) I2 fun J2 K2 =>
 RR (sOp (.load 40 (.const J2)) 40) K2 fun L2 M2 =>
 RR (sBuiltin .len #[40] 3 [false] [L2]) M2 fun N2 O2 =>
 RR (sOp (.fieldAddr 42 (.const c0) 3) 0) O2 fun P2 Q2 =>
 RR (sOp (.load 40 (.const P2)) 40) Q2 fun S2 T2 =>
 RR (sBuiltin .len #[40] 3 [false] [S2]) T2 fun U2 V2 =>
 RR (sBin .neq 3 false false N2 U2) V2 fun W2 X2 =>
 RR (sOp (.pick (.const H2) (.const (Value.bool true)) (.const W2)) 4) X2 fun Y2 Z2 =>
 Y1 Y2 Z2) (
 RR (sOp (.pick (.const H2) (.const (Value.bool true)) (.const undef)) 4) I2 fun a3 b3 =>
 Y1 a3 b3)) (
 RR (sOp (.pick (.const v2) (.const (Value.bool true)) (.const undef)) 4) w2 fun c3 d3 =>
 GuardV c3 false (
 RR (sOp (.fieldAddr 42 (.const a0) 3) 0) d3 fun e3 f3 =>
 RR (sOp (.load 40 (.const e3)) 40) f3 fun g3 h3 =>
 RR (sBuiltin .len #[40] 3 [false] [g3]) h3 fun i3 j3 =>
 RR (sOp (.fieldAddr 42 (.const c0) 3) 0) j3 fun k3 l3 =>
 RR (sOp (.load 40 (.const k3)) 40) l3 fun m3 n3 =>
 RR (sBuiltin .len #[40] 3 [false] [m3]) n3 fun o3 q3 =>
 RR (sBin .neq 3 false false i3 o3) q3 fun s3 t3 =>
 RR (sOp (.pick (.const c3) (.const (Value.bool true)) (.const s3)) 4) t3 fun u3 v3 =>
 Y1 u3 v3) (
 RR (sOp (.pick (.const c3) (.const (Value.bool true)) (.const undef)) 4) d3 fun w3 x3 =>
 Y1 w3 x3))) (
 RR (sOp (.pick (.const h2) (.const (Value.bool true)) (.const undef)) 4) i2 fun y3 z3 =>
 GuardV y3 false (
 RR (sOp (.fieldAddr 42 (.const a0) 2) 0) z3 fun A3 B3 =>
 RR (sOp (.load 9 (.const A3)) 9) B3 fun C3 D3 =>
 RR (sOp (.fieldAddr 42 (.const c0) 2) 0) D3 fun E3 F3 =>
 RR (sOp (.load 9 (.const E3)) 9) F3 fun G3 H3 =>
 RR (sBin .neq 9 false false C3 G3) H3 fun I3 J3 =>
 RR (sOp (.pick (.const y3) (.const (Value.bool true)) (.const I3)) 4) J3 fun K3 L3 =>
 GuardV K3 false (
 RR (sOp (.fieldAddr 42 (.const a0) 3) 0) L3 fun M3 N3 =>
 RR (sOp (.load 40 (.const M3)) 40) N3 fun O3 P3 =>
 RR (sBuiltin .len #[40] 3 [false] [O3]) P3 fun Q3 S3 =>
 RR (sOp (.fieldAddr 42 (.const c0) 3) 0) S3 fun T3 U3 =>
 RR (sOp (.load 40 (.const T3)) 40) U3 fun V3 W3 =>
 RR (sBuiltin .len #[40] 3 [false] [V3]) W3 fun X3 Y3 =>
 RR (sBin .neq 3 false false Q3 X3) Y3 fun Z3 a4 =>
 RR (sOp (.pick (.const K3) (.const (Value.bool true)) (.const Z3)) 4) a4 fun b4 c4 =>
 Y1 b4 c4) (
 RR (sOp (.pick (.const K3) (.const (Value.bool true)) (.const undef)) 4) L3 fun d4 e4 =>
 Y1 d4 e4)) (
 RR (sOp (.pick (.const y3) (.const (Value.bool true)) (.const undef)) 4) z3 fun f4 g4 =>
 GuardV f4 false (
 RR (sOp (.fieldAddr 42 (.const a0) 3) 0) g4 fun h4 i4 =>
 RR (sOp (.load 40 (.const h4)) 40) i4 fun j4 k4 =>
 RR (sBuiltin .len #[40] 3 [false] [j4]) k4 fun l4 m4 =>
 RR (sOp (.fieldAddr 42 (.const c0) 3) 0) m4 fun n4 o4 =>
 RR (sOp (.load 40 (.const n4)) 40) o4 fun q4 s4 =>
 RR (sBuiltin .len #[40] 3 [false] [q4]) s4 fun t4 u4 =>
 RR (sBin .neq 3 false false l4 t4) u4 fun v4 w4 =>
 RR (sOp (.pick (.const f4) (.const (Value.bool true)) (.const v4)) 4) w4 fun x4 y4 =>
 Y1 x4 y4) (
 RR (sOp (.pick (.const f4) (.const (Value.bool true)) (.const undef)) 4) g4 fun z4 A4 =>
 Y1 z4 A4)))) ∧
 ∀ B4 _ _ _ _ _ _ _ _ _ _ _ _ _ _ _ _ _ _ _ _ _ _ _ _ _ _ _ : Value, ∀ C4 : World, Y1 B4 C4 →
 CondV B4 (
 R (.returned (Value.bool false)) C4) (
 (∃ (D4 : Value → World → Prop) (E4 : Value → World → Nat), D4 (Value.int .i64 0) C4 ∧
 ∀ F4 _ _ _ G4 H4 I4 J4 K4 L4 M4 N4 O4 P4 Q4 S4 T4 _ _ _ _ _ : Value, ∀ U4 : World, D4 F4 U4 →
 RR (sOp (.fieldAddr 42 (.const a0) 3) 0) U4 fun V4 W4 =>
 RR (sOp (.load 40 (.const V4)) 40) W4 fun X4 Y4 =>
 RR (sBuiltin .len #[40] 3 [false] [X4]) Y4 fun Z4 a5 =>
 RR (sBin .lss 3 false false F4 Z4) a5 fun b5 c5 =>
 CondV b5 (
 (∃ d5 : (Nat → Bool) → Value → Value → Value → Value → Value → Value → Value → Value → Value → Value → Value → Value → Value → World → Prop, d5 (fun _ => false) G4 H4 I4 J4 K4 L4 M4 N4 O4 P4 Q4 S4 T4 { c5 with drawn := c5.drawn + 1 } ∧ (
 (∀ e5 : Nat → Bool, e5 0 = false → ∀ f5 g5 h5 i5 j5 k5 l5 m5 n5 o5 q5 s5 t5 : Value, ∀ u5 : World, d5 e5 f5 g5 h5 i5 j5 k5 l5 m5 n5 o5 q5 s5 t5 u5 →
 RR (sOp (.fieldAddr 42 (.const a0) 3) 0) u5 fun v5 w5 =>
 d5 (setD e5 0) f5 g5 h5 i5 j5 k5 l5 m5 n5 o5 q5 s5 v5 w5) ∧
 (∀ e5 : Nat → Bool, e5 1 = false → e5 0 = true → ∀ f5 g5 h5 i5 j5 k5 l5 m5 n5 o5 q5 s5 t5 : Value, ∀ x5 : World, d5 e5 f5 g5 h5 i5 j5 k5 l5 m5 n5 o5 q5 s5 t5 x5 →
 RR (sOp (.load 40 (.const t5)) 40) x5 fun y5 z5 =>
 d5 (setD e5 1) f5 g5 h5 i5 j5 k5 l5 m5 n5 o5 q5 y5 t5 z5) ∧
 (∀ e5 : Nat → Bool, e5 2 = false → ∀ f5 g5 h5 i5 j5 k5 l5 m5 n5 o5 q5 s5 t5 : Value, ∀ A5 : World, d5 e5 f5 g5 h5 i5 j5 k5 l5 m5 n5 o5 q5 s5 t5 A5 →
 d5 (setD e5 2) f5 g5 h5 i5 j5 k5 l5 m5 n5 o5 F4 s5 t5 A5) ∧
 (∀ e5 : Nat → Bool, e5 3 = false → e5 1 = true → e5 2 = true → ∀ f5 g5 h5 i5 j5 k5 l5 m5 n5 o5 q5 s5 t5 : Value, ∀ B5 : World, d5 e5 f5 g5 h5 i5 j5 k5 l5 m5 n5 o5 q5 s5 t5 B5 →
 RR (sOp (.indexAddr 40 (.const s5) (.const q5)) 0) B5 fun C5 D5 =>
 d5 (setD e5 3) f5 g5 h5 i5 j5 k5 l5 m5 n5 C5 q5 s5 t5 D5) ∧
 (∀ e5 : Nat → Bool, e5 4 = false → e5 3 = true → ∀ f5 g5 h5 i5 j5 k5 l5 m5 n5 o5 q5 s5 t5 : Value, ∀ E5 : World, d5 e5 f5 g5 h5 i5 j5 k5 l5 m5 n5 o5 q5 s5 t5 E5 →
 RR (sOp (.load 42 (.const o5)) 42) E5 fun F5 G5 =>
 d5 (setD e5 4) f5 g5 h5 i5 j5 k5 l5 m5 F5 o5 q5 s5 t5 G5) ∧
 (∀ e5 : Nat → Bool, e5 5 = false → ∀ f5 g5 h5 i5 j5 k5 l5 m5 n5 o5 q5 s5 t5 : Value, ∀ H5 : World, d5 e5 f5 g5 h5 i5 j5 k5 l5 m5 n5 o5 q5 s5 t5 H5 →
 RR (sOp (.fieldAddr 42 (.const c0) 3) 0) H5 fun I5 J5 =>
 d5 (setD e5 5) f5 g5 h5 i5 j5 k5 l5 I5 n5 o5 q5 s5 t5 J5) ∧
 (∀ e5 : Nat → Bool, e5 6 = false → e5 5 = true → ∀ f5 g5 h5 i5 j5 k5 l5 m5 n5 o5 q5 s5 t5 : Value, ∀ K5 : World, d5 e5 f5 g5 h5 i5 j5 k5 l5 m5 n5 o5 q5 s5 t5 K5 →
 RR (sOp (.load 40 (.const m5)) 40) K5 fun L5 M5 =>
 d5 (setD e5 6) f5 g5 h5 i5 j5 k5 L5 m5 n5 o5 q5 s5 t5 M5) ∧
 (∀ e5 : Nat → Bool, e5 7 = false → ∀ f5 g5 h5 i5 j5 k5 l5 m5 n5 o5 q5 s5 t5 : Value, ∀ N5 : World, d5 e5 f5 g5 h5 i5 j5 k5 l5 m5 n5 o5 q5 s5 t5 N5 →
 d5 (setD e5 7) f5 g5 h5 i5 j5 F4 l5 m5 n5 o5 q5 s5 t5 N5) ∧
 (∀ e5 : Nat → Bool, e5 8 = false → e5 6 = true → e5 7 = true → ∀ f5 g5 h5 i5 j5 k5 l5 m5 n5 o5 q5 s5 t5 : Value, ∀ O5 : World, d5 e5 f5 g5 h5 i5 j5 k5 l5 m5 n5 o5 q5 s5 t5 O5 →
 RR (sOp (.indexAddr 40 (.const l5) (.const k5)) 0) O5 fun P5 Q5 =>
 d5 (setD e5 8) f5 g5 h5 i5 P5 k5 l5 m5 n5 o5 q5 s5 t5 Q5) ∧
 (∀ e5 : Nat → Bool, e5 9 = false → e5 8 = true → ∀ f5 g5 h5 i5 j5 k5 l5 m5 n5 o5 q5 s5 t5 : Value, ∀ S5 : World, d5 e5 f5 g5 h5 i5 j5 k5 l5 m5 n5 o5 q5 s5 t5 S5 →
 RR (sOp (.load 42 (.const j5)) 42) S5 fun T5 U5 =>
 d5 (setD e5 9) f5 g5 h5 T5 j5 k5 l5 m5 n5 o5 q5 s5 t5 U5) ∧
 (∀ e5 : Nat → Bool, e5 10 = false → ∀ f5 g5 h5 i5 j5 k5 l5 m5 n5 o5 q5 s5 t5 : Value, ∀ V5 : World, d5 e5 f5 g5 h5 i5 j5 k5 l5 m5 n5 o5 q5 s5 t5 V5 →
 d5 (setD e5 10) f5 g5 p2 i5 j5 k5 l5 m5 n5 o5 q5 s5 t5 V5) ∧
 (∀ e5 : Nat → Bool, e5 11 = false → e5 4 = true → e5 9 = true → e5 10 = true → ∀ f5 g5 h5 i5 j5 k5 l5 m5 n5 o5 q5 s5 t5 : Value, ∀ W5 : World, d5 e5 f5 g5 h5 i5 j5 k5 l5 m5 n5 o5 q5 s5 t5 W5 →
 RR (sCall (Value.func (.func 33) #[] #[]) [n5, i5, h5]) W5 fun X5 Y5 =>
 d5 (setD e5 11) f5 X5 h5 i5 j5 k5 l5 m5 n5 o5 q5 s5 t5 Y5) ∧
 (∀ e5 : Nat → Bool, e5 12 = false → e5 11 = true → ∀ f5 g5 h5 i5 j5 k5 l5 m5 n5 o5 q5 s5 t5 : Value, ∀ Z5 : World, d5 e5 f5 g5 h5 i5 j5 k5 l5 m5 n5 o5 q5 s5 t5 Z5 →
 RR (sOp (.unOp .not 4 (.const g5)) 4) Z5 fun a6 b6 =>
 d5 (setD e5 12) a6 g5 h5 i5 j5 k5 l5 m5 n5 o5 q5 s5 t5 b6) ∧
 True) ∧
 ∀ e5 : Nat → Bool, e5 12 = true → e5 11 = true → e5 10 = true → e5 9 = true → e5 8 = true → e5 7 = true → e5 6 = true → e5 5 = true → e5 4 = true → e5 3 = true → e5 2 = true → e5 1 = true → e5 0 = true → ∀ f5 g5 h5 i5 j5 k5 l5 m5 n5 o5 q5 s5 t5 : Value, ∀ c6 : World, d5 e5 f5 g5 h5 i5 j5 k5 l5 m5 n5 o5 q5 s5 t5 c6 →
 CondV f5 (
 R (.returned (Value.bool false)) c6) (
 RR (sBin .add 3 false true F4 (Value.int .i64 1)) c6 fun d6 e6 =>
 D4 d6 e6 ∧ E4 d6 e6 < E4 F4 U4))) (
 R (.returned (Value.bool true)) c5))))))))
theorem calls_s_l3Unify {p0 p1 p2 : Value} {w : World} {R : Ending → World → Prop} (h : sh_s_l3Unify p0 p1 p2 w R) : Calls Tryz.prog 33 #[p0, p1, p2] w R :=
  calls_sh (.seq none .leaf (.seq none .leaf (.seq none .leaf (.seq none (.seq (some [28]) .leaf .leaf) (.seq none .leaf (.seq none .leaf (.seq none (.seq (some [76]) .leaf .leaf) (.seq none (.seq none .leaf (.one (.loop [7] .leaf))) .leaf)))))))) [p0, p1, p2] mixed Tryz.func33 (by kernel_rfl) (by kernel_rfl) h


/- loop.example/prologserver/spec.l6Small : function 34 -/
def sh_s_l6Small (p0 p1 : Value) (w : World) (R : Ending → World → Prop) : Prop :=
 RR (sOp (.box 42 (.const p0)) 0) w fun a0 b0 =>
 RR (sOp (.alloc 42) 0) b0 fun c0 d0 =>
 RR (sOp (.load 42 (.const a0)) 42) d0 fun e0 f0 =>
 RR (sCall (Value.func (.func 64) #[] #[]) [e0, p1, (Value.int .i64 120)]) f0 fun g0 h0 =>
 RR (sOp (.extract (.const g0) 0) 42) h0 fun i0 j0 =>
 RR (sOp (.extract (.const g0) 1) 3) j0 fun k0 l0 =>
 RR (sOp (.alloc 42) 0) l0 fun m0 n0 =>
 RR (sOp (.store 42 (.const m0) (.const i0)) 0) n0 fun _u o0 =>
 (∃ q0 : (Nat → Bool) → Value → Value → Value → Value → Value → Value → Value → Value → World → Prop, q0 (fun _ => false) (Value.bool false) undef undef undef undef undef undef undef { o0 with drawn := o0.drawn + 1 } ∧ (
 (∀ s0 : Nat → Bool, s0 0 = false → ∀ t0 u0 v0 w0 x0 y0 z0 A0 : Value, ∀ B0 : World, q0 s0 t0 u0 v0 w0 x0 y0 z0 A0 B0 →
 RR (sOp (.load 42 (.const m0)) 42) B0 fun C0 D0 =>
 q0 (setD s0 0) t0 u0 v0 w0 x0 y0 z0 C0 D0) ∧
 (∀ s0 : Nat → Bool, s0 1 = false → ∀ t0 u0 v0 w0 x0 y0 z0 A0 : Value, ∀ E0 : World, q0 s0 t0 u0 v0 w0 x0 y0 z0 A0 E0 →
 q0 (setD s0 1) t0 u0 v0 w0 x0 y0 k0 A0 E0) ∧
 (∀ s0 : Nat → Bool, s0 2 = false → s0 1 = true → ∀ t0 u0 v0 w0 x0 y0 z0 A0 : Value, ∀ F0 : World, q0 s0 t0 u0 v0 w0 x0 y0 z0 A0 F0 →
 RR (sBin .geq 3 false true z0 (Value.int .i64 0)) F0 fun G0 H0 =>
 q0 (setD s0 2) t0 u0 v0 w0 x0 G0 z0 A0 H0) ∧
 (∀ s0 : Nat → Bool, s0 3 = false → s0 2 = true → ∀ t0 u0 v0 w0 x0 y0 z0 A0 : Value, ∀ I0 : World, q0 s0 t0 u0 v0 w0 x0 y0 z0 A0 I0 →
 q0 (setD s0 3) t0 u0 v0 w0 y0 y0 z0 A0 I0) ∧
 (∀ s0 : Nat → Bool, s0 4 = false → s0 3 = true → ∀ t0 u0 v0 w0 x0 y0 z0 A0 : Value, ∀ J0 : World, q0 s0 t0 u0 v0 w0 x0 y0 z0 A0 J0 →
 GuardV x0 true (RR (sOp (.load 42 (.const m0)) 42) J0 fun K0 L0 =>
 q0 (setD s0 4) t0 u0 v0 K0 x0 y0 z0 A0 L0) (q0 (setD s0 4) t0 u0 v0 undef x0 y0 z0 A0 J0)) ∧
 (∀ s0 : Nat → Bool, s0 5 = false → s0 4 = true → s0 3 = true → s0 3 = true → ∀ t0 u0 v0 w0 x0 y0 z0 A0 : Value, ∀ M0 : World, q0 s0 t0 u0 v0 w0 x0 y0 z0 A0 M0 →
 GuardV x0 true (RR (sCall (Value.func (.func 65) #[] #[]) [w0, (Value.int .i64 30)]) M0 fun N0 O0 =>
 q0 (setD s0 5) t0 u0 N0 w0 x0 y0 z0 A0 O0) (q0 (setD s0 5) t0 u0 undef w0 x0 y0 z0 A0 M0)) ∧
 (∀ s0 : Nat → Bool, s0 6 = false → s0 3 = true → s0 5 = true → ∀ t0 u0 v0 w0 x0 y0 z0 A0 : Value, ∀ P0 : World, q0 s0 t0 u0 v0 w0 x0 y0 z0 A0 P0 →
 RR (sOp (.pick (.const x0) (.const v0) (.const (Value.bool false))) 4) P0 fun Q0 S0 =>
 q0 (setD s0 6) t0 Q0 v0 w0 x0 y0 z0 A0 S0) ∧
 (∀ s0 : Nat → Bool, s0 7 = false → s0 0 = true → s0 5 = true → s0 0 = true → ∀ t0 u0 v0 w0 x0 y0 z0 A0 : Value, ∀ T0 : World, q0 s0 t0 u0 v0 w0 x0 y0 z0 A0 T0 →
 RR (sOp (.store 42 (.const c0) (.const A0)) 0) T0 fun _ U0 =>
 q0 (setD s0 7) t0 u0 v0 w0 x0 y0 z0 A0 U0) ∧
 (∀ s0 : Nat → Bool, s0 8 = false → s0 6 = true → s0 7 = true → s0 0 = true → s0 1 = true → s0 2 = true → s0 3 = true → s0 4 = true → s0 5 = true → s0 6 = true → s0 7 = true → ∀ t0 u0 v0 w0 x0 y0 z0 A0 : Value, ∀ V0 : World, q0 s0 t0 u0 v0 w0 x0 y0 z0 A0 V0 →
 q0 (setD s0 8) u0 u0 v0 w0 x0 y0 z0 A0 V0) ∧
 True) ∧
 ∀ s0 : Nat → Bool, s0 8 = true → s0 7 = true → s0 6 = true → s0 5 = true → s0 4 = true → s0 3 = true → s0 2 = true → s0 1 = true → s0 0 = true → ∀ t0 u0 v0 w0 x0 y0 z0 A0 : Value, ∀ W0 : World, q0 s0 t0 u0 v0 w0 x0 y0 z0 A0 W0 →
 (LoadV Tryz.prog 42 c0 W0 fun r0 => R (.returned (.tuple #[r0, t0])) W0))
theorem calls_s_l6Small {p0 p1 : Value} {w : World} {R : Ending → World → Prop} (h : sh_s_l6Small p0 p1 w R) : Calls Tryz.prog 34 #[p0, p1] w R :=
  calls_sh .leaf [p0, p1] mixed Tryz.func34 (by kernel_rfl) (by kernel_rfl) h


/- loop.example/prologserver/spec.l1Renumber : function 35 -/
def sh_s_l1Renumber (p0 : Value) (w : World) (R : Ending → World → Prop) : Prop :=
 RR (sBuildSlice 38 0 []) w fun a0 b0 =>
 (∃ (c0 : Value → Value → World → Prop) (d0 : Value → Value → World → Nat), c0 (Value.int .i64 0) a0 b0 ∧
 ∀ e0 _ _ f0 _ _ _ _ _ _ _ _ _ _ : Value, ∀ g0 : World, c0 e0 f0 g0 →
 RR (sBuiltin .len #[40] 3 [false] [p0]) g0 fun h0 i0 =>
 RR (sBin .lss 3 false false e0 h0) i0 fun j0 k0 =>
 CondV j0 (
 RR (sOp (.indexAddr 40 (.const p0) (.const e0)) 0) k0 fun l0 m0 =>
 RR (sOp (.load 42 (.const l0)) 42) m0 fun n0 o0 =>
 RR (sCall (Value.func (.func 66) #[] #[]) [f0, n0]) o0 fun q0 s0 =>
 RR (sBin .add 3 false true e0 (Value.int .i64 1)) s0 fun t0 u0 =>
 c0 t0 q0 u0 ∧ d0 t0 q0 u0 < d0 e0 f0 g0) (
 RR (sBuildSlice 40 0 []) k0 fun v0 w0 =>
 (∃ (x0 : Value → Value → World → Prop) (y0 : Value → Value → World → Nat), x0 (Value.int .i64 0) v0 w0 ∧
 ∀ z0 _ _ A0 _ _ _ _ _ _ _ _ _ _ _ _ _ : Value, ∀ B0 : World, x0 z0 A0 B0 →
 RR (sBuiltin .len #[40] 3 [false] [p0]) B0 fun C0 D0 =>
 RR (sBin .lss 3 false false z0 C0) D0 fun E0 F0 =>
 CondV E0 (
 RR (sOp (.indexAddr 40 (.const p0) (.const z0)) 0) F0 fun G0 H0 =>
 RR (sOp (.load 42 (.const G0)) 42) H0 fun I0 J0 =>
 RR (sCall (Value.func (.func 67) #[] #[]) [I0, f0]) J0 fun K0 L0 =>
 RR (sBuildSlice 40 1 [(0, K0)]) L0 fun M0 N0 =>
 RR (sBuiltin .append #[40, 40] 40 [false, false] [A0, M0]) N0 fun O0 P0 =>
 RR (sBin .add 3 false true z0 (Value.int .i64 1)) P0 fun Q0 S0 =>
 x0 Q0 O0 S0 ∧ y0 Q0 O0 S0 < y0 z0 A0 B0) (
 R (.returned A0) F0))))
theorem calls_s_l1Renumber {p0 : Value} {w : World} {R : Ending → World → Prop} (h : sh_s_l1Renumber p0 w R) : Calls Tryz.prog 35 #[p0] w R :=
  calls_sh (.seq none .leaf (.seq none .leaf (.seq none (.seq none .leaf (.one (.loop [4, 3] .leaf))) (.seq none .leaf (.seq none (.seq none .leaf (.one (.loop [6, 5] .leaf))) .leaf))))) [p0] mixed Tryz.func35 (by kernel_rfl) (by kernel_rfl) h


/- loop.example/prologserver/spec.ClauseValid : function 36 -/
def sh_s_ClauseValid (p0 : Value) (w : World) (R : Ending → World → Prop) : Prop :=
 RR (sOp (.box 44 (.const p0)) 0) w fun a0 b0 =>
 (∃ (c0 : Value → World → Prop) (d0 : Value → World → Nat), c0 (Value.int .i64 0) b0 ∧
 ∀ e0 _ _ _ _ _ _ _ _ _ _ _ _ _ _ _ _ _ _ _ : Value, ∀ f0 : World, c0 e0 f0 →
 (∃ g0 : Value → World → Prop, (
 RR (sOp (.fieldAddr 44 (.const a0) 1) 0) f0 fun h0 i0 =>
 RR (sOp (.load 40 (.const h0)) 40) i0 fun j0 k0 =>
 RR (sBuiltin .len #[40] 3 [false] [j0]) k0 fun l0 m0 =>
 RR (sBin .lss 3 false false e0 l0) m0 fun n0 o0 =>
 GuardV n0 true (
 RR (sBin .leq 3 false true e0 (Value.int .i64 6)) o0 fun q0 s0 =>
 RR (sOp (.pick (.const n0) (.const q0) (.const (Value.bool false))) 4) s0 fun t0 u0 =>
 g0 t0 u0) (
 RR (sOp (.pick (.const n0) (.const undef) (.const (Value.bool false))) 4) o0 fun v0 w0 =>
 g0 v0 w0)) ∧
 ∀ x0 _ _ _ _ _ _ _ _ : Value, ∀ y0 : World, g0 x0 y0 →
 CondV x0 (
 RR (sOp (.fieldAddr 44 (.const a0) 1) 0) y0 fun z0 A0 =>
 RR (sOp (.load 40 (.const z0)) 40) A0 fun B0 C0 =>
 RR (sOp (.indexAddr 40 (.const B0) (.const e0)) 0) C0 fun D0 E0 =>
 RR (sOp (.load 42 (.const D0)) 42) E0 fun F0 G0 =>
 RR (sCall (Value.func (.func 68) #[] #[]) [F0]) G0 fun H0 I0 =>
 RR (sOp (.unOp .not 4 (.const H0)) 4) I0 fun J0 K0 =>
 CondV J0 (
 R (.returned (Value.bool false)) K0) (
 RR (sBin .add 3 false true e0 (Value.int .i64 1)) K0 fun L0 M0 =>
 c0 L0 M0 ∧ d0 L0 M0 < d0 e0 f0)) (
 RR (sOp (.fieldAddr 44 (.const a0) 1) 0) y0 fun N0 O0 =>
 RR (sOp (.load 40 (.const N0)) 40) O0 fun P0 Q0 =>
 RR (sBuiltin .len #[40] 3 [false] [P0]) Q0 fun S0 T0 =>
 RR (sBin .leq 3 false true S0 (Value.int .i64 6)) T0 fun U0 V0 =>
 GuardV U0 true (
 RR (sOp (.fieldAddr 44 (.const a0) 0) 0) V0 fun W0 X0 =>
 RR (sOp (.load 42 (.const W0)) 42) X0 fun Y0 Z0 =>
 RR (sCall (Value.func (.func 69) #[] #[]) [Y0]) Z0 fun a1 b1 =>
 RR (sOp (.pick (.const U0) (.const a1) (.const (Value.bool false))) 4) b1 fun c1 d1 =>
 GuardV c1 true (
 RR (sOp (.fieldAddr 44 (.const a0) 0) 0) d1 fun e1 f1 =>
 RR (sOp (.load 42 (.const e1)) 42) f1 fun g1 h1 =>
 RR (sCall (Value.func (.func 59) #[] #[]) [g1]) h1 fun i1 j1 =>
 RR (sOp (.pick (.const c1) (.const i1) (.const (Value.bool false))) 4) j1 fun k1 l1 =>
 R (.returned k1) l1) (
 RR (sOp (.pick (.const c1) (.const undef) (.const (Value.bool false))) 4) d1 fun m1 n1 =>
 R (.returned m1) n1)) (
 RR (sOp (.pick (.const U0) (.const undef) (.const (Value.bool false))) 4) V0 fun o1 q1 =>
 GuardV o1 true (
 RR (sOp (.fieldAddr 44 (.const a0) 0) 0) q1 fun s1 t1 =>
 RR (sOp (.load 42 (.const s1)) 42) t1 fun u1 v1 =>
 RR (sCall (Value.func (.func 59) #[] #[]) [u1]) v1 fun w1 x1 =>
 RR (sOp (.pick (.const o1) (.const w1) (.const (Value.bool false))) 4) x1 fun y1 z1 =>
 R (.returned y1) z1) (
 RR (sOp (.pick (.const o1) (.const undef) (.const (Value.bool false))) 4) q1 fun A1 B1 =>
 R (.returned A1) B1)))))
theorem calls_s_ClauseValid {p0 : Value} {w : World} {R : Ending → World → Prop} (h : sh_s_ClauseValid p0 w R) : Calls Tryz.prog 36 #[p0] w R :=
  calls_sh (.seq none .leaf (.seq none (.seq none .leaf (.one (.loop [3] (.seq none (.seq (some [12]) .leaf .leaf) .leaf)))) .leaf)) [p0] mixed Tryz.func36 (by kernel_rfl) (by kernel_rfl) h


/- loop.example/prologserver/spec.l4Copy : function 37 -/
def sh_s_l4Copy (p0 : Value) (w : World) (R : Ending → World → Prop) : Prop :=
 RR (sOp (.box 44 (.const p0)) 0) w fun a0 b0 =>
 RR (sOp (.alloc 44) 0) b0 fun c0 d0 =>
 RR (sOp (.fieldAddr 44 (.const a0) 0) 0) d0 fun e0 f0 =>
 RR (sOp (.load 42 (.const e0)) 42) f0 fun g0 h0 =>
 RR (sCall (Value.func (.func 70) #[] #[]) [g0]) h0 fun i0 j0 =>
 RR (sBuild 44 [(0, i0)]) j0 fun k0 l0 =>
 RR (sOp (.alloc 44) 0) l0 fun m0 n0 =>
 RR (sOp (.store 44 (.const m0) (.const k0)) 0) n0 fun _u o0 =>
 (∃ (q0 : Value → World → Prop) (s0 : Value → World → Nat), q0 (Value.int .i64 0) o0 ∧
 ∀ t0 _ _ u0 v0 w0 x0 y0 z0 A0 B0 C0 D0 E0 _ _ _ _ _ : Value, ∀ F0 : World, q0 t0 F0 →
 RR (sOp (.fieldAddr 44 (.const a0) 1) 0) F0 fun G0 H0 =>
 RR (sOp (.load 40 (.const G0)) 40) H0 fun I0 J0 =>
 RR (sBuiltin .len #[40] 3 [false] [I0]) J0 fun K0 L0 =>
 RR (sBin .lss 3 false false t0 K0) L0 fun M0 N0 =>
 CondV M0 (
 (∃ O0 : (Nat → Bool) → Value → Value → Value → Value → Value → Value → Value → Value → Value → Value → Value → World → Prop, O0 (fun _ => false) u0 v0 w0 x0 y0 z0 A0 B0 C0 D0 E0 { N0 with drawn := N0.drawn + 1 } ∧ (
 (∀ P0 : Nat → Bool, P0 0 = false → ∀ Q0 S0 T0 U0 V0 W0 X0 Y0 Z0 a1 b1 : Value, ∀ c1 : World, O0 P0 Q0 S0 T0 U0 V0 W0 X0 Y0 Z0 a1 b1 c1 →
 RR (sOp (.fieldAddr 44 (.const m0) 1) 0) c1 fun d1 e1 =>
 O0 (setD P0 0) Q0 S0 T0 U0 V0 W0 X0 Y0 Z0 a1 d1 e1) ∧
 (∀ P0 : Nat → Bool, P0 1 = false → P0 0 = true → ∀ Q0 S0 T0 U0 V0 W0 X0 Y0 Z0 a1 b1 : Value, ∀ f1 : World, O0 P0 Q0 S0 T0 U0 V0 W0 X0 Y0 Z0 a1 b1 f1 →
 RR (sOp (.load 40 (.const b1)) 40) f1 fun g1 h1 =>
 O0 (setD P0 1) Q0 S0 T0 U0 V0 W0 X0 Y0 Z0 g1 b1 h1) ∧
 (∀ P0 : Nat → Bool, P0 2 = false → ∀ Q0 S0 T0 U0 V0 W0 X0 Y0 Z0 a1 b1 : Value, ∀ i1 : World, O0 P0 Q0 S0 T0 U0 V0 W0 X0 Y0 Z0 a1 b1 i1 →
 RR (sOp (.fieldAddr 44 (.const a0) 1) 0) i1 fun j1 k1 =>
 O0 (setD P0 2) Q0 S0 T0 U0 V0 W0 X0 Y0 j1 a1 b1 k1) ∧
 (∀ P0 : Nat → Bool, P0 3 = false → P0 2 = true → ∀ Q0 S0 T0 U0 V0 W0 X0 Y0 Z0 a1 b1 : Value, ∀ l1 : World, O0 P0 Q0 S0 T0 U0 V0 W0 X0 Y0 Z0 a1 b1 l1 →
 RR (sOp (.load 40 (.const Z0)) 40) l1 fun m1 n1 =>
 O0 (setD P0 3) Q0 S0 T0 U0 V0 W0 X0 m1 Z0 a1 b1 n1) ∧
 (∀ P0 : Nat → Bool, P0 4 = false → ∀ Q0 S0 T0 U0 V0 W0 X0 Y0 Z0 a1 b1 : Value, ∀ o1 : World, O0 P0 Q0 S0 T0 U0 V0 W0 X0 Y0 Z0 a1 b1 o1 →
 O0 (setD P0 4) Q0 S0 T0 U0 V0 W0 t0 Y0 Z0 a1 b1 o1) ∧
 (∀ P0 : Nat → Bool, P0 5 = false → P0 3 = true → P0 4 = true → ∀ Q0 S0 T0 U0 V0 W0 X0 Y0 Z0 a1 b1 : Value, ∀ q1 : World, O0 P0 Q0 S0 T0 U0 V0 W0 X0 Y0 Z0 a1 b1 q1 →
 RR (sOp (.indexAddr 40 (.const Y0) (.const X0)) 0) q1 fun s1 t1 =>
 O0 (setD P0 5) Q0 S0 T0 U0 V0 s1 X0 Y0 Z0 a1 b1 t1) ∧
 (∀ P0 : Nat → Bool, P0 6 = false → P0 5 = true → ∀ Q0 S0 T0 U0 V0 W0 X0 Y0 Z0 a1 b1 : Value, ∀ u1 : World, O0 P0 Q0 S0 T0 U0 V0 W0 X0 Y0 Z0 a1 b1 u1 →
 RR (sOp (.load 42 (.const W0)) 42) u1 fun v1 w1 =>
 O0 (setD P0 6) Q0 S0 T0 U0 v1 W0 X0 Y0 Z0 a1 b1 w1) ∧
 (∀ P0 : Nat → Bool, P0 7 = false → P0 6 = true → ∀ Q0 S0 T0 U0 V0 W0 X0 Y0 Z0 a1 b1 : Value, ∀ x1 : World, O0 P0 Q0 S0 T0 U0 V0 W0 X0 Y0 Z0 a1 b1 x1 →
 RR (sCall (Value.func (.func 70) #[] #[]) [V0]) x1 fun y1 z1 =>
 O0 (setD P0 7) Q0 S0 T0 y1 V0 W0 X0 Y0 Z0 a1 b1 z1) ∧
 (∀ P0 : Nat → Bool, P0 8 = false → P0 7 = true → ∀ Q0 S0 T0 U0 V0 W0 X0 Y0 Z0 a1 b1 : Value, ∀ A1 : World, O0 P0 Q0 S0 T0 U0 V0 W0 X0 Y0 Z0 a1 b1 A1 →
 RR (sBuildSlice 40 1 [(0, U0)]) A1 fun B1 C1 =>
 O0 (setD P0 8) Q0 S0 B1 U0 V0 W0 X0 Y0 Z0 a1 b1 C1) ∧
 (∀ P0 : Nat → Bool, P0 9 = false → P0 1 = true → P0 8 = true → P0 7 = true → ∀ Q0 S0 T0 U0 V0 W0 X0 Y0 Z0 a1 b1 : Value, ∀ D1 : World, O0 P0 Q0 S0 T0 U0 V0 W0 X0 Y0 Z0 a1 b1 D1 →
 RR (sBuiltin .append #[40, 40] 40 [false, false] [a1, T0]) D1 fun E1 F1 =>
 O0 (setD P0 9) Q0 E1 T0 U0 V0 W0 X0 Y0 Z0 a1 b1 F1) ∧
 (∀ P0 : Nat → Bool, P0 10 = false → P0 0 = true → P0 1 = true → P0 2 = true → P0 3 = true → P0 4 = true → P0 5 = true → P0 6 = true → P0 7 = true → P0 8 = true → P0 9 = true → ∀ Q0 S0 T0 U0 V0 W0 X0 Y0 Z0 a1 b1 : Value, ∀ G1 : World, O0 P0 Q0 S0 T0 U0 V0 W0 X0 Y0 Z0 a1 b1 G1 →
 RR (sOp (.fieldAddr 44 (.const m0) 1) 0) G1 fun H1 I1 =>
 O0 (setD P0 10) H1 S0 T0 U0 V0 W0 X0 Y0 Z0 a1 b1 I1) ∧
 (∀ P0 : Nat → Bool, P0 11 = false → P0 10 = true → P0 9 = true → P0 9 = true → P0 0 = true → P0 1 = true → P0 2 = true → P0 3 = true → P0 4 = true → P0 5 = true → P0 6 = true → P0 7 = true → P0 8 = true → P0 9 = true → ∀ Q0 S0 T0 U0 V0 W0 X0 Y0 Z0 a1 b1 : Value, ∀ J1 : World, O0 P0 Q0 S0 T0 U0 V0 W0 X0 Y0 Z0 a1 b1 J1 →
 RR (sOp (.store 40 (.const Q0) (.const S0)) 0) J1 fun _u K1 =>
 O0 (setD P0 11) Q0 S0 T0 U0 V0 W0 X0 Y0 Z0 a1 b1 K1) ∧
 True) ∧
 ∀ P0 : Nat → Bool, P0 11 = true → P0 10 = true → P0 9 = true → P0 8 = true → P0 7 = true → P0 6 = true → P0 5 = true → P0 4 = true → P0 3 = true → P0 2 = true → P0 1 = true → P0 0 = true → ∀ Q0 S0 T0 U0 V0 W0 X0 Y0 Z0 a1 b1 : Value, ∀ L1 : World, O0 P0 Q0 S0 T0 U0 V0 W0 X0 Y0 Z0 a1 b1 L1 →
 RR (sBin .add 3 false true t0 (Value.int .i64 1)) L1 fun M1 N1 =>
 q0 M1 N1 ∧ s0 M1 N1 < s0 t0 F0)) (
 RR (sOp (.load 44 (.const m0)) 44) N0 fun O1 P1 =>
 RR (sOp (.store 44 (.const c0) (.const O1)) 0) P1 fun _ Q1 =>
 (LoadV Tryz.prog 44 c0 Q1 fun r0 => R (.returned r0) Q1)))
theorem calls_s_l4Copy {p0 : Value} {w : World} {R : Ending → World → Prop} (h : sh_s_l4Copy p0 w R) : Calls Tryz.prog 37 #[p0] w R :=
  calls_sh (.seq none .leaf (.seq none .leaf (.seq none (.seq none .leaf (.one (.loop [4] .leaf))) .leaf))) [p0] mixed Tryz.func37 (by kernel_rfl) (by kernel_rfl) h


/- loop.example/prologserver/laws.toTerm : function 38 -/
def sh_l_toTerm (p0 : Value) (w : World) (R : Ending → World → Prop) : Prop :=
 RR (sOp (.box 34 (.const p0)) 0) w fun a0 b0 =>
 RR (sOp (.alloc 42) 0) b0 fun c0 d0 =>
 RR (sOp (.alloc 42) 0) d0 fun e0 f0 =>
 RR (sOp (.fieldAddr 34 (.const a0) 0) 0) f0 fun g0 h0 =>
 RR (sOp (.load 3 (.const g0)) 3) h0 fun i0 j0 =>
 RR (sOp (.fieldAddr 42 (.const e0) 0) 0) j0 fun k0 l0 =>
 RR (sOp (.store 3 (.const k0) (.const i0)) 0) l0 fun _u m0 =>
 RR (sOp (.fieldAddr 34 (.const a0) 1) 0) m0 fun n0 o0 =>
 RR (sOp (.load 3 (.const n0)) 3) o0 fun q0 s0 =>
 RR (sOp (.fieldAddr 42 (.const e0) 1) 0) s0 fun t0 u0 =>
 RR (sOp (.store 3 (.const t0) (.const q0)) 0) u0 fun _u v0 =>
 RR (sOp (.fieldAddr 34 (.const a0) 2) 0) v0 fun w0 x0 =>
 RR (sOp (.load 9 (.const w0)) 9) x0 fun y0 z0 =>
 RR (sOp (.fieldAddr 42 (.const e0) 2) 0) z0 fun A0 B0 =>
 RR (sOp (.store 9 (.const A0) (.const y0)) 0) B0 fun _u C0 =>
 RR (sOp (.fieldAddr 34 (.const a0) 3) 0) C0 fun D0 E0 =>
 RR (sOp (.load 32 (.const D0)) 32) E0 fun F0 G0 =>
 RR (sCall (Value.func (.func 39) #[] #[]) [F0]) G0 fun H0 I0 =>
 RR (sOp (.fieldAddr 42 (.const e0) 3) 0) I0 fun J0 K0 =>
 RR (sOp (.store 40 (.const J0) (.const H0)) 0) K0 fun _u L0 =>
 RR (sOp (.load 42 (.const e0)) 42) L0 fun M0 N0 =>
 RR (sOp (.store 42 (.const c0) (.const M0)) 0) N0 fun _ O0 =>
 (LoadV Tryz.prog 42 c0 O0 fun r0 => R (.returned r0) O0)
theorem calls_l_toTerm {p0 : Value} {w : World} {R : Ending → World → Prop} (h : sh_l_toTerm p0 w R) : Calls Tryz.prog 38 #[p0] w R :=
  calls_sh .leaf [p0] mixed Tryz.func38 (by kernel_rfl) (by kernel_rfl) h


/- loop.example/prologserver/laws.toTermS : function 39 -/
def sh_l_toTermS (p0 : Value) (w : World) (R : Ending → World → Prop) : Prop :=
 RR (sBuiltin .len #[32] 3 [false] [p0]) w fun a0 b0 =>
 RR (sOp (.makeSlice 40 (.const a0) (.const a0)) 40) b0 fun c0 d0 =>
 (∃ (e0 : Value → World → Prop) (f0 : Value → World → Nat), e0 (Value.int .i64 0) d0 ∧
 ∀ g0 _ _ _ _ _ _ _ _ _ _ _ _ _ _ : Value, ∀ h0 : World, e0 g0 h0 →
 RR (sBuiltin .len #[32] 3 [false] [p0]) h0 fun i0 j0 =>
 RR (sBin .lss 3 false false g0 i0) j0 fun k0 l0 =>
 CondV k0 (
 RR (sOp (.indexAddr 32 (.const p0) (.const g0)) 0) l0 fun m0 n0 =>
 RR (sOp (.load 34 (.const m0)) 34) n0 fun o0 q0 =>
 RR (sCall (Value.func (.func 38) #[] #[]) [o0]) q0 fun s0 t0 =>
 RR (sOp (.indexAddr 40 (.const c0) (.const g0)) 0) t0 fun u0 v0 =>
 RR (sOp (.store 42 (.const u0) (.const s0)) 0) v0 fun _ w0 =>
 RR (sBin .add 3 false true g0 (Value.int .i64 1)) w0 fun x0 y0 =>
 e0 x0 y0 ∧ f0 x0 y0 < f0 g0 h0) (
 R (.returned c0) l0))
theorem calls_l_toTermS {p0 : Value} {w : World} {R : Ending → World → Prop} (h : sh_l_toTermS p0 w R) : Calls Tryz.prog 39 #[p0] w R :=
  calls_sh (.seq none .leaf (.seq none .leaf (.seq none (.seq none .leaf (.one (.loop [4] .leaf))) .leaf))) [p0] mixed Tryz.func39 (by kernel_rfl) (by kernel_rfl) h


/- loop.example/prologserver/impl.within : function 40 -/
def sh_i_within (p0 p1 p2 : Value) (w : World) (R : Ending → World → Prop) : Prop :=
 RR (sBin .leq 3 false false p1 p0) w fun a0 b0 =>
 GuardV a0 true (
 RR (sBin .leq 3 false false p0 p2) b0 fun c0 d0 =>
 RR (sOp (.pick (.const a0) (.const c0) (.const (Value.bool false))) 4) d0 fun e0 f0 =>
 R (.returned e0) f0) (
 RR (sOp (.pick (.const a0) (.const undef) (.const (Value.bool false))) 4) b0 fun g0 h0 =>
 R (.returned g0) h0)
theorem calls_i_within {p0 p1 p2 : Value} {w : World} {R : Ending → World → Prop} (h : sh_i_within p0 p1 p2 w R) : Calls Tryz.prog 40 #[p0, p1, p2] w R :=
  calls_sh .leaf [p0, p1, p2] mixed Tryz.func40 (by kernel_rfl) (by kernel_rfl) h


/- loop.example/prologserver/impl.firstPlain : function 41 -/
def sh_i_firstPlain (p0 : Value) (w : World) (R : Ending → World → Prop) : Prop :=
 RR (sOp (.box 44 (.const p0)) 0) w fun a0 b0 =>
 RR (sOp (.fieldAddr 44 (.const a0) 1) 0) b0 fun c0 d0 =>
 RR (sOp (.load 40 (.const c0)) 40) d0 fun e0 f0 =>
 RR (sBuiltin .len #[40] 3 [false] [e0]) f0 fun g0 h0 =>
 RR (sBin .gtr 3 false true g0 (Value.int .i64 0)) h0 fun i0 j0 =>
 GuardV i0 true (
 RR (sOp (.fieldAddr 44 (.const a0) 1) 0) j0 fun k0 l0 =>
 RR (sOp (.load 40 (.const k0)) 40) l0 fun m0 n0 =>
 RR (sOp (.indexAddr 40 (.const m0) (.const (Value.int .i64 0))) 0) n0 fun o0 q0 =>
 RR (sOp (.load 42 (.const o0)) 42) q0 fun s0 t0 =>
 RR (sCall (Value.func (.func 71) #[] #[]) [s0]) t0 fun u0 v0 =>
 RR (sOp (.pick (.const i0) (.const u0) (.const (Value.bool false))) 4) v0 fun w0 x0 =>
 R (.returned w0) x0) (
 RR (sOp (.pick (.const i0) (.const undef) (.const (Value.bool false))) 4) j0 fun y0 z0 =>
 R (.returned y0) z0)
theorem calls_i_firstPlain {p0 : Value} {w : World} {R : Ending → World → Prop} (h : sh_i_firstPlain p0 w R) : Calls Tryz.prog 41 #[p0] w R :=
  calls_sh .leaf [p0] mixed Tryz.func41 (by kernel_rfl) (by kernel_rfl) h


/- loop.example/prologserver/impl.hasCut : function 42 -/
def sh_i_hasCut (p0 : Value) (w : World) (R : Ending → World → Prop) : Prop :=
 RR (sOp (.box 44 (.const p0)) 0) w fun a0 b0 =>
 RR (sOp (.fieldAddr 44 (.const a0) 1) 0) b0 fun c0 d0 =>
 RR (sOp (.load 40 (.const c0)) 40) d0 fun e0 f0 =>
 RR (sCall (Value.func (.func 72) #[] #[]) [e0, (Value.func (.func 73) #[] #[])]) f0 fun g0 h0 =>
 R (.returned g0) h0
theorem calls_i_hasCut {p0 : Value} {w : World} {R : Ending → World → Prop} (h : sh_i_hasCut p0 w R) : Calls Tryz.prog 42 #[p0] w R :=
  calls_sh .leaf [p0] mixed Tryz.func42 (by kernel_rfl) (by kernel_rfl) h


/- slices.Contains[[]int,int] : function 43 -/
def sh_x_Contains_int (p0 p1 : Value) (w : World) (R : Ending → World → Prop) : Prop :=
 RR (sCall (Value.func (.func 74) #[] #[]) [p0, p1]) w fun a0 b0 =>
 RR (sBin .geq 3 false true a0 (Value.int .i64 0)) b0 fun c0 d0 =>
 R (.returned c0) d0
theorem calls_x_Contains_int {p0 p1 : Value} {w : World} {R : Ending → World → Prop} (h : sh_x_Contains_int p0 p1 w R) : Calls Tryz.prog 43 #[p0, p1] w R :=
  calls_sh .leaf [p0, p1] mixed Tryz.func43 (by kernel_rfl) (by kernel_rfl) h


/- slices.ContainsFunc[[]int,int] : function 44 -/
def sh_x_ContainsFunc_int (p0 p1 : Value) (w : World) (R : Ending → World → Prop) : Prop :=
 RR (sCall (Value.func (.func 75) #[] #[]) [p0, p1]) w fun a0 b0 =>
 RR (sBin .geq 3 false true a0 (Value.int .i64 0)) b0 fun c0 d0 =>
 R (.returned c0) d0
theorem calls_x_ContainsFunc_int {p0 p1 : Value} {w : World} {R : Ending → World → Prop} (h : sh_x_ContainsFunc_int p0 p1 w R) : Calls Tryz.prog 44 #[p0, p1] w R :=
  calls_sh .leaf [p0, p1] mixed Tryz.func44 (by kernel_rfl) (by kernel_rfl) h


/- loop.example/prologserver/impl.CanUnfold$1 : function 45 -/
def sh_i_CanUnfold_1 (p0 p1 : Value) (w : World) (R : Ending → World → Prop) : Prop :=
 RR (sOp (.load 24 (.const p1)) 24) w fun a0 b0 =>
 RR (sOp (.indexAddr 24 (.const a0) (.const p0)) 0) b0 fun c0 d0 =>
 RR (sOp (.load 44 (.const c0)) 44) d0 fun e0 f0 =>
 RR (sCall (Value.func (.func 42) #[] #[]) [e0]) f0 fun g0 h0 =>
 R (.returned g0) h0
theorem calls_i_CanUnfold_1 {p0 p1 : Value} {w : World} {R : Ending → World → Prop} (h : sh_i_CanUnfold_1 p0 p1 w R) : Calls Tryz.prog 45 #[p0, p1] w R :=
  calls_sh .leaf [p0, p1] mixed Tryz.func45 (by kernel_rfl) (by kernel_rfl) h


/- loop.example/prologserver/impl.ownClause : function 46 -/
def sh_i_ownClause (p0 : Value) (w : World) (R : Ending → World → Prop) : Prop :=
 RR (sOp (.box 44 (.const p0)) 0) w fun a0 b0 =>
 RR (sOp (.alloc 44) 0) b0 fun c0 d0 =>
 (∃ e0 : (Nat → Bool) → Value → Value → Value → Value → Value → Value → Value → World → Prop, e0 (fun _ => false) undef undef undef undef undef undef undef { d0 with drawn := d0.drawn + 1 } ∧ (
 (∀ f0 : Nat → Bool, f0 0 = false → ∀ g0 h0 i0 j0 k0 l0 m0 : Value, ∀ n0 : World, e0 f0 g0 h0 i0 j0 k0 l0 m0 n0 →
 RR (sOp (.fieldAddr 44 (.const a0) 0) 0) n0 fun o0 q0 =>
 e0 (setD f0 0) g0 h0 i0 j0 k0 l0 o0 q0) ∧
 (∀ f0 : Nat → Bool, f0 1 = false → f0 0 = true → ∀ g0 h0 i0 j0 k0 l0 m0 : Value, ∀ s0 : World, e0 f0 g0 h0 i0 j0 k0 l0 m0 s0 →
 RR (sOp (.load 42 (.const m0)) 42) s0 fun t0 u0 =>
 e0 (setD f0 1) g0 h0 i0 j0 k0 t0 m0 u0) ∧
 (∀ f0 : Nat → Bool, f0 2 = false → f0 1 = true → ∀ g0 h0 i0 j0 k0 l0 m0 : Value, ∀ v0 : World, e0 f0 g0 h0 i0 j0 k0 l0 m0 v0 →
 RR (sCall (Value.func (.func 76) #[] #[]) [l0]) v0 fun w0 x0 =>
 e0 (setD f0 2) g0 h0 i0 j0 w0 l0 m0 x0) ∧
 (∀ f0 : Nat → Bool, f0 3 = false → ∀ g0 h0 i0 j0 k0 l0 m0 : Value, ∀ y0 : World, e0 f0 g0 h0 i0 j0 k0 l0 m0 y0 →
 RR (sOp (.fieldAddr 44 (.const a0) 1) 0) y0 fun z0 A0 =>
 e0 (setD f0 3) g0 h0 i0 z0 k0 l0 m0 A0) ∧
 (∀ f0 : Nat → Bool, f0 4 = false → f0 3 = true → ∀ g0 h0 i0 j0 k0 l0 m0 : Value, ∀ B0 : World, e0 f0 g0 h0 i0 j0 k0 l0 m0 B0 →
 RR (sOp (.load 40 (.const j0)) 40) B0 fun C0 D0 =>
 e0 (setD f0 4) g0 h0 C0 j0 k0 l0 m0 D0) ∧
 (∀ f0 : Nat → Bool, f0 5 = false → f0 4 = true → f0 2 = true → ∀ g0 h0 i0 j0 k0 l0 m0 : Value, ∀ E0 : World, e0 f0 g0 h0 i0 j0 k0 l0 m0 E0 →
 RR (sCall (Value.func (.func 77) #[] #[]) [i0]) E0 fun F0 G0 =>
 e0 (setD f0 5) g0 F0 i0 j0 k0 l0 m0 G0) ∧
 (∀ f0 : Nat → Bool, f0 6 = false → f0 2 = true → f0 5 = true → ∀ g0 h0 i0 j0 k0 l0 m0 : Value, ∀ H0 : World, e0 f0 g0 h0 i0 j0 k0 l0 m0 H0 →
 RR (sBuild 44 [(0, k0), (1, h0)]) H0 fun I0 J0 =>
 e0 (setD f0 6) I0 h0 i0 j0 k0 l0 m0 J0) ∧
 (∀ f0 : Nat → Bool, f0 7 = false → f0 6 = true → f0 5 = true → f0 0 = true → f0 1 = true → f0 2 = true → f0 3 = true → f0 4 = true → f0 5 = true → f0 6 = true → ∀ g0 h0 i0 j0 k0 l0 m0 : Value, ∀ K0 : World, e0 f0 g0 h0 i0 j0 k0 l0 m0 K0 →
 RR (sOp (.store 44 (.const c0) (.const g0)) 0) K0 fun _ L0 =>
 e0 (setD f0 7) g0 h0 i0 j0 k0 l0 m0 L0) ∧
 True) ∧
 ∀ f0 : Nat → Bool, f0 7 = true → f0 6 = true → f0 5 = true → f0 4 = true → f0 3 = true → f0 2 = true → f0 1 = true → f0 0 = true → ∀ g0 h0 i0 j0 k0 l0 m0 : Value, ∀ M0 : World, e0 f0 g0 h0 i0 j0 k0 l0 m0 M0 →
 (LoadV Tryz.prog 44 c0 M0 fun r0 => R (.returned r0) M0))
theorem calls_i_ownClause {p0 : Value} {w : World} {R : Ending → World → Prop} (h : sh_i_ownClause p0 w R) : Calls Tryz.prog 46 #[p0] w R :=
  calls_sh .leaf [p0] mixed Tryz.func46 (by kernel_rfl) (by kernel_rfl) h


/- loop.example/prologserver/impl.newStore : function 47 -/
def sh_i_newStore (w : World) (R : Ending → World → Prop) : Prop :=
 RR (sOp (.makeMap 94 none) 94) w fun a0 b0 =>
 RR (sBuild 96 [(0, a0)]) b0 fun c0 d0 =>
 RR (sOp (.box 96 (.const c0)) 72) d0 fun e0 f0 =>
 R (.returned e0) f0
theorem calls_i_newStore {w : World} {R : Ending → World → Prop} (h : sh_i_newStore w R) : Calls Tryz.prog 47 #[] w R :=
  calls_sh .leaf [] mixed Tryz.func47 (by kernel_rfl) (by kernel_rfl) h


/- loop.example/prologserver/impl.resolvent$1 : function 48 -/
def sh_i_resolvent_1 (p0 : Value) (w : World) (R : Ending → World → Prop) : Prop :=
 RR (sOp (.alloc 42) 0) w fun a0 b0 =>
 RR (sBin .add 3 false true p0 (Value.int .i64 25)) b0 fun c0 d0 =>
 RR (sBin .add 3 false true c0 (Value.int .i64 1)) d0 fun e0 f0 =>
 RR (sCall (Value.func (.func 49) #[] #[]) [e0]) f0 fun g0 h0 =>
 RR (sOp (.store 42 (.const a0) (.const g0)) 0) h0 fun _ i0 =>
 (LoadV Tryz.prog 42 a0 i0 fun r0 => R (.returned r0) i0)
theorem calls_i_resolvent_1 {p0 : Value} {w : World} {R : Ending → World → Prop} (h : sh_i_resolvent_1 p0 w R) : Calls Tryz.prog 48 #[p0] w R :=
  calls_sh .leaf [p0] mixed Tryz.func48 (by kernel_rfl) (by kernel_rfl) h


/- loop.example/prologserver/impl.variable : function 49 -/
def sh_i_variable (p0 : Value) (w : World) (R : Ending → World → Prop) : Prop :=
 RR (sOp (.alloc 42) 0) w fun a0 b0 =>
 RR (sBuild 42 [(0, (Value.int .i64 1)), (1, p0)]) b0 fun c0 d0 =>
 RR (sOp (.store 42 (.const a0) (.const c0)) 0) d0 fun _ e0 =>
 (LoadV Tryz.prog 42 a0 e0 fun r0 => R (.returned r0) e0)
theorem calls_i_variable {p0 : Value} {w : World} {R : Ending → World → Prop} (h : sh_i_variable p0 w R) : Calls Tryz.prog 49 #[p0] w R :=
  calls_sh .leaf [p0] mixed Tryz.func49 (by kernel_rfl) (by kernel_rfl) h


/- (*loop.example/prologserver/impl.store).unify : function 50 -/
def sh_i_store_unify (p0 p1 p2 : Value) (w : World) (R : Ending → World → Prop) : Prop :=
 RR (sOp (.box 42 (.const p1)) 0) w fun a0 b0 =>
 RR (sOp (.box 42 (.const p2)) 0) b0 fun c0 d0 =>
 (∃ e0 : (Nat → Bool) → Value → Value → Value → Value → Value → Value → World → Prop, e0 (fun _ => false) undef undef undef undef undef undef { d0 with drawn := d0.drawn + 1 } ∧ (
 (∀ f0 : Nat → Bool, f0 0 = false → ∀ g0 h0 i0 j0 k0 l0 : Value, ∀ m0 : World, e0 f0 g0 h0 i0 j0 k0 l0 m0 →
 e0 (setD f0 0) g0 h0 i0 j0 k0 p0 m0) ∧
 (∀ f0 : Nat → Bool, f0 1 = false → ∀ g0 h0 i0 j0 k0 l0 : Value, ∀ n0 : World, e0 f0 g0 h0 i0 j0 k0 l0 n0 →
 RR (sOp (.load 42 (.const a0)) 42) n0 fun o0 q0 =>
 e0 (setD f0 1) g0 h0 i0 j0 o0 l0 q0) ∧
 (∀ f0 : Nat → Bool, f0 2 = false → f0 0 = true → f0 1 = true → ∀ g0 h0 i0 j0 k0 l0 : Value, ∀ s0 : World, e0 f0 g0 h0 i0 j0 k0 l0 s0 →
 RR (sCall (Value.func (.func 78) #[] #[]) [l0, k0]) s0 fun t0 u0 =>
 e0 (setD f0 2) g0 h0 i0 t0 k0 l0 u0) ∧
 (∀ f0 : Nat → Bool, f0 3 = false → ∀ g0 h0 i0 j0 k0 l0 : Value, ∀ v0 : World, e0 f0 g0 h0 i0 j0 k0 l0 v0 →
 e0 (setD f0 3) g0 h0 p0 j0 k0 l0 v0) ∧
 (∀ f0 : Nat → Bool, f0 4 = false → ∀ g0 h0 i0 j0 k0 l0 : Value, ∀ w0 : World, e0 f0 g0 h0 i0 j0 k0 l0 w0 →
 RR (sOp (.load 42 (.const c0)) 42) w0 fun x0 y0 =>
 e0 (setD f0 4) g0 x0 i0 j0 k0 l0 y0) ∧
 (∀ f0 : Nat → Bool, f0 5 = false → f0 3 = true → f0 4 = true → f0 2 = true → ∀ g0 h0 i0 j0 k0 l0 : Value, ∀ z0 : World, e0 f0 g0 h0 i0 j0 k0 l0 z0 →
 RR (sCall (Value.func (.func 78) #[] #[]) [i0, h0]) z0 fun A0 B0 =>
 e0 (setD f0 5) A0 h0 i0 j0 k0 l0 B0) ∧
 (∀ f0 : Nat → Bool, f0 6 = false → f0 2 = true → f0 5 = true → f0 0 = true → f0 1 = true → f0 2 = true → ∀ g0 h0 i0 j0 k0 l0 : Value, ∀ C0 : World, e0 f0 g0 h0 i0 j0 k0 l0 C0 →
 RR (sOp (.store 42 (.const a0) (.const j0)) 0) C0 fun _u D0 =>
 e0 (setD f0 6) g0 h0 i0 j0 k0 l0 D0) ∧
 (∀ f0 : Nat → Bool, f0 7 = false → f0 5 = true → f0 6 = true → f0 0 = true → f0 1 = true → f0 2 = true → f0 3 = true → f0 4 = true → f0 5 = true → f0 6 = true → ∀ g0 h0 i0 j0 k0 l0 : Value, ∀ E0 : World, e0 f0 g0 h0 i0 j0 k0 l0 E0 →
 RR (sOp (.store 42 (.const c0) (.const g0)) 0) E0 fun _ F0 =>
 e0 (setD f0 7) g0 h0 i0 j0 k0 l0 F0) ∧
 True) ∧
 ∀ f0 : Nat → Bool, f0 7 = true → f0 6 = true → f0 5 = true → f0 4 = true → f0 3 = true → f0 2 = true → f0 1 = true → f0 0 = true → ∀ g0 h0 i0 j0 k0 l0 : Value, ∀ G0 : World, e0 f0 g0 h0 i0 j0 k0 l0 G0 →
 (∃ H0 : Value → World → Prop, (
 RR (sOp (.fieldAddr 42 (.const a0) 0) 0) G0 fun I0 J0 =>
 RR (sOp (.load 3 (.const I0)) 3) J0 fun K0 L0 =>
 RR (sBin .eql 3 false true K0 (Value.int .i64 1)) L0 fun M0 N0 =>
 GuardV M0 true (
 RR (sOp (.fieldAddr 42 (.const c0) 0) 0) N0 fun O0 P0 =>
 RR (sOp (.load 3 (.const O0)) 3) P0 fun Q0 S0 =>
 RR (sBin .eql 3 false true Q0 (Value.int .i64 1)) S0 fun T0 U0 =>
 RR (sOp (.pick (.const M0) (.const T0) (.const (Value.bool false))) 4) U0 fun V0 W0 =>
 GuardV V0 true (
 RR (sOp (.fieldAddr 42 (.const a0) 1) 0) W0 fun X0 Y0 =>
 RR (sOp (.load 3 (.const X0)) 3) Y0 fun Z0 a1 =>
 RR (sOp (.fieldAddr 42 (.const c0) 1) 0) a1 fun b1 c1 =>
 RR (sOp (.load 3 (.const b1)) 3) c1 fun d1 e1 =>
 RR (sBin .eql 3 false false Z0 d1) e1 fun f1 g1 =>
 RR (sOp (.pick (.const V0) (.const f1) (.const (Value.bool false))) 4) g1 fun h1 i1 =>
 H0 h1 i1) (
 RR (sOp (.pick (.const V0) (.const undef) (.const (Value.bool false))) 4) W0 fun j1 k1 =>
 H0 j1 k1)) (
 RR (sOp (.pick (.const M0) (.const undef) (.const (Value.bool false))) 4) N0 fun l1 m1 =>
 GuardV l1 true (
 RR (sOp (.fieldAddr 42 (.const a0) 1) 0) m1 fun n1 o1 =>
 RR (sOp (.load 3 (.const n1)) 3) o1 fun q1 s1 =>
 RR (sOp (.fieldAddr 42 (.const c0) 1) 0) s1 fun t1 u1 =>
 RR (sOp (.load 3 (.const t1)) 3) u1 fun v1 w1 =>
 RR (sBin .eql 3 false false q1 v1) w1 fun x1 y1 =>
 RR (sOp (.pick (.const l1) (.const x1) (.const (Value.bool false))) 4) y1 fun z1 A1 =>
 H0 z1 A1) (
 RR (sOp (.pick (.const l1) (.const undef) (.const (Value.bool false))) 4) m1 fun B1 C1 =>
 H0 B1 C1))) ∧
 ∀ D1 _ _ _ _ _ _ _ _ _ _ _ _ _ _ _ : Value, ∀ E1 : World, H0 D1 E1 →
 CondV D1 (
 R (.returned (Value.bool true)) E1) (
 RR (sOp (.fieldAddr 42 (.const a0) 0) 0) E1 fun F1 G1 =>
 RR (sOp (.load 3 (.const F1)) 3) G1 fun H1 I1 =>
 RR (sBin .eql 3 false true H1 (Value.int .i64 1)) I1 fun J1 K1 =>
 CondV J1 (
 RR (sOp (.fieldAddr 42 (.const a0) 1) 0) K1 fun L1 M1 =>
 RR (sOp (.load 3 (.const L1)) 3) M1 fun N1 O1 =>
 RR (sOp (.load 42 (.const c0)) 42) O1 fun P1 Q1 =>
 RR (sCall (Value.func (.func 79) #[] #[]) [p0, N1, P1]) Q1 fun S1 T1 =>
 R (.returned S1) T1) (
 RR (sOp (.fieldAddr 42 (.const c0) 0) 0) K1 fun U1 V1 =>
 RR (sOp (.load 3 (.const U1)) 3) V1 fun W1 X1 =>
 RR (sBin .eql 3 false true W1 (Value.int .i64 1)) X1 fun Y1 Z1 =>
 CondV Y1 (
 RR (sOp (.fieldAddr 42 (.const c0) 1) 0) Z1 fun a2 b2 =>
 RR (sOp (.load 3 (.const a2)) 3) b2 fun c2 d2 =>
 RR (sOp (.load 42 (.const a0)) 42) d2 fun e2 f2 =>
 RR (sCall (Value.func (.func 79) #[] #[]) [p0, c2, e2]) f2 fun g2 h2 =>
 R (.returned g2) h2) (
 (∃ i2 : Value → World → Prop, (
 RR (sOp (.fieldAddr 42 (.const a0) 0) 0) Z1 fun j2 k2 =>
 RR (sOp (.load 3 (.const j2)) 3) k2 fun l2 m2 =>
 RR (sOp (.fieldAddr 42 (.const c0) 0) 0) m2 fun n2 o2 =>
 RR (sOp (.load 3 (.const n2)) 3) o2 fun q2 s2 =>
 RR (sBin .neq 3 false false l2 q2) s2 fun t2 u2 =>
 GuardV t2 false (
 RR (sOp (.fieldAddr 42 (.const a0) 1) 0) u2 fun v2 w2 =>
 RR (sOp (.load 3 (.const v2)) 3) w2 fun x2 y2 =>
 RR (sOp (.fieldAddr 42 (.const c0) 1) 0) y2 fun z2 A2 =>
 RR (sOp (.load 3 (.const z2)) 3) A2 fun B2 C2 =>
 RR (sBin .neq 3 false false x2 B2) C2 fun D2 E2 =>
 RR (sOp (.pick (.const t2) (.const (Value.bool true)) (.const D2)) 4) E2 fun F2 G2 =>
 GuardV F2 false (
 RR (sOp (.fieldAddr 42 (.const a0) 2) 0) G2 fun H2 I2 =>
 RR (sOp (.load 9 (.const H2)) 9) I2 fun J2 K2 =>
 RR (sOp (.fieldAddr 42 (.const c0) 2) 0) K2 fun L2 M2 =>
 RR (sOp (.load 9 (.const L2)) 9) M2 fun N2 O2 =>
 RR (sBin .neq 9 false false J2 N2) O2 fun P2 Q2 =>
 RR (sOp (.pick (.const F2) (.const (Value.bool true)) (.const P2)) 4) Q2 fun S2 T2 =>
 GuardV S2 false (
 RR (sOp (.fieldAddr 42 (.const a0) 3) 0) T2 fun U2 V2 =>
 RR (sOp (.load 40 (.const U2)) 40) V2 fun W2 X2 =>
 RR (sBuiltin .len #[40] 3 [false] [W2]) X2 fun Y2 Z2 =>
 RR (sOp (.fieldAddr 42 (.const c0) 3) 0) Z2 fun a3 b3 =>
 RR (sOp (.load 40 (.const a3)) 40) b3 fun c3 d3 =>
 RR (sBuiltin .len #[40] 3 [false] [c3]) d3 fun e3 f3 =>
 RR (sBin .neq 3 false false Y2 e3) f3 fun g3 h3 =>
 RR (sOp (.pick (.const S2) (.const (Value.bool true)) (.const g3)) 4) h3 fun i3 j3 =>
 i2 i3 j3) (
 RR (sOp (.pick (.const S2) (.const (Value.bool true)) (.const undef)) 4) T2 fun k3 l3 =>
 i2 k3 l3)) (
 RR (sOp (.pick (.const F2) (.const (Value.bool true)) (.const undef)) 4) G2 fun m3 n3 =>
 GuardV m3 false (
 RR (sOp (.fieldAddr 42 (.const a0) 3) 0) n3 fun o3 q3 =>
 RR (sOp (.load 40 (.const o3)) 40) q3 fun s3 t3 =>
 RR (sBuiltin .len #[40] 3 [false] [s3]) t3 fun u3 v3 =>
 RR (sOp (.fieldAddr 42 (.const c0) 3) 0) v3 fun w3 x3 =>
 RR (sOp (.load 40 (.const w3)) 40) x3 fun y3 z3 =>
 RR (sBuiltin .len #[40] 3 [false] [y3]) z3 fun A3 B3 =>
 RR (sBin .neq 3 false false u3 A3) B3 fun C3 D3 =>
 RR (sOp (.pick (.const m3) (.const (Value.bool true)) (.const C3)) 4) D3 fun E3 F3 =>
 i2 E3 F3) (
 RR (sOp (.pick (.const m3) (.const (Value.bool true)) (.const undef)) 4) n3 fun G3 H3 =>
 i2 G3 H3))) (
 RR (sOp (.pick (.const t2) (.const (Value.bool true)) (.const undef)) 4) u2 fun I3 J3 =>
 GuardV I3 false (
 RR (sOp (.fieldAddr 42 (.const a0) 2) 0) J3 fun K3 L3 =>
 RR (sOp (.load 9 (.const K3)) 9) L3 fun M3 N3 =>
 RR (sOp (.fieldAddr 42 (.const c0) 2) 0) N3 fun O3 P3 =>
 RR (sOp (.load 9 (.const O3)) 9) P3 fun Q3 S3 =>
 RR (sBin .neq 9 false false M3 Q3) S3 fun T3 U3 =>
 RR (sOp (.pick (.const I3) (.const (Value.bool true)) (.const T3)) 4) U3 fun V3 W3 =>
 GuardV V3 false (
 RR (sOp (.fieldAddr 42 (.const a0) 3) 0) W3 fun X3 Y3 =>
 RR (sOp (.load 40 (.const X3)) 40) Y3 fun Z3 a4 =>
 RR (sBuiltin .len #[40] 3 [false] [Z3]) a4 fun b4 c4 =>
 RR (sOp (.fieldAddr 42 (.const c0) 3) 0) c4 fun d4 e4 =>
 RR (sOp (.load 40 (.const d4)) 40) e4 fun f4 g4 =>
 RR (sBuiltin .len #[40] 3 [false] [f4]) g4 fun h4 i4 =>
 RR (sBin .neq 3 false false b4 h4) i4 fun j4 k4 =>
 RR (sOp (.pick (.const V3) (.const (Value.bool true)) (.const j4)) 4) k4 fun l4 m4 =>
 i2 l4 m4) (
 RR (sOp (.pick (.const V3) (.const (Value.bool true)) (.const undef)) 4) W3 fun n4 o4 =>
 i2 n4 o4)) (
 RR (sOp (.pick (.const I3) (.const (Value.bool true)) (.const undef)) 4) J3 fun q4 s4 =>
 GuardV q4 false (
 RR (sOp (.fieldAddr 42 (.const a0) 3) 0) s4 fun t4 u4 =>
 RR (sOp (.load 40 (.const t4)) 40) u4 fun v4 w4 =>
 RR (sBuiltin .len #[40] 3 [false] [v4]) w4 fun x4 y4 =>
 RR (sOp (.fieldAddr 42 (.const c0) 3) 0) y4 fun z4 A4 =>
 RR (sOp (.load 40 (.const z4)) 40) A4 fun B4 C4 =>
 RR (sBuiltin .len #[40] 3 [false] [B4]) C4 fun D4 E4 =>
 RR (sBin .neq 3 false false x4 D4) E4 fun F4 G4 =>
 RR (sOp (.pick (.const q4) (.const (Value.bool true)) (.const F4)) 4) G4 fun H4 I4 =>
 i2 H4 I4) (
 RR (sOp (.pick (.const q4) (.const (Value.bool true)) (.const undef)) 4) s4 fun J4 K4 =>
 i2 J4 K4)))) ∧
 ∀ L4 _ _ _ _ _ _ _ _ _ _ _ _ _ _ _ _ _ _ _ _ _ _ _ _ _ _ _ _ : Value, ∀ M4 : World, i2 L4 M4 →
 CondV L4 (
 R (.returned (Value.bool false)) M4) (
 RR (sOp (.fieldAddr 42 (.const a0) 3) 0) M4 fun N4 O4 =>
 RR (sOp (.load 40 (.const N4)) 40) O4 fun P4 Q4 =>
 RR (sBuiltin .len #[40] 3 [false] [P4]) Q4 fun S4 T4 =>
 (∃ (U4 : Value → World → Prop) (V4 : Value → World → Nat), U4 (Value.int .i64 0) T4 ∧
 ∀ W4 _ _ X4 Y4 Z4 a5 b5 c5 d5 e5 f5 g5 h5 i5 j5 _ _ _ : Value, ∀ k5 : World, U4 W4 k5 →
 RR (sBin .lss 3 false false W4 S4) k5 fun l5 m5 =>
 CondV l5 (
 (∃ n5 : (Nat → Bool) → Value → Value → Value → Value → Value → Value → Value → Value → Value → Value → Value → Value → Value → World → Prop, n5 (fun _ => false) X4 Y4 Z4 a5 b5 c5 d5 e5 f5 g5 h5 i5 j5 { m5 with drawn := m5.drawn + 1 } ∧ (
 (∀ o5 : Nat → Bool, o5 0 = false → ∀ q5 s5 t5 u5 v5 w5 x5 y5 z5 A5 B5 C5 D5 : Value, ∀ E5 : World, n5 o5 q5 s5 t5 u5 v5 w5 x5 y5 z5 A5 B5 C5 D5 E5 →
 n5 (setD o5 0) q5 s5 t5 u5 v5 w5 x5 y5 z5 A5 B5 C5 p0 E5) ∧
 (∀ o5 : Nat → Bool, o5 1 = false → ∀ q5 s5 t5 u5 v5 w5 x5 y5 z5 A5 B5 C5 D5 : Value, ∀ F5 : World, n5 o5 q5 s5 t5 u5 v5 w5 x5 y5 z5 A5 B5 C5 D5 F5 →
 RR (sOp (.fieldAddr 42 (.const a0) 3) 0) F5 fun G5 H5 =>
 n5 (setD o5 1) q5 s5 t5 u5 v5 w5 x5 y5 z5 A5 B5 G5 D5 H5) ∧
 (∀ o5 : Nat → Bool, o5 2 = false → o5 1 = true → ∀ q5 s5 t5 u5 v5 w5 x5 y5 z5 A5 B5 C5 D5 : Value, ∀ I5 : World, n5 o5 q5 s5 t5 u5 v5 w5 x5 y5 z5 A5 B5 C5 D5 I5 →
 RR (sOp (.load 40 (.const C5)) 40) I5 fun J5 K5 =>
 n5 (setD o5 2) q5 s5 t5 u5 v5 w5 x5 y5 z5 A5 J5 C5 D5 K5) ∧
 (∀ o5 : Nat → Bool, o5 3 = false → ∀ q5 s5 t5 u5 v5 w5 x5 y5 z5 A5 B5 C5 D5 : Value, ∀ L5 : World, n5 o5 q5 s5 t5 u5 v5 w5 x5 y5 z5 A5 B5 C5 D5 L5 →
 n5 (setD o5 3) q5 s5 t5 u5 v5 w5 x5 y5 z5 W4 B5 C5 D5 L5) ∧
 (∀ o5 : Nat → Bool, o5 4 = false → o5 2 = true → o5 3 = true → ∀ q5 s5 t5 u5 v5 w5 x5 y5 z5 A5 B5 C5 D5 : Value, ∀ M5 : World, n5 o5 q5 s5 t5 u5 v5 w5 x5 y5 z5 A5 B5 C5 D5 M5 →
 RR (sOp (.indexAddr 40 (.const B5) (.const A5)) 0) M5 fun N5 O5 =>
 n5 (setD o5 4) q5 s5 t5 u5 v5 w5 x5 y5 N5 A5 B5 C5 D5 O5) ∧
 (∀ o5 : Nat → Bool, o5 5 = false → o5 4 = true → ∀ q5 s5 t5 u5 v5 w5 x5 y5 z5 A5 B5 C5 D5 : Value, ∀ P5 : World, n5 o5 q5 s5 t5 u5 v5 w5 x5 y5 z5 A5 B5 C5 D5 P5 →
 RR (sOp (.load 42 (.const z5)) 42) P5 fun Q5 S5 =>
 n5 (setD o5 5) q5 s5 t5 u5 v5 w5 x5 Q5 z5 A5 B5 C5 D5 S5) ∧
 (∀ o5 : Nat → Bool, o5 6 = false → ∀ q5 s5 t5 u5 v5 w5 x5 y5 z5 A5 B5 C5 D5 : Value, ∀ T5 : World, n5 o5 q5 s5 t5 u5 v5 w5 x5 y5 z5 A5 B5 C5 D5 T5 →
 RR (sOp (.fieldAddr 42 (.const c0) 3) 0) T5 fun U5 V5 =>
 n5 (setD o5 6) q5 s5 t5 u5 v5 w5 U5 y5 z5 A5 B5 C5 D5 V5) ∧
 (∀ o5 : Nat → Bool, o5 7 = false → o5 6 = true → ∀ q5 s5 t5 u5 v5 w5 x5 y5 z5 A5 B5 C5 D5 : Value, ∀ W5 : World, n5 o5 q5 s5 t5 u5 v5 w5 x5 y5 z5 A5 B5 C5 D5 W5 →
 RR (sOp (.load 40 (.const x5)) 40) W5 fun X5 Y5 =>
 n5 (setD o5 7) q5 s5 t5 u5 v5 X5 x5 y5 z5 A5 B5 C5 D5 Y5) ∧
 (∀ o5 : Nat → Bool, o5 8 = false → ∀ q5 s5 t5 u5 v5 w5 x5 y5 z5 A5 B5 C5 D5 : Value, ∀ Z5 : World, n5 o5 q5 s5 t5 u5 v5 w5 x5 y5 z5 A5 B5 C5 D5 Z5 →
 n5 (setD o5 8) q5 s5 t5 u5 W4 w5 x5 y5 z5 A5 B5 C5 D5 Z5) ∧
 (∀ o5 : Nat → Bool, o5 9 = false → o5 7 = true → o5 8 = true → ∀ q5 s5 t5 u5 v5 w5 x5 y5 z5 A5 B5 C5 D5 : Value, ∀ a6 : World, n5 o5 q5 s5 t5 u5 v5 w5 x5 y5 z5 A5 B5 C5 D5 a6 →
 RR (sOp (.indexAddr 40 (.const w5) (.const v5)) 0) a6 fun b6 c6 =>
 n5 (setD o5 9) q5 s5 t5 b6 v5 w5 x5 y5 z5 A5 B5 C5 D5 c6) ∧
 (∀ o5 : Nat → Bool, o5 10 = false → o5 9 = true → ∀ q5 s5 t5 u5 v5 w5 x5 y5 z5 A5 B5 C5 D5 : Value, ∀ d6 : World, n5 o5 q5 s5 t5 u5 v5 w5 x5 y5 z5 A5 B5 C5 D5 d6 →
 RR (sOp (.load 42 (.const u5)) 42) d6 fun e6 f6 =>
 n5 (setD o5 10) q5 s5 e6 u5 v5 w5 x5 y5 z5 A5 B5 C5 D5 f6) ∧
 (∀ o5 : Nat → Bool, o5 11 = false → o5 0 = true → o5 5 = true → o5 10 = true → ∀ q5 s5 t5 u5 v5 w5 x5 y5 z5 A5 B5 C5 D5 : Value, ∀ g6 : World, n5 o5 q5 s5 t5 u5 v5 w5 x5 y5 z5 A5 B5 C5 D5 g6 →
 RR (sCall (Value.func (.func 50) #[] #[]) [D5, y5, t5]) g6 fun h6 i6 =>
 n5 (setD o5 11) q5 h6 t5 u5 v5 w5 x5 y5 z5 A5 B5 C5 D5 i6) ∧
 (∀ o5 : Nat → Bool, o5 12 = false → o5 11 = true → ∀ q5 s5 t5 u5 v5 w5 x5 y5 z5 A5 B5 C5 D5 : Value, ∀ j6 : World, n5 o5 q5 s5 t5 u5 v5 w5 x5 y5 z5 A5 B5 C5 D5 j6 →
 RR (sOp (.unOp .not 4 (.const s5)) 4) j6 fun k6 l6 =>
 n5 (setD o5 12) k6 s5 t5 u5 v5 w5 x5 y5 z5 A5 B5 C5 D5 l6) ∧
 True) ∧
 ∀ o5 : Nat → Bool, o5 12 = true → o5 11 = true → o5 10 = true → o5 9 = true → o5 8 = true → o5 7 = true → o5 6 = true → o5 5 = true → o5 4 = true → o5 3 = true → o5 2 = true → o5 1 = true → o5 0 = true → ∀ q5 s5 t5 u5 v5 w5 x5 y5 z5 A5 B5 C5 D5 : Value, ∀ m6 : World, n5 o5 q5 s5 t5 u5 v5 w5 x5 y5 z5 A5 B5 C5 D5 m6 →
 CondV q5 (
 R (.returned (Value.bool false)) m6) (
 RR (sBin .add 3 false true W4 (Value.int .i64 1)) m6 fun n6 o6 =>
 U4 n6 o6 ∧ V4 n6 o6 < V4 W4 k5))) (
 R (.returned (Value.bool true)) m5)))))))))
theorem calls_i_store_unify {p0 p1 p2 : Value} {w : World} {R : Ending → World → Prop} (h : sh_i_store_unify p0 p1 p2 w R) : Calls Tryz.prog 50 #[p0, p1, p2] w R :=
  calls_sh (.seq none .leaf (.seq none .leaf (.seq none (.one (.seq (some [14]) .leaf (.two .leaf (.seq none .leaf (.two .leaf (.seq none .leaf (.two .leaf (.seq (some [48]) .leaf .leaf)))))))) (.seq none (.seq none .leaf (.one (.loop [80] .leaf))) .leaf)))) [p0, p1, p2] mixed Tryz.func50 (by kernel_rfl) (by kernel_rfl) h


/- loop.example/prologserver/impl.mapVars : function 51 -/
def sh_i_mapVars (p0 p1 : Value) (w : World) (R : Ending → World → Prop) : Prop :=
 RR (sOp (.box 42 (.const p0)) 0) w fun a0 b0 =>
 RR (sOp (.alloc 42) 0) b0 fun c0 d0 =>
 RR (sOp (.fieldAddr 42 (.const a0) 0) 0) d0 fun e0 f0 =>
 RR (sOp (.load 3 (.const e0)) 3) f0 fun g0 h0 =>
 RR (sBin .eql 3 false true g0 (Value.int .i64 1)) h0 fun i0 j0 =>
 CondV i0 (
 RR (sOp (.fieldAddr 42 (.const a0) 1) 0) j0 fun k0 l0 =>
 RR (sOp (.load 3 (.const k0)) 3) l0 fun m0 n0 =>
 RR (sCall p1 [m0]) n0 fun o0 q0 =>
 RR (sOp (.store 42 (.const c0) (.const o0)) 0) q0 fun _u s0 =>
 (LoadV Tryz.prog 42 c0 s0 fun r0 => R (.returned r0) s0)) (
 RR (sOp (.fieldAddr 42 (.const a0) 3) 0) j0 fun t0 u0 =>
 RR (sOp (.load 40 (.const t0)) 40) u0 fun v0 w0 =>
 RR (sOp (.fieldAddr 42 (.const a0) 3) 0) w0 fun x0 y0 =>
 RR (sOp (.store 40 (.const x0) (.const (Value.slice none 0 0))) 0) y0 fun _u z0 =>
 RR (sBuiltin .len #[40] 3 [false] [v0]) z0 fun A0 B0 =>
 (∃ (C0 : Value → World → Prop) (D0 : Value → World → Nat), C0 (Value.int .i64 0) B0 ∧
 ∀ E0 _ F0 G0 H0 I0 J0 K0 L0 M0 _ _ _ _ : Value, ∀ N0 : World, C0 E0 N0 →
 RR (sBin .lss 3 false false E0 A0) N0 fun O0 P0 =>
 CondV O0 (
 RR (sOp (.indexAddr 40 (.const v0) (.const E0)) 0) P0 fun Q0 S0 =>
 RR (sOp (.load 42 (.const Q0)) 42) S0 fun T0 U0 =>
 RR (sOp (.alloc 42) 0) U0 fun V0 W0 =>
 RR (sOp (.store 42 (.const V0) (.const T0)) 0) W0 fun _u X0 =>
 (∃ Y0 : (Nat → Bool) → Value → Value → Value → Value → Value → Value → Value → Value → World → Prop, Y0 (fun _ => false) F0 G0 H0 I0 J0 K0 L0 M0 { X0 with drawn := X0.drawn + 1 } ∧ (
 (∀ Z0 : Nat → Bool, Z0 0 = false → ∀ a1 b1 c1 d1 e1 f1 g1 h1 : Value, ∀ i1 : World, Y0 Z0 a1 b1 c1 d1 e1 f1 g1 h1 i1 →
 RR (sOp (.fieldAddr 42 (.const a0) 3) 0) i1 fun j1 k1 =>
 Y0 (setD Z0 0) a1 b1 c1 d1 e1 f1 g1 j1 k1) ∧
 (∀ Z0 : Nat → Bool, Z0 1 = false → Z0 0 = true → ∀ a1 b1 c1 d1 e1 f1 g1 h1 : Value, ∀ l1 : World, Y0 Z0 a1 b1 c1 d1 e1 f1 g1 h1 l1 →
 RR (sOp (.load 40 (.const h1)) 40) l1 fun m1 n1 =>
 Y0 (setD Z0 1) a1 b1 c1 d1 e1 f1 m1 h1 n1) ∧
 (∀ Z0 : Nat → Bool, Z0 2 = false → ∀ a1 b1 c1 d1 e1 f1 g1 h1 : Value, ∀ o1 : World, Y0 Z0 a1 b1 c1 d1 e1 f1 g1 h1 o1 →
 RR (sOp (.load 42 (.const V0)) 42) o1 fun q1 s1 =>
 Y0 (setD Z0 2) a1 b1 c1 d1 e1 q1 g1 h1 s1) ∧
 (∀ Z0 : Nat → Bool, Z0 3 = false → ∀ a1 b1 c1 d1 e1 f1 g1 h1 : Value, ∀ t1 : World, Y0 Z0 a1 b1 c1 d1 e1 f1 g1 h1 t1 →
 Y0 (setD Z0 3) a1 b1 c1 d1 p1 f1 g1 h1 t1) ∧
 (∀ Z0 : Nat → Bool, Z0 4 = false → Z0 2 = true → Z0 3 = true → ∀ a1 b1 c1 d1 e1 f1 g1 h1 : Value, ∀ u1 : World, Y0 Z0 a1 b1 c1 d1 e1 f1 g1 h1 u1 →
 RR (sCall (Value.func (.func 51) #[] #[]) [f1, e1]) u1 fun v1 w1 =>
 Y0 (setD Z0 4) a1 b1 c1 v1 e1 f1 g1 h1 w1) ∧
 (∀ Z0 : Nat → Bool, Z0 5 = false → Z0 4 = true → ∀ a1 b1 c1 d1 e1 f1 g1 h1 : Value, ∀ x1 : World, Y0 Z0 a1 b1 c1 d1 e1 f1 g1 h1 x1 →
 RR (sBuildSlice 40 1 [(0, d1)]) x1 fun y1 z1 =>
 Y0 (setD Z0 5) a1 b1 y1 d1 e1 f1 g1 h1 z1) ∧
 (∀ Z0 : Nat → Bool, Z0 6 = false → Z0 1 = true → Z0 5 = true → Z0 4 = true → ∀ a1 b1 c1 d1 e1 f1 g1 h1 : Value, ∀ A1 : World, Y0 Z0 a1 b1 c1 d1 e1 f1 g1 h1 A1 →
 RR (sBuiltin .append #[40, 40] 40 [false, false] [g1, c1]) A1 fun B1 C1 =>
 Y0 (setD Z0 6) a1 B1 c1 d1 e1 f1 g1 h1 C1) ∧
 (∀ Z0 : Nat → Bool, Z0 7 = false → Z0 0 = true → Z0 1 = true → Z0 2 = true → Z0 3 = true → Z0 4 = true → Z0 5 = true → Z0 6 = true → ∀ a1 b1 c1 d1 e1 f1 g1 h1 : Value, ∀ D1 : World, Y0 Z0 a1 b1 c1 d1 e1 f1 g1 h1 D1 →
 RR (sOp (.fieldAddr 42 (.const a0) 3) 0) D1 fun E1 F1 =>
 Y0 (setD Z0 7) E1 b1 c1 d1 e1 f1 g1 h1 F1) ∧
 (∀ Z0 : Nat → Bool, Z0 8 = false → Z0 7 = true → Z0 6 = true → Z0 6 = true → Z0 0 = true → Z0 1 = true → Z0 2 = true → Z0 3 = true → Z0 4 = true → Z0 5 = true → Z0 6 = true → ∀ a1 b1 c1 d1 e1 f1 g1 h1 : Value, ∀ G1 : World, Y0 Z0 a1 b1 c1 d1 e1 f1 g1 h1 G1 →
 RR (sOp (.store 40 (.const a1) (.const b1)) 0) G1 fun _u H1 =>
 Y0 (setD Z0 8) a1 b1 c1 d1 e1 f1 g1 h1 H1) ∧
 True) ∧
 ∀ Z0 : Nat → Bool, Z0 8 = true → Z0 7 = true → Z0 6 = true → Z0 5 = true → Z0 4 = true → Z0 3 = true → Z0 2 = true → Z0 1 = true → Z0 0 = true → ∀ a1 b1 c1 d1 e1 f1 g1 h1 : Value, ∀ I1 : World, Y0 Z0 a1 b1 c1 d1 e1 f1 g1 h1 I1 →
 RR (sBin .add 3 false true E0 (Value.int .i64 1)) I1 fun J1 K1 =>
 C0 J1 K1 ∧ D0 J1 K1 < D0 E0 N0)) (
 RR (sOp (.load 42 (.const a0)) 42) P0 fun L1 M1 =>
 RR (sOp (.store 42 (.const c0) (.const L1)) 0) M1 fun _ N1 =>
 (LoadV Tryz.prog 42 c0 N1 fun r0 => R (.returned r0) N1))))
theorem calls_i_mapVars {p0 p1 : Value} {w : World} {R : Ending → World → Prop} (h : sh_i_mapVars p0 p1 w R) : Calls Tryz.prog 51 #[p0, p1] w R :=
  calls_sh (.seq none .leaf (.seq none .leaf (.seq none .leaf (.seq none .leaf (.seq none (.seq none .leaf (.one (.loop [20] .leaf))) .leaf))))) [p0, p1] mixed Tryz.func51 (by kernel_rfl) (by kernel_rfl) h


/- (*loop.example/prologserver/impl.store).resolve : function 52 -/
def sh_i_store_resolve (p0 p1 : Value) (w : World) (R : Ending → World → Prop) : Prop :=
 RR (sOp (.box 42 (.const p1)) 0) w fun a0 b0 =>
 RR (sOp (.alloc 42) 0) b0 fun c0 d0 =>
 RR (sOp (.alloc 3) 0) d0 fun e0 f0 =>
 RR (sOp (.store 3 (.const e0) (.const (Value.int .i64 0))) 0) f0 fun _u g0 =>
 RR (sOp (.load 42 (.const a0)) 42) g0 fun h0 i0 =>
 RR (sCall (Value.func (.func 80) #[] #[]) [p0, h0, (Value.int .i64 1), e0]) i0 fun j0 k0 =>
 RR (sOp (.extract (.const j0) 0) 42) k0 fun l0 m0 =>
 RR (sOp (.extract (.const j0) 1) 4) m0 fun n0 o0 =>
 RR (sOp (.store 42 (.const c0) (.const l0)) 0) o0 fun _ q0 =>
 (LoadV Tryz.prog 42 c0 q0 fun r0 => R (.returned (.tuple #[r0, n0])) q0)
theorem calls_i_store_resolve {p0 p1 : Value} {w : World} {R : Ending → World → Prop} (h : sh_i_store_resolve p0 p1 w R) : Calls Tryz.prog 52 #[p0, p1] w R :=
  calls_sh .leaf [p0, p1] mixed Tryz.func52 (by kernel_rfl) (by kernel_rfl) h


/- loop.example/prologserver/impl.numbered : function 53 -/
def sh_i_numbered (p0 : Value) (w : World) (R : Ending → World → Prop) : Prop :=
 RR (sOp (.box 44 (.const p0)) 0) w fun a0 b0 =>
 RR (sOp (.alloc 44) 0) b0 fun c0 d0 =>
 RR (sOp (.fieldAddr 44 (.const a0) 0) 0) d0 fun e0 f0 =>
 RR (sOp (.load 42 (.const e0)) 42) f0 fun g0 h0 =>
 RR (sBuildSlice 40 1 [(0, g0)]) h0 fun i0 j0 =>
 RR (sOp (.fieldAddr 44 (.const a0) 1) 0) j0 fun k0 l0 =>
 RR (sOp (.load 40 (.const k0)) 40) l0 fun m0 n0 =>
 RR (sBuiltin .append #[40, 40] 40 [false, false] [i0, m0]) n0 fun o0 q0 =>
 RR (sCall (Value.func (.func 81) #[] #[]) [o0]) q0 fun s0 t0 =>
 (∃ u0 : (Nat → Bool) → Value → Value → Value → Value → Value → Value → Value → World → Prop, u0 (fun _ => false) undef undef undef undef undef undef undef { t0 with drawn := t0.drawn + 1 } ∧ (
 (∀ v0 : Nat → Bool, v0 0 = false → ∀ w0 x0 y0 z0 A0 B0 C0 : Value, ∀ D0 : World, u0 v0 w0 x0 y0 z0 A0 B0 C0 D0 →
 u0 (setD v0 0) w0 x0 y0 z0 A0 B0 s0 D0) ∧
 (∀ v0 : Nat → Bool, v0 1 = false → v0 0 = true → ∀ w0 x0 y0 z0 A0 B0 C0 : Value, ∀ E0 : World, u0 v0 w0 x0 y0 z0 A0 B0 C0 E0 →
 RR (sOp (.indexAddr 40 (.const C0) (.const (Value.int .i64 0))) 0) E0 fun F0 G0 =>
 u0 (setD v0 1) w0 x0 y0 z0 A0 F0 C0 G0) ∧
 (∀ v0 : Nat → Bool, v0 2 = false → v0 1 = true → ∀ w0 x0 y0 z0 A0 B0 C0 : Value, ∀ H0 : World, u0 v0 w0 x0 y0 z0 A0 B0 C0 H0 →
 RR (sOp (.load 42 (.const B0)) 42) H0 fun I0 J0 =>
 u0 (setD v0 2) w0 x0 y0 z0 I0 B0 C0 J0) ∧
 (∀ v0 : Nat → Bool, v0 3 = false → ∀ w0 x0 y0 z0 A0 B0 C0 : Value, ∀ K0 : World, u0 v0 w0 x0 y0 z0 A0 B0 C0 K0 →
 u0 (setD v0 3) w0 x0 y0 s0 A0 B0 C0 K0) ∧
 (∀ v0 : Nat → Bool, v0 4 = false → v0 3 = true → ∀ w0 x0 y0 z0 A0 B0 C0 : Value, ∀ L0 : World, u0 v0 w0 x0 y0 z0 A0 B0 C0 L0 →
 RR (sOp (.slice 40 (.const z0) (some (.const (Value.int .i64 1))) none none) 40) L0 fun M0 N0 =>
 u0 (setD v0 4) w0 x0 M0 z0 A0 B0 C0 N0) ∧
 (∀ v0 : Nat → Bool, v0 5 = false → v0 4 = true → ∀ w0 x0 y0 z0 A0 B0 C0 : Value, ∀ O0 : World, u0 v0 w0 x0 y0 z0 A0 B0 C0 O0 →
 RR (sCall (Value.func (.func 82) #[] #[]) [y0]) O0 fun P0 Q0 =>
 u0 (setD v0 5) w0 P0 y0 z0 A0 B0 C0 Q0) ∧
 (∀ v0 : Nat → Bool, v0 6 = false → v0 2 = true → v0 5 = true → ∀ w0 x0 y0 z0 A0 B0 C0 : Value, ∀ S0 : World, u0 v0 w0 x0 y0 z0 A0 B0 C0 S0 →
 RR (sBuild 44 [(0, A0), (1, x0)]) S0 fun T0 U0 =>
 u0 (setD v0 6) T0 x0 y0 z0 A0 B0 C0 U0) ∧
 (∀ v0 : Nat → Bool, v0 7 = false → v0 6 = true → v0 5 = true → v0 0 = true → v0 1 = true → v0 2 = true → v0 3 = true → v0 4 = true → v0 5 = true → v0 6 = true → ∀ w0 x0 y0 z0 A0 B0 C0 : Value, ∀ V0 : World, u0 v0 w0 x0 y0 z0 A0 B0 C0 V0 →
 RR (sOp (.store 44 (.const c0) (.const w0)) 0) V0 fun _ W0 =>
 u0 (setD v0 7) w0 x0 y0 z0 A0 B0 C0 W0) ∧
 True) ∧
 ∀ v0 : Nat → Bool, v0 7 = true → v0 6 = true → v0 5 = true → v0 4 = true → v0 3 = true → v0 2 = true → v0 1 = true → v0 0 = true → ∀ w0 x0 y0 z0 A0 B0 C0 : Value, ∀ X0 : World, u0 v0 w0 x0 y0 z0 A0 B0 C0 X0 →
 (LoadV Tryz.prog 44 c0 X0 fun r0 => R (.returned r0) X0))
theorem calls_i_numbered {p0 : Value} {w : World} {R : Ending → World → Prop} (h : sh_i_numbered p0 w R) : Calls Tryz.prog 53 #[p0] w R :=
  calls_sh .leaf [p0] mixed Tryz.func53 (by kernel_rfl) (by kernel_rfl) h


/- loop.example/prologserver/impl.ClauseValid : function 54 -/
def sh_i_ClauseValid (p0 : Value) (w : World) (R : Ending → World → Prop) : Prop :=
 RR (sOp (.box 44 (.const p0)) 0) w fun a0 b0 =>
 RR (sOp (.fieldAddr 44 (.const a0) 0) 0) b0 fun c0 d0 =>
 RR (sOp (.load 42 (.const c0)) 42) d0 fun e0 f0 =>
 RR (sCall (Value.func (.func 83) #[] #[]) [e0]) f0 fun g0 h0 =>
 GuardV g0 true (
 RR (sOp (.fieldAddr 44 (.const a0) 0) 0) h0 fun i0 j0 =>
 RR (sOp (.load 42 (.const i0)) 42) j0 fun k0 l0 =>
 RR (sCall (Value.func (.func 71) #[] #[]) [k0]) l0 fun m0 n0 =>
 RR (sOp (.pick (.const g0) (.const m0) (.const (Value.bool false))) 4) n0 fun o0 q0 =>
 GuardV o0 true (
 RR (sOp (.fieldAddr 44 (.const a0) 1) 0) q0 fun s0 t0 =>
 RR (sOp (.load 40 (.const s0)) 40) t0 fun u0 v0 =>
 RR (sCall (Value.func (.func 84) #[] #[]) [u0]) v0 fun w0 x0 =>
 RR (sOp (.pick (.const o0) (.const w0) (.const (Value.bool false))) 4) x0 fun y0 z0 =>
 R (.returned y0) z0) (
 RR (sOp (.pick (.const o0) (.const undef) (.const (Value.bool false))) 4) q0 fun A0 B0 =>
 R (.returned A0) B0)) (
 RR (sOp (.pick (.const g0) (.const undef) (.const (Value.bool false))) 4) h0 fun C0 D0 =>
 GuardV C0 true (
 RR (sOp (.fieldAddr 44 (.const a0) 1) 0) D0 fun E0 F0 =>
 RR (sOp (.load 40 (.const E0)) 40) F0 fun G0 H0 =>
 RR (sCall (Value.func (.func 84) #[] #[]) [G0]) H0 fun I0 J0 =>
 RR (sOp (.pick (.const C0) (.const I0) (.const (Value.bool false))) 4) J0 fun K0 L0 =>
 R (.returned K0) L0) (
 RR (sOp (.pick (.const C0) (.const undef) (.const (Value.bool false))) 4) D0 fun M0 N0 =>
 R (.returned M0) N0))
theorem calls_i_ClauseValid {p0 : Value} {w : World} {R : Ending → World → Prop} (h : sh_i_ClauseValid p0 w R) : Calls Tryz.prog 54 #[p0] w R :=
  calls_sh .leaf [p0] mixed Tryz.func54 (by kernel_rfl) (by kernel_rfl) h


/- slices.ContainsFunc[[]loop.example/prologserver/impl.Clause,loop.example/prologserver/impl.Clause] : function 55 -/
def sh_x_ContainsFunc_Clause (p0 p1 : Value) (w : World) (R : Ending → World → Prop) : Prop :=
 RR (sCall (Value.func (.func 85) #[] #[]) [p0, p1]) w fun a0 b0 =>
 RR (sBin .geq 3 false true a0 (Value.int .i64 0)) b0 fun c0 d0 =>
 R (.returned c0) d0
theorem calls_x_ContainsFunc_Clause {p0 p1 : Value} {w : World} {R : Ending → World → Prop} (h : sh_x_ContainsFunc_Clause p0 p1 w R) : Calls Tryz.prog 55 #[p0, p1] w R :=
  calls_sh .leaf [p0, p1] mixed Tryz.func55 (by kernel_rfl) (by kernel_rfl) h


/- loop.example/prologserver/impl.ProgramValid$1 : function 56 -/
def sh_i_ProgramValid_1 (p0 : Value) (w : World) (R : Ending → World → Prop) : Prop :=
 RR (sOp (.box 44 (.const p0)) 0) w fun a0 b0 =>
 RR (sOp (.load 44 (.const a0)) 44) b0 fun c0 d0 =>
 RR (sCall (Value.func (.func 54) #[] #[]) [c0]) d0 fun e0 f0 =>
 RR (sOp (.unOp .not 4 (.const e0)) 4) f0 fun g0 h0 =>
 R (.returned g0) h0
theorem calls_i_ProgramValid_1 {p0 : Value} {w : World} {R : Ending → World → Prop} (h : sh_i_ProgramValid_1 p0 w R) : Calls Tryz.prog 56 #[p0] w R :=
  calls_sh .leaf [p0] mixed Tryz.func56 (by kernel_rfl) (by kernel_rfl) h


/- loop.example/prologserver/laws.eqTerm : function 57 -/
def sh_l_eqTerm (p0 p1 : Value) (w : World) (R : Ending → World → Prop) : Prop :=
 RR (sOp (.box 42 (.const p0)) 0) w fun a0 b0 =>
 RR (sOp (.box 42 (.const p1)) 0) b0 fun c0 d0 =>
 RR (sOp (.fieldAddr 42 (.const a0) 0) 0) d0 fun e0 f0 =>
 RR (sOp (.load 3 (.const e0)) 3) f0 fun g0 h0 =>
 RR (sOp (.fieldAddr 42 (.const c0) 0) 0) h0 fun i0 j0 =>
 RR (sOp (.load 3 (.const i0)) 3) j0 fun k0 l0 =>
 RR (sBin .neq 3 false false g0 k0) l0 fun m0 n0 =>
 CondV m0 (
 R (.returned (Value.bool false)) n0) (
 RR (sOp (.fieldAddr 42 (.const a0) 1) 0) n0 fun o0 q0 =>
 RR (sOp (.load 3 (.const o0)) 3) q0 fun s0 t0 =>
 RR (sOp (.fieldAddr 42 (.const c0) 1) 0) t0 fun u0 v0 =>
 RR (sOp (.load 3 (.const u0)) 3) v0 fun w0 x0 =>
 RR (sBin .neq 3 false false s0 w0) x0 fun y0 z0 =>
 CondV y0 (
 R (.returned (Value.bool false)) z0) (
 RR (sOp (.fieldAddr 42 (.const a0) 2) 0) z0 fun A0 B0 =>
 RR (sOp (.load 9 (.const A0)) 9) B0 fun C0 D0 =>
 RR (sOp (.fieldAddr 42 (.const c0) 2) 0) D0 fun E0 F0 =>
 RR (sOp (.load 9 (.const E0)) 9) F0 fun G0 H0 =>
 RR (sBin .neq 9 false false C0 G0) H0 fun I0 J0 =>
 CondV I0 (
 R (.returned (Value.bool false)) J0) (
 RR (sOp (.fieldAddr 42 (.const a0) 3) 0) J0 fun K0 L0 =>
 RR (sOp (.load 40 (.const K0)) 40) L0 fun M0 N0 =>
 RR (sOp (.fieldAddr 42 (.const c0) 3) 0) N0 fun O0 P0 =>
 RR (sOp (.load 40 (.const O0)) 40) P0 fun Q0 S0 =>
 RR (sCall (Value.func (.func 58) #[] #[]) [M0, Q0]) S0 fun T0 U0 =>
 RR (sOp (.unOp .not 4 (.const T0)) 4) U0 fun V0 W0 =>
 CondV V0 (
 R (.returned (Value.bool false)) W0) (
 R (.returned (Value.bool true)) W0))))
theorem calls_l_eqTerm {p0 p1 : Value} {w : World} {R : Ending → World → Prop} (h : sh_l_eqTerm p0 p1 w R) : Calls Tryz.prog 57 #[p0, p1] w R :=
  calls_sh .leaf [p0, p1] mixed Tryz.func57 (by kernel_rfl) (by kernel_rfl) h


/- loop.example/prologserver/laws.eqTermS : function 58 -/
def sh_l_eqTermS (p0 p1 : Value) (w : World) (R : Ending → World → Prop) : Prop :=
 RR (sBuiltin .len #[40] 3 [false] [p0]) w fun a0 b0 =>
 RR (sBuiltin .len #[40] 3 [false] [p1]) b0 fun c0 d0 =>
 RR (sBin .neq 3 false false a0 c0) d0 fun e0 f0 =>
 CondV e0 (
 R (.returned (Value.bool false)) f0) (
 (∃ (g0 : Value → World → Prop) (h0 : Value → World → Nat), g0 (Value.int .i64 0) f0 ∧
 ∀ i0 _ _ _ j0 k0 l0 m0 n0 o0 q0 s0 t0 u0 _ _ _ _ : Value, ∀ v0 : World, g0 i0 v0 →
 RR (sBuiltin .len #[40] 3 [false] [p0]) v0 fun w0 x0 =>
 RR (sBin .lss 3 false false i0 w0) x0 fun y0 z0 =>
 CondV y0 (
 (∃ A0 : (Nat → Bool) → Value → Value → Value → Value → Value → Value → Value → Value → Value → Value → World → Prop, A0 (fun _ => false) j0 k0 l0 m0 n0 o0 q0 s0 t0 u0 { z0 with drawn := z0.drawn + 1 } ∧ (
 (∀ B0 : Nat → Bool, B0 0 = false → ∀ C0 D0 E0 F0 G0 H0 I0 J0 K0 L0 : Value, ∀ M0 : World, A0 B0 C0 D0 E0 F0 G0 H0 I0 J0 K0 L0 M0 →
 A0 (setD B0 0) C0 D0 E0 F0 G0 H0 I0 J0 K0 p0 M0) ∧
 (∀ B0 : Nat → Bool, B0 1 = false → ∀ C0 D0 E0 F0 G0 H0 I0 J0 K0 L0 : Value, ∀ N0 : World, A0 B0 C0 D0 E0 F0 G0 H0 I0 J0 K0 L0 N0 →
 A0 (setD B0 1) C0 D0 E0 F0 G0 H0 I0 J0 i0 L0 N0) ∧
 (∀ B0 : Nat → Bool, B0 2 = false → B0 0 = true → B0 1 = true → ∀ C0 D0 E0 F0 G0 H0 I0 J0 K0 L0 : Value, ∀ O0 : World, A0 B0 C0 D0 E0 F0 G0 H0 I0 J0 K0 L0 O0 →
 RR (sOp (.indexAddr 40 (.const L0) (.const K0)) 0) O0 fun P0 Q0 =>
 A0 (setD B0 2) C0 D0 E0 F0 G0 H0 I0 P0 K0 L0 Q0) ∧
 (∀ B0 : Nat → Bool, B0 3 = false → B0 2 = true → ∀ C0 D0 E0 F0 G0 H0 I0 J0 K0 L0 : Value, ∀ S0 : World, A0 B0 C0 D0 E0 F0 G0 H0 I0 J0 K0 L0 S0 →
 RR (sOp (.load 42 (.const J0)) 42) S0 fun T0 U0 =>
 A0 (setD B0 3) C0 D0 E0 F0 G0 H0 T0 J0 K0 L0 U0) ∧
 (∀ B0 : Nat → Bool, B0 4 = false → ∀ C0 D0 E0 F0 G0 H0 I0 J0 K0 L0 : Value, ∀ V0 : World, A0 B0 C0 D0 E0 F0 G0 H0 I0 J0 K0 L0 V0 →
 A0 (setD B0 4) C0 D0 E0 F0 G0 p1 I0 J0 K0 L0 V0) ∧
 (∀ B0 : Nat → Bool, B0 5 = false → ∀ C0 D0 E0 F0 G0 H0 I0 J0 K0 L0 : Value, ∀ W0 : World, A0 B0 C0 D0 E0 F0 G0 H0 I0 J0 K0 L0 W0 →
 A0 (setD B0 5) C0 D0 E0 F0 i0 H0 I0 J0 K0 L0 W0) ∧
 (∀ B0 : Nat → Bool, B0 6 = false → B0 4 = true → B0 5 = true → ∀ C0 D0 E0 F0 G0 H0 I0 J0 K0 L0 : Value, ∀ X0 : World, A0 B0 C0 D0 E0 F0 G0 H0 I0 J0 K0 L0 X0 →
 RR (sOp (.indexAddr 40 (.const H0) (.const G0)) 0) X0 fun Y0 Z0 =>
 A0 (setD B0 6) C0 D0 E0 Y0 G0 H0 I0 J0 K0 L0 Z0) ∧
 (∀ B0 : Nat → Bool, B0 7 = false → B0 6 = true → ∀ C0 D0 E0 F0 G0 H0 I0 J0 K0 L0 : Value, ∀ a1 : World, A0 B0 C0 D0 E0 F0 G0 H0 I0 J0 K0 L0 a1 →
 RR (sOp (.load 42 (.const F0)) 42) a1 fun b1 c1 =>
 A0 (setD B0 7) C0 D0 b1 F0 G0 H0 I0 J0 K0 L0 c1) ∧
 (∀ B0 : Nat → Bool, B0 8 = false → B0 3 = true → B0 7 = true → ∀ C0 D0 E0 F0 G0 H0 I0 J0 K0 L0 : Value, ∀ d1 : World, A0 B0 C0 D0 E0 F0 G0 H0 I0 J0 K0 L0 d1 →
 RR (sCall (Value.func (.func 57) #[] #[]) [I0, E0]) d1 fun e1 f1 =>
 A0 (setD B0 8) C0 e1 E0 F0 G0 H0 I0 J0 K0 L0 f1) ∧
 (∀ B0 : Nat → Bool, B0 9 = false → B0 8 = true → ∀ C0 D0 E0 F0 G0 H0 I0 J0 K0 L0 : Value, ∀ g1 : World, A0 B0 C0 D0 E0 F0 G0 H0 I0 J0 K0 L0 g1 →
 RR (sOp (.unOp .not 4 (.const D0)) 4) g1 fun h1 i1 =>
 A0 (setD B0 9) h1 D0 E0 F0 G0 H0 I0 J0 K0 L0 i1) ∧
 True) ∧
 ∀ B0 : Nat → Bool, B0 9 = true → B0 8 = true → B0 7 = true → B0 6 = true → B0 5 = true → B0 4 = true → B0 3 = true → B0 2 = true → B0 1 = true → B0 0 = true → ∀ C0 D0 E0 F0 G0 H0 I0 J0 K0 L0 : Value, ∀ j1 : World, A0 B0 C0 D0 E0 F0 G0 H0 I0 J0 K0 L0 j1 →
 CondV C0 (
 R (.returned (Value.bool false)) j1) (
 RR (sBin .add 3 false true i0 (Value.int .i64 1)) j1 fun k1 l1 =>
 g0 k1 l1 ∧ h0 k1 l1 < h0 i0 v0))) (
 R (.returned (Value.bool true)) z0)))
theorem calls_l_eqTermS {p0 p1 : Value} {w : World} {R : Ending → World → Prop} (h : sh_l_eqTermS p0 p1 w R) : Calls Tryz.prog 58 #[p0, p1] w R :=
  calls_sh (.seq none .leaf (.seq none .leaf (.seq none (.seq none .leaf (.one (.loop [5] .leaf))) .leaf))) [p0, p1] mixed Tryz.func58 (by kernel_rfl) (by kernel_rfl) h


/- loop.example/prologserver/spec.l4Plain : function 59 -/
def sh_s_l4Plain (p0 : Value) (w : World) (R : Ending → World → Prop) : Prop :=
 RR (sOp (.box 42 (.const p0)) 0) w fun a0 b0 =>
 RR (sOp (.fieldAddr 42 (.const a0) 0) 0) b0 fun c0 d0 =>
 RR (sOp (.load 3 (.const c0)) 3) d0 fun e0 f0 =>
 RR (sBin .eql 3 false true e0 (Value.int .i64 3)) f0 fun g0 h0 =>
 GuardV g0 true (
 RR (sOp (.fieldAddr 42 (.const a0) 2) 0) h0 fun i0 j0 =>
 RR (sOp (.load 9 (.const i0)) 9) j0 fun k0 l0 =>
 RR (sCall (Value.func (.func 86) #[] #[]) [k0]) l0 fun m0 n0 =>
 RR (sOp (.pick (.const g0) (.const m0) (.const (Value.bool false))) 4) n0 fun o0 q0 =>
 GuardV o0 true (
 RR (sOp (.fieldAddr 42 (.const a0) 2) 0) q0 fun s0 t0 =>
 RR (sOp (.load 9 (.const s0)) 9) t0 fun u0 v0 =>
 RR (sOp (.fieldAddr 42 (.const a0) 3) 0) v0 fun w0 x0 =>
 RR (sOp (.load 40 (.const w0)) 40) x0 fun y0 z0 =>
 RR (sBuiltin .len #[40] 3 [false] [y0]) z0 fun A0 B0 =>
 RR (sCall (Value.func (.func 87) #[] #[]) [u0, A0]) B0 fun C0 D0 =>
 RR (sOp (.unOp .not 4 (.const C0)) 4) D0 fun E0 F0 =>
 RR (sOp (.pick (.const o0) (.const E0) (.const (Value.bool false))) 4) F0 fun G0 H0 =>
 GuardV G0 true (
 RR (sOp (.fieldAddr 42 (.const a0) 2) 0) H0 fun I0 J0 =>
 RR (sOp (.load 9 (.const I0)) 9) J0 fun K0 L0 =>
 RR (sCall (Value.func (.func 88) #[] #[]) [K0]) L0 fun M0 N0 =>
 RR (sBin .eql 3 false true M0 (Value.int .i64 0)) N0 fun O0 P0 =>
 RR (sOp (.pick (.const G0) (.const O0) (.const (Value.bool false))) 4) P0 fun Q0 S0 =>
 R (.returned Q0) S0) (
 RR (sOp (.pick (.const G0) (.const undef) (.const (Value.bool false))) 4) H0 fun T0 U0 =>
 R (.returned T0) U0)) (
 RR (sOp (.pick (.const o0) (.const undef) (.const (Value.bool false))) 4) q0 fun V0 W0 =>
 GuardV V0 true (
 RR (sOp (.fieldAddr 42 (.const a0) 2) 0) W0 fun X0 Y0 =>
 RR (sOp (.load 9 (.const X0)) 9) Y0 fun Z0 a1 =>
 RR (sCall (Value.func (.func 88) #[] #[]) [Z0]) a1 fun b1 c1 =>
 RR (sBin .eql 3 false true b1 (Value.int .i64 0)) c1 fun d1 e1 =>
 RR (sOp (.pick (.const V0) (.const d1) (.const (Value.bool false))) 4) e1 fun f1 g1 =>
 R (.returned f1) g1) (
 RR (sOp (.pick (.const V0) (.const undef) (.const (Value.bool false))) 4) W0 fun h1 i1 =>
 R (.returned h1) i1))) (
 RR (sOp (.pick (.const g0) (.const undef) (.const (Value.bool false))) 4) h0 fun j1 k1 =>
 GuardV j1 true (
 RR (sOp (.fieldAddr 42 (.const a0) 2) 0) k1 fun l1 m1 =>
 RR (sOp (.load 9 (.const l1)) 9) m1 fun n1 o1 =>
 RR (sOp (.fieldAddr 42 (.const a0) 3) 0) o1 fun q1 s1 =>
 RR (sOp (.load 40 (.const q1)) 40) s1 fun t1 u1 =>
 RR (sBuiltin .len #[40] 3 [false] [t1]) u1 fun v1 w1 =>
 RR (sCall (Value.func (.func 87) #[] #[]) [n1, v1]) w1 fun x1 y1 =>
 RR (sOp (.unOp .not 4 (.const x1)) 4) y1 fun z1 A1 =>
 RR (sOp (.pick (.const j1) (.const z1) (.const (Value.bool false))) 4) A1 fun B1 C1 =>
 GuardV B1 true (
 RR (sOp (.fieldAddr 42 (.const a0) 2) 0) C1 fun D1 E1 =>
 RR (sOp (.load 9 (.const D1)) 9) E1 fun F1 G1 =>
 RR (sCall (Value.func (.func 88) #[] #[]) [F1]) G1 fun H1 I1 =>
 RR (sBin .eql 3 false true H1 (Value.int .i64 0)) I1 fun J1 K1 =>
 RR (sOp (.pick (.const B1) (.const J1) (.const (Value.bool false))) 4) K1 fun L1 M1 =>
 R (.returned L1) M1) (
 RR (sOp (.pick (.const B1) (.const undef) (.const (Value.bool false))) 4) C1 fun N1 O1 =>
 R (.returned N1) O1)) (
 RR (sOp (.pick (.const j1) (.const undef) (.const (Value.bool false))) 4) k1 fun P1 Q1 =>
 GuardV P1 true (
 RR (sOp (.fieldAddr 42 (.const a0) 2) 0) Q1 fun S1 T1 =>
 RR (sOp (.load 9 (.const S1)) 9) T1 fun U1 V1 =>
 RR (sCall (Value.func (.func 88) #[] #[]) [U1]) V1 fun W1 X1 =>
 RR (sBin .eql 3 false true W1 (Value.int .i64 0)) X1 fun Y1 Z1 =>
 RR (sOp (.pick (.const P1) (.const Y1) (.const (Value.bool false))) 4) Z1 fun a2 b2 =>
 R (.returned a2) b2) (
 RR (sOp (.pick (.const P1) (.const undef) (.const (Value.bool false))) 4) Q1 fun c2 d2 =>
 R (.returned c2) d2)))
theorem calls_s_l4Plain {p0 : Value} {w : World} {R : Ending → World → Prop} (h : sh_s_l4Plain p0 w R) : Calls Tryz.prog 59 #[p0] w R :=
  calls_sh .leaf [p0] mixed Tryz.func59 (by kernel_rfl) (by kernel_rfl) h


/- loop.example/prologserver/spec.l4Cut : function 60 -/
def sh_s_l4Cut (p0 : Value) (w : World) (R : Ending → World → Prop) : Prop :=
 RR (sOp (.box 42 (.const p0)) 0) w fun a0 b0 =>
 RR (sOp (.fieldAddr 42 (.const a0) 0) 0) b0 fun c0 d0 =>
 RR (sOp (.load 3 (.const c0)) 3) d0 fun e0 f0 =>
 RR (sBin .eql 3 false true e0 (Value.int .i64 3)) f0 fun g0 h0 =>
 GuardV g0 true (
 RR (sOp (.fieldAddr 42 (.const a0) 2) 0) h0 fun i0 j0 =>
 RR (sOp (.load 9 (.const i0)) 9) j0 fun k0 l0 =>
 RR (sBin .eql 9 false true k0 (Value.string ⟨#[33]⟩)) l0 fun m0 n0 =>
 RR (sOp (.pick (.const g0) (.const m0) (.const (Value.bool false))) 4) n0 fun o0 q0 =>
 GuardV o0 true (
 RR (sOp (.fieldAddr 42 (.const a0) 3) 0) q0 fun s0 t0 =>
 RR (sOp (.load 40 (.const s0)) 40) t0 fun u0 v0 =>
 RR (sBuiltin .len #[40] 3 [false] [u0]) v0 fun w0 x0 =>
 RR (sBin .eql 3 false true w0 (Value.int .i64 0)) x0 fun y0 z0 =>
 RR (sOp (.pick (.const o0) (.const y0) (.const (Value.bool false))) 4) z0 fun A0 B0 =>
 R (.returned A0) B0) (
 RR (sOp (.pick (.const o0) (.const undef) (.const (Value.bool false))) 4) q0 fun C0 D0 =>
 R (.returned C0) D0)) (
 RR (sOp (.pick (.const g0) (.const undef) (.const (Value.bool false))) 4) h0 fun E0 F0 =>
 GuardV E0 true (
 RR (sOp (.fieldAddr 42 (.const a0) 3) 0) F0 fun G0 H0 =>
 RR (sOp (.load 40 (.const G0)) 40) H0 fun I0 J0 =>
 RR (sBuiltin .len #[40] 3 [false] [I0]) J0 fun K0 L0 =>
 RR (sBin .eql 3 false true K0 (Value.int .i64 0)) L0 fun M0 N0 =>
 RR (sOp (.pick (.const E0) (.const M0) (.const (Value.bool false))) 4) N0 fun O0 P0 =>
 R (.returned O0) P0) (
 RR (sOp (.pick (.const E0) (.const undef) (.const (Value.bool false))) 4) F0 fun Q0 S0 =>
 R (.returned Q0) S0))
theorem calls_s_l4Cut {p0 : Value} {w : World} {R : Ending → World → Prop} (h : sh_s_l4Cut p0 w R) : Calls Tryz.prog 60 #[p0] w R :=
  calls_sh .leaf [p0] mixed Tryz.func60 (by kernel_rfl) (by kernel_rfl) h


/- loop.example/prologserver/spec.l3Shift : function 61 -/
def sh_s_l3Shift (p0 p1 : Value) (w : World) (R : Ending → World → Prop) : Prop :=
 RR (sOp (.box 42 (.const p0)) 0) w fun a0 b0 =>
 RR (sOp (.alloc 42) 0) b0 fun c0 d0 =>
 RR (sOp (.fieldAddr 42 (.const a0) 0) 0) d0 fun e0 f0 =>
 RR (sOp (.load 3 (.const e0)) 3) f0 fun g0 h0 =>
 RR (sOp (.fieldAddr 42 (.const a0) 1) 0) h0 fun i0 j0 =>
 RR (sOp (.load 3 (.const i0)) 3) j0 fun k0 l0 =>
 RR (sOp (.fieldAddr 42 (.const a0) 2) 0) l0 fun m0 n0 =>
 RR (sOp (.load 9 (.const m0)) 9) n0 fun o0 q0 =>
 RR (sBuild 42 [(0, g0), (1, k0), (2, o0)]) q0 fun s0 t0 =>
 RR (sOp (.alloc 42) 0) t0 fun u0 v0 =>
 RR (sOp (.store 42 (.const u0) (.const s0)) 0) v0 fun _u w0 =>
 (∃ x0 : World → Prop, (
 RR (sOp (.fieldAddr 42 (.const a0) 0) 0) w0 fun y0 z0 =>
 RR (sOp (.load 3 (.const y0)) 3) z0 fun A0 B0 =>
 RR (sBin .eql 3 false true A0 (Value.int .i64 1)) B0 fun C0 D0 =>
 CondV C0 (
 RR (sOp (.fieldAddr 42 (.const a0) 1) 0) D0 fun E0 F0 =>
 RR (sOp (.load 3 (.const E0)) 3) F0 fun G0 H0 =>
 RR (sBin .add 3 false false G0 p1) H0 fun I0 J0 =>
 RR (sOp (.fieldAddr 42 (.const u0) 1) 0) J0 fun K0 L0 =>
 RR (sOp (.store 3 (.const K0) (.const I0)) 0) L0 fun _u M0 =>
 x0 M0) (
 x0 D0)) ∧
 ∀ _ _ _ _ _ _ _ _ : Value, ∀ N0 : World, x0 N0 →
 (∃ (O0 : Value → World → Prop) (P0 : Value → World → Nat), O0 (Value.int .i64 0) N0 ∧
 ∀ Q0 _ _ S0 T0 U0 V0 W0 X0 Y0 Z0 a1 b1 c1 d1 _ _ _ _ _ : Value, ∀ e1 : World, O0 Q0 e1 →
 RR (sOp (.fieldAddr 42 (.const a0) 3) 0) e1 fun f1 g1 =>
 RR (sOp (.load 40 (.const f1)) 40) g1 fun h1 i1 =>
 RR (sBuiltin .len #[40] 3 [false] [h1]) i1 fun j1 k1 =>
 RR (sBin .lss 3 false false Q0 j1) k1 fun l1 m1 =>
 CondV l1 (
 (∃ n1 : (Nat → Bool) → Value → Value → Value → Value → Value → Value → Value → Value → Value → Value → Value → Value → World → Prop, n1 (fun _ => false) S0 T0 U0 V0 W0 X0 Y0 Z0 a1 b1 c1 d1 { m1 with drawn := m1.drawn + 1 } ∧ (
 (∀ o1 : Nat → Bool, o1 0 = false → ∀ q1 s1 t1 u1 v1 w1 x1 y1 z1 A1 B1 C1 : Value, ∀ D1 : World, n1 o1 q1 s1 t1 u1 v1 w1 x1 y1 z1 A1 B1 C1 D1 →
 RR (sOp (.fieldAddr 42 (.const u0) 3) 0) D1 fun E1 F1 =>
 n1 (setD o1 0) q1 s1 t1 u1 v1 w1 x1 y1 z1 A1 B1 E1 F1) ∧
 (∀ o1 : Nat → Bool, o1 1 = false → o1 0 = true → ∀ q1 s1 t1 u1 v1 w1 x1 y1 z1 A1 B1 C1 : Value, ∀ G1 : World, n1 o1 q1 s1 t1 u1 v1 w1 x1 y1 z1 A1 B1 C1 G1 →
 RR (sOp (.load 40 (.const C1)) 40) G1 fun H1 I1 =>
 n1 (setD o1 1) q1 s1 t1 u1 v1 w1 x1 y1 z1 A1 H1 C1 I1) ∧
 (∀ o1 : Nat → Bool, o1 2 = false → ∀ q1 s1 t1 u1 v1 w1 x1 y1 z1 A1 B1 C1 : Value, ∀ J1 : World, n1 o1 q1 s1 t1 u1 v1 w1 x1 y1 z1 A1 B1 C1 J1 →
 RR (sOp (.fieldAddr 42 (.const a0) 3) 0) J1 fun K1 L1 =>
 n1 (setD o1 2) q1 s1 t1 u1 v1 w1 x1 y1 z1 K1 B1 C1 L1) ∧
 (∀ o1 : Nat → Bool, o1 3 = false → o1 2 = true → ∀ q1 s1 t1 u1 v1 w1 x1 y1 z1 A1 B1 C1 : Value, ∀ M1 : World, n1 o1 q1 s1 t1 u1 v1 w1 x1 y1 z1 A1 B1 C1 M1 →
 RR (sOp (.load 40 (.const A1)) 40) M1 fun N1 O1 =>
 n1 (setD o1 3) q1 s1 t1 u1 v1 w1 x1 y1 N1 A1 B1 C1 O1) ∧
 (∀ o1 : Nat → Bool, o1 4 = false → ∀ q1 s1 t1 u1 v1 w1 x1 y1 z1 A1 B1 C1 : Value, ∀ P1 : World, n1 o1 q1 s1 t1 u1 v1 w1 x1 y1 z1 A1 B1 C1 P1 →
 n1 (setD o1 4) q1 s1 t1 u1 v1 w1 x1 Q0 z1 A1 B1 C1 P1) ∧
 (∀ o1 : Nat → Bool, o1 5 = false → o1 3 = true → o1 4 = true → ∀ q1 s1 t1 u1 v1 w1 x1 y1 z1 A1 B1 C1 : Value, ∀ Q1 : World, n1 o1 q1 s1 t1 u1 v1 w1 x1 y1 z1 A1 B1 C1 Q1 →
 RR (sOp (.indexAddr 40 (.const z1) (.const y1)) 0) Q1 fun S1 T1 =>
 n1 (setD o1 5) q1 s1 t1 u1 v1 w1 S1 y1 z1 A1 B1 C1 T1) ∧
 (∀ o1 : Nat → Bool, o1 6 = false → o1 5 = true → ∀ q1 s1 t1 u1 v1 w1 x1 y1 z1 A1 B1 C1 : Value, ∀ U1 : World, n1 o1 q1 s1 t1 u1 v1 w1 x1 y1 z1 A1 B1 C1 U1 →
 RR (sOp (.load 42 (.const x1)) 42) U1 fun V1 W1 =>
 n1 (setD o1 6) q1 s1 t1 u1 v1 V1 x1 y1 z1 A1 B1 C1 W1) ∧
 (∀ o1 : Nat → Bool, o1 7 = false → ∀ q1 s1 t1 u1 v1 w1 x1 y1 z1 A1 B1 C1 : Value, ∀ X1 : World, n1 o1 q1 s1 t1 u1 v1 w1 x1 y1 z1 A1 B1 C1 X1 →
 n1 (setD o1 7) q1 s1 t1 u1 p1 w1 x1 y1 z1 A1 B1 C1 X1) ∧
 (∀ o1 : Nat → Bool, o1 8 = false → o1 6 = true → o1 7 = true → ∀ q1 s1 t1 u1 v1 w1 x1 y1 z1 A1 B1 C1 : Value, ∀ Y1 : World, n1 o1 q1 s1 t1 u1 v1 w1 x1 y1 z1 A1 B1 C1 Y1 →
 RR (sCall (Value.func (.func 61) #[] #[]) [w1, v1]) Y1 fun Z1 a2 =>
 n1 (setD o1 8) q1 s1 t1 Z1 v1 w1 x1 y1 z1 A1 B1 C1 a2) ∧
 (∀ o1 : Nat → Bool, o1 9 = false → o1 8 = true → ∀ q1 s1 t1 u1 v1 w1 x1 y1 z1 A1 B1 C1 : Value, ∀ b2 : World, n1 o1 q1 s1 t1 u1 v1 w1 x1 y1 z1 A1 B1 C1 b2 →
 RR (sBuildSlice 40 1 [(0, u1)]) b2 fun c2 d2 =>
 n1 (setD o1 9) q1 s1 c2 u1 v1 w1 x1 y1 z1 A1 B1 C1 d2) ∧
 (∀ o1 : Nat → Bool, o1 10 = false → o1 1 = true → o1 9 = true → o1 8 = true → ∀ q1 s1 t1 u1 v1 w1 x1 y1 z1 A1 B1 C1 : Value, ∀ e2 : World, n1 o1 q1 s1 t1 u1 v1 w1 x1 y1 z1 A1 B1 C1 e2 →
 RR (sBuiltin .append #[40, 40] 40 [false, false] [B1, t1]) e2 fun f2 g2 =>
 n1 (setD o1 10) q1 f2 t1 u1 v1 w1 x1 y1 z1 A1 B1 C1 g2) ∧
 (∀ o1 : Nat → Bool, o1 11 = false → o1 0 = true → o1 1 = true → o1 2 = true → o1 3 = true → o1 4 = true → o1 5 = true → o1 6 = true → o1 7 = true → o1 8 = true → o1 9 = true → o1 10 = true → ∀ q1 s1 t1 u1 v1 w1 x1 y1 z1 A1 B1 C1 : Value, ∀ h2 : World, n1 o1 q1 s1 t1 u1 v1 w1 x1 y1 z1 A1 B1 C1 h2 →
 RR (sOp (.fieldAddr 42 (.const u0) 3) 0) h2 fun i2 j2 =>
 n1 (setD o1 11) i2 s1 t1 u1 v1 w1 x1 y1 z1 A1 B1 C1 j2) ∧
 (∀ o1 : Nat → Bool, o1 12 = false → o1 11 = true → o1 10 = true → o1 10 = true → o1 0 = true → o1 1 = true → o1 2 = true → o1 3 = true → o1 4 = true → o1 5 = true → o1 6 = true → o1 7 = true → o1 8 = true → o1 9 = true → o1 10 = true → ∀ q1 s1 t1 u1 v1 w1 x1 y1 z1 A1 B1 C1 : Value, ∀ k2 : World, n1 o1 q1 s1 t1 u1 v1 w1 x1 y1 z1 A1 B1 C1 k2 →
 RR (sOp (.store 40 (.const q1) (.const s1)) 0) k2 fun _u l2 =>
 n1 (setD o1 12) q1 s1 t1 u1 v1 w1 x1 y1 z1 A1 B1 C1 l2) ∧
 True) ∧
 ∀ o1 : Nat → Bool, o1 12 = true → o1 11 = true → o1 10 = true → o1 9 = true → o1 8 = true → o1 7 = true → o1 6 = true → o1 5 = true → o1 4 = true → o1 3 = true → o1 2 = true → o1 1 = true → o1 0 = true → ∀ q1 s1 t1 u1 v1 w1 x1 y1 z1 A1 B1 C1 : Value, ∀ m2 : World, n1 o1 q1 s1 t1 u1 v1 w1 x1 y1 z1 A1 B1 C1 m2 →
 RR (sBin .add 3 false true Q0 (Value.int .i64 1)) m2 fun n2 o2 =>
 O0 n2 o2 ∧ P0 n2 o2 < P0 Q0 e1)) (
 RR (sOp (.load 42 (.const u0)) 42) m1 fun q2 s2 =>
 RR (sOp (.store 42 (.const c0) (.const q2)) 0) s2 fun _ t2 =>
 (LoadV Tryz.prog 42 c0 t2 fun r0 => R (.returned r0) t2))))
theorem calls_s_l3Shift {p0 p1 : Value} {w : World} {R : Ending → World → Prop} (h : sh_s_l3Shift p0 p1 w R) : Calls Tryz.prog 61 #[p0, p1] w R :=
  calls_sh (.seq none .leaf (.seq none .leaf (.seq (some []) .leaf (.seq none (.seq none .leaf (.one (.loop [6] .leaf))) .leaf)))) [p0, p1] mixed Tryz.func61 (by kernel_rfl) (by kernel_rfl) h


/- loop.example/prologserver/spec.l3Walk : function 62 -/
def sh_s_l3Walk (p0 p1 : Value) (w : World) (R : Ending → World → Prop) : Prop :=
 RR (sOp (.box 42 (.const p0)) 0) w fun a0 b0 =>
 RR (sOp (.alloc 42) 0) b0 fun c0 d0 =>
 (∃ (e0 : World → Prop) (f0 : World → Nat), e0 d0 ∧
 ∀ _ _ _ _ _ _ _ _ _ _ _ _ _ _ _ _ _ _ _ _ _ _ _ _ : Value, ∀ g0 : World, e0 g0 →
 (∃ h0 : Value → World → Prop, (
 RR (sOp (.fieldAddr 42 (.const a0) 0) 0) g0 fun i0 j0 =>
 RR (sOp (.load 3 (.const i0)) 3) j0 fun k0 l0 =>
 RR (sBin .eql 3 false true k0 (Value.int .i64 1)) l0 fun m0 n0 =>
 GuardV m0 true (
 RR (sOp (.fieldAddr 42 (.const a0) 1) 0) n0 fun o0 q0 =>
 RR (sOp (.load 3 (.const o0)) 3) q0 fun s0 t0 =>
 RR (sBuiltin .len #[40] 3 [false] [p1]) t0 fun u0 v0 =>
 RR (sBin .lss 3 false false s0 u0) v0 fun w0 x0 =>
 RR (sOp (.pick (.const m0) (.const w0) (.const (Value.bool false))) 4) x0 fun y0 z0 =>
 GuardV y0 true (
 RR (sOp (.fieldAddr 42 (.const a0) 1) 0) z0 fun A0 B0 =>
 RR (sOp (.load 3 (.const A0)) 3) B0 fun C0 D0 =>
 RR (sOp (.indexAddr 40 (.const p1) (.const C0)) 0) D0 fun E0 F0 =>
 RR (sOp (.fieldAddr 42 (.const E0) 0) 0) F0 fun G0 H0 =>
 RR (sOp (.load 3 (.const G0)) 3) H0 fun I0 J0 =>
 RR (sBin .neq 3 false true I0 (Value.int .i64 0)) J0 fun K0 L0 =>
 RR (sOp (.pick (.const y0) (.const K0) (.const (Value.bool false))) 4) L0 fun M0 N0 =>
 h0 M0 N0) (
 RR (sOp (.pick (.const y0) (.const undef) (.const (Value.bool false))) 4) z0 fun O0 P0 =>
 h0 O0 P0)) (
 RR (sOp (.pick (.const m0) (.const undef) (.const (Value.bool false))) 4) n0 fun Q0 S0 =>
 GuardV Q0 true (
 RR (sOp (.fieldAddr 42 (.const a0) 1) 0) S0 fun T0 U0 =>
 RR (sOp (.load 3 (.const T0)) 3) U0 fun V0 W0 =>
 RR (sOp (.indexAddr 40 (.const p1) (.const V0)) 0) W0 fun X0 Y0 =>
 RR (sOp (.fieldAddr 42 (.const X0) 0) 0) Y0 fun Z0 a1 =>
 RR (sOp (.load 3 (.const Z0)) 3) a1 fun b1 c1 =>
 RR (sBin .neq 3 false true b1 (Value.int .i64 0)) c1 fun d1 e1 =>
 RR (sOp (.pick (.const Q0) (.const d1) (.const (Value.bool false))) 4) e1 fun f1 g1 =>
 h0 f1 g1) (
 RR (sOp (.pick (.const Q0) (.const undef) (.const (Value.bool false))) 4) S0 fun h1 i1 =>
 h0 h1 i1))) ∧
 ∀ j1 _ _ _ _ _ _ _ _ _ _ _ _ _ _ _ _ _ _ : Value, ∀ k1 : World, h0 j1 k1 →
 CondV j1 (
 RR (sOp (.fieldAddr 42 (.const a0) 1) 0) k1 fun l1 m1 =>
 RR (sOp (.load 3 (.const l1)) 3) m1 fun n1 o1 =>
 RR (sOp (.indexAddr 40 (.const p1) (.const n1)) 0) o1 fun q1 s1 =>
 RR (sOp (.load 42 (.const q1)) 42) s1 fun t1 u1 =>
 RR (sOp (.store 42 (.const a0) (.const t1)) 0) u1 fun _u v1 =>
 e0 v1 ∧ f0 v1 < f0 g0) (
 RR (sOp (.load 42 (.const a0)) 42) k1 fun w1 x1 =>
 RR (sOp (.store 42 (.const c0) (.const w1)) 0) x1 fun _ y1 =>
 (LoadV Tryz.prog 42 c0 y1 fun r0 => R (.returned r0) y1))))
theorem calls_s_l3Walk {p0 p1 : Value} {w : World} {R : Ending → World → Prop} (h : sh_s_l3Walk p0 p1 w R) : Calls Tryz.prog 62 #[p0, p1] w R :=
  calls_sh (.seq none .leaf (.seq none (.one (.loop [] (.seq none (.seq (some [23]) .leaf .leaf) .leaf))) .leaf)) [p0, p1] mixed Tryz.func62 (by kernel_rfl) (by kernel_rfl) h


/- loop.example/prologserver/spec.l3Within : function 63 -/
def sh_s_l3Within (p0 p1 p2 : Value) (w : World) (R : Ending → World → Prop) : Prop :=
 RR (sOp (.box 42 (.const p1)) 0) w fun a0 b0 =>
 RR (sOp (.load 42 (.const a0)) 42) b0 fun c0 d0 =>
 RR (sCall (Value.func (.func 66) #[] #[]) [(Value.slice none 0 0), c0]) d0 fun e0 f0 =>
 (∃ (g0 : Value → Value → World → Prop) (h0 : Value → Value → World → Nat), g0 (Value.int .i64 0) e0 f0 ∧
 ∀ i0 _ _ j0 _ _ _ _ _ _ _ _ _ _ _ _ _ _ _ _ _ _ _ _ _ _ _ _ _ _ _ _ _ _ _ _ _ _ _ _ _ _ : Value, ∀ k0 : World, g0 i0 j0 k0 →
 RR (sBuiltin .len #[38] 3 [false] [j0]) k0 fun l0 m0 =>
 RR (sBin .lss 3 false false i0 l0) m0 fun n0 o0 =>
 CondV n0 (
 (∃ q0 : Value → World → Prop, (
 RR (sOp (.indexAddr 38 (.const j0) (.const i0)) 0) o0 fun s0 t0 =>
 RR (sOp (.load 3 (.const s0)) 3) t0 fun u0 v0 =>
 RR (sBin .eql 3 false false u0 p0) v0 fun w0 x0 =>
 CondV w0 (
 R (.returned (Value.bool true)) x0) (
 (∃ y0 : Value → World → Prop, (
 RR (sOp (.indexAddr 38 (.const j0) (.const i0)) 0) x0 fun z0 A0 =>
 RR (sOp (.load 3 (.const z0)) 3) A0 fun B0 C0 =>
 RR (sBuiltin .len #[40] 3 [false] [p2]) C0 fun D0 E0 =>
 RR (sBin .lss 3 false false B0 D0) E0 fun F0 G0 =>
 GuardV F0 true (
 RR (sOp (.indexAddr 38 (.const j0) (.const i0)) 0) G0 fun H0 I0 =>
 RR (sOp (.load 3 (.const H0)) 3) I0 fun J0 K0 =>
 RR (sOp (.indexAddr 40 (.const p2) (.const J0)) 0) K0 fun L0 M0 =>
 RR (sOp (.fieldAddr 42 (.const L0) 0) 0) M0 fun N0 O0 =>
 RR (sOp (.load 3 (.const N0)) 3) O0 fun P0 Q0 =>
 RR (sBin .neq 3 false true P0 (Value.int .i64 0)) Q0 fun S0 T0 =>
 RR (sOp (.pick (.const F0) (.const S0) (.const (Value.bool false))) 4) T0 fun U0 V0 =>
 y0 U0 V0) (
 RR (sOp (.pick (.const F0) (.const undef) (.const (Value.bool false))) 4) G0 fun W0 X0 =>
 y0 W0 X0)) ∧
 ∀ Y0 _ _ _ _ _ _ _ _ _ _ _ _ _ _ _ _ _ : Value, ∀ Z0 : World, y0 Y0 Z0 →
 CondV Y0 (
 RR (sOp (.indexAddr 38 (.const j0) (.const i0)) 0) Z0 fun a1 b1 =>
 RR (sOp (.load 3 (.const a1)) 3) b1 fun c1 d1 =>
 RR (sOp (.indexAddr 40 (.const p2) (.const c1)) 0) d1 fun e1 f1 =>
 RR (sOp (.load 42 (.const e1)) 42) f1 fun g1 h1 =>
 RR (sCall (Value.func (.func 66) #[] #[]) [j0, g1]) h1 fun i1 j1 =>
 q0 i1 j1) (
 q0 j0 Z0)))) ∧
 ∀ k1 _ _ _ _ _ _ _ _ _ _ _ _ _ _ _ _ _ _ _ _ _ _ _ _ _ _ _ _ _ _ _ _ _ _ : Value, ∀ l1 : World, q0 k1 l1 →
 RR (sBin .add 3 false true i0 (Value.int .i64 1)) l1 fun m1 n1 =>
 g0 m1 k1 n1 ∧ h0 m1 k1 n1 < h0 i0 j0 k0)) (
 R (.returned (Value.bool false)) o0))
theorem calls_s_l3Within {p0 p1 p2 : Value} {w : World} {R : Ending → World → Prop} (h : sh_s_l3Within p0 p1 p2 w R) : Calls Tryz.prog 63 #[p0, p1, p2] w R :=
  calls_sh (.seq none .leaf (.seq none .leaf (.seq none (.seq none .leaf (.one (.loop [8, 7] (.seq none .leaf (.seq (some [7]) (.one (.seq none .leaf (.seq (some [40]) .leaf .leaf))) .leaf))))) .leaf))) [p0, p1, p2] mixed Tryz.func63 (by kernel_rfl) (by kernel_rfl) h


/- loop.example/prologserver/spec.l3Full : function 64 -/
def sh_s_l3Full (p0 p1 p2 : Value) (w : World) (R : Ending → World → Prop) : Prop :=
 RR (sOp (.box 42 (.const p0)) 0) w fun a0 b0 =>
 RR (sOp (.alloc 42) 0) b0 fun c0 d0 =>
 RR (sBin .lss 3 false true p2 (Value.int .i64 1)) d0 fun e0 f0 =>
 CondV e0 (
 RR (sBuild 42 []) f0 fun g0 h0 =>
 RR (sOp (.store 42 (.const c0) (.const g0)) 0) h0 fun _u i0 =>
 (LoadV Tryz.prog 42 c0 i0 fun r0 => R (.returned (.tuple #[r0, (Value.int .i64 (-1))])) i0)) (
 RR (sOp (.load 42 (.const a0)) 42) f0 fun j0 k0 =>
 RR (sCall (Value.func (.func 62) #[] #[]) [j0, p1]) k0 fun l0 m0 =>
 RR (sOp (.store 42 (.const a0) (.const l0)) 0) m0 fun _u n0 =>
 RR (sOp (.fieldAddr 42 (.const a0) 0) 0) n0 fun o0 q0 =>
 RR (sOp (.load 3 (.const o0)) 3) q0 fun s0 t0 =>
 RR (sOp (.fieldAddr 42 (.const a0) 1) 0) t0 fun u0 v0 =>
 RR (sOp (.load 3 (.const u0)) 3) v0 fun w0 x0 =>
 RR (sOp (.fieldAddr 42 (.const a0) 2) 0) x0 fun y0 z0 =>
 RR (sOp (.load 9 (.const y0)) 9) z0 fun A0 B0 =>
 RR (sBuild 42 [(0, s0), (1, w0), (2, A0)]) B0 fun C0 D0 =>
 RR (sOp (.alloc 42) 0) D0 fun E0 F0 =>
 RR (sOp (.store 42 (.const E0) (.const C0)) 0) F0 fun _u G0 =>
 RR (sBin .sub 3 false true p2 (Value.int .i64 1)) G0 fun H0 I0 =>
 (∃ (J0 : Value → Value → World → Prop) (K0 : Value → Value → World → Nat), J0 (Value.int .i64 0) H0 I0 ∧
 ∀ L0 _ _ M0 _ _ _ _ _ _ _ _ _ _ _ _ _ _ _ _ _ _ _ _ _ _ _ _ _ _ _ _ _ : Value, ∀ N0 : World, J0 L0 M0 N0 →
 (∃ O0 : Value → World → Prop, (
 RR (sOp (.fieldAddr 42 (.const a0) 3) 0) N0 fun P0 Q0 =>
 RR (sOp (.load 40 (.const P0)) 40) Q0 fun S0 T0 =>
 RR (sBuiltin .len #[40] 3 [false] [S0]) T0 fun U0 V0 =>
 RR (sBin .lss 3 false false L0 U0) V0 fun W0 X0 =>
 GuardV W0 true (
 RR (sBin .geq 3 false true M0 (Value.int .i64 0)) X0 fun Y0 Z0 =>
 RR (sOp (.pick (.const W0) (.const Y0) (.const (Value.bool false))) 4) Z0 fun a1 b1 =>
 O0 a1 b1) (
 RR (sOp (.pick (.const W0) (.const undef) (.const (Value.bool false))) 4) X0 fun c1 d1 =>
 O0 c1 d1)) ∧
 ∀ e1 _ _ _ _ _ _ _ _ : Value, ∀ f1 : World, O0 e1 f1 →
 CondV e1 (
 RR (sOp (.fieldAddr 42 (.const a0) 3) 0) f1 fun g1 h1 =>
 RR (sOp (.load 40 (.const g1)) 40) h1 fun i1 j1 =>
 RR (sOp (.indexAddr 40 (.const i1) (.const L0)) 0) j1 fun k1 l1 =>
 RR (sOp (.load 42 (.const k1)) 42) l1 fun m1 n1 =>
 RR (sCall (Value.func (.func 64) #[] #[]) [m1, p1, M0]) n1 fun o1 q1 =>
 RR (sOp (.extract (.const o1) 0) 42) q1 fun s1 t1 =>
 RR (sOp (.extract (.const o1) 1) 3) t1 fun u1 v1 =>
 RR (sOp (.alloc 42) 0) v1 fun w1 x1 =>
 RR (sOp (.store 42 (.const w1) (.const s1)) 0) x1 fun _u y1 =>
 RR (sOp (.fieldAddr 42 (.const E0) 3) 0) y1 fun z1 A1 =>
 RR (sOp (.load 40 (.const z1)) 40) A1 fun B1 C1 =>
 RR (sOp (.load 42 (.const w1)) 42) C1 fun D1 E1 =>
 RR (sBuildSlice 40 1 [(0, D1)]) E1 fun F1 G1 =>
 RR (sBuiltin .append #[40, 40] 40 [false, false] [B1, F1]) G1 fun H1 I1 =>
 RR (sOp (.fieldAddr 42 (.const E0) 3) 0) I1 fun J1 K1 =>
 RR (sOp (.store 40 (.const J1) (.const H1)) 0) K1 fun _u L1 =>
 RR (sBin .add 3 false true L0 (Value.int .i64 1)) L1 fun M1 N1 =>
 J0 M1 u1 N1 ∧ K0 M1 u1 N1 < K0 L0 M0 N0) (
 RR (sOp (.load 42 (.const E0)) 42) f1 fun O1 P1 =>
 RR (sOp (.store 42 (.const c0) (.const O1)) 0) P1 fun _ Q1 =>
 (LoadV Tryz.prog 42 c0 Q1 fun r0 => R (.returned (.tuple #[r0, M0])) Q1)))))
theorem calls_s_l3Full {p0 p1 p2 : Value} {w : World} {R : Ending → World → Prop} (h : sh_s_l3Full p0 p1 p2 w R) : Calls Tryz.prog 64 #[p0, p1, p2] w R :=
  calls_sh (.seq none .leaf (.seq none .leaf (.seq none .leaf (.seq none .leaf (.seq none .leaf (.seq none (.seq none .leaf (.one (.loop [10, 9] (.seq none (.seq (some [36]) .leaf .leaf) .leaf)))) .leaf)))))) [p0, p1, p2] mixed Tryz.func64 (by kernel_rfl) (by kernel_rfl) h


/- loop.example/prologserver/spec.l6Flat : function 65 -/
def sh_s_l6Flat (p0 p1 : Value) (w : World) (R : Ending → World → Prop) : Prop :=
 RR (sOp (.box 42 (.const p0)) 0) w fun a0 b0 =>
 RR (sBin .lss 3 false true p1 (Value.int .i64 1)) b0 fun c0 d0 =>
 CondV c0 (
 R (.returned (Value.bool false)) d0) (
 (∃ (e0 : Value → World → Prop) (f0 : Value → World → Nat), e0 (Value.int .i64 0) d0 ∧
 ∀ g0 _ _ _ _ _ _ _ _ _ _ _ _ _ _ _ _ _ : Value, ∀ h0 : World, e0 g0 h0 →
 RR (sOp (.fieldAddr 42 (.const a0) 3) 0) h0 fun i0 j0 =>
 RR (sOp (.load 40 (.const i0)) 40) j0 fun k0 l0 =>
 RR (sBuiltin .len #[40] 3 [false] [k0]) l0 fun m0 n0 =>
 RR (sBin .lss 3 false false g0 m0) n0 fun o0 q0 =>
 CondV o0 (
 RR (sOp (.fieldAddr 42 (.const a0) 3) 0) q0 fun s0 t0 =>
 RR (sOp (.load 40 (.const s0)) 40) t0 fun u0 v0 =>
 RR (sOp (.indexAddr 40 (.const u0) (.const g0)) 0) v0 fun w0 x0 =>
 RR (sOp (.load 42 (.const w0)) 42) x0 fun y0 z0 =>
 RR (sBin .sub 3 false true p1 (Value.int .i64 1)) z0 fun A0 B0 =>
 RR (sCall (Value.func (.func 65) #[] #[]) [y0, A0]) B0 fun C0 D0 =>
 RR (sOp (.unOp .not 4 (.const C0)) 4) D0 fun E0 F0 =>
 CondV E0 (
 R (.returned (Value.bool false)) F0) (
 RR (sBin .add 3 false true g0 (Value.int .i64 1)) F0 fun G0 H0 =>
 e0 G0 H0 ∧ f0 G0 H0 < f0 g0 h0)) (
 R (.returned (Value.bool true)) q0)))
theorem calls_s_l6Flat {p0 p1 : Value} {w : World} {R : Ending → World → Prop} (h : sh_s_l6Flat p0 p1 w R) : Calls Tryz.prog 65 #[p0, p1] w R :=
  calls_sh (.seq none .leaf (.seq none .leaf (.seq none (.seq none .leaf (.one (.loop [5] .leaf))) .leaf))) [p0, p1] mixed Tryz.func65 (by kernel_rfl) (by kernel_rfl) h


/- loop.example/prologserver/spec.l1Vars : function 66 -/
def sh_s_l1Vars (p0 p1 : Value) (w : World) (R : Ending → World → Prop) : Prop :=
 RR (sOp (.box 42 (.const p1)) 0) w fun a0 b0 =>
 RR (sOp (.fieldAddr 42 (.const a0) 0) 0) b0 fun c0 d0 =>
 RR (sOp (.load 3 (.const c0)) 3) d0 fun e0 f0 =>
 RR (sBin .eql 3 false true e0 (Value.int .i64 1)) f0 fun g0 h0 =>
 CondV g0 (
 (∃ (i0 : Value → World → Prop) (j0 : Value → World → Nat), i0 (Value.int .i64 0) h0 ∧
 ∀ k0 _ _ _ _ l0 m0 n0 o0 q0 s0 t0 _ _ _ _ : Value, ∀ u0 : World, i0 k0 u0 →
 RR (sBuiltin .len #[38] 3 [false] [p0]) u0 fun v0 w0 =>
 RR (sBin .lss 3 false false k0 v0) w0 fun x0 y0 =>
 CondV x0 (
 (∃ z0 : (Nat → Bool) → Value → Value → Value → Value → Value → Value → Value → World → Prop, z0 (fun _ => false) l0 m0 n0 o0 q0 s0 t0 { y0 with drawn := y0.drawn + 1 } ∧ (
 (∀ A0 : Nat → Bool, A0 0 = false → ∀ B0 C0 D0 E0 F0 G0 H0 : Value, ∀ I0 : World, z0 A0 B0 C0 D0 E0 F0 G0 H0 I0 →
 z0 (setD A0 0) B0 C0 D0 E0 F0 G0 p0 I0) ∧
 (∀ A0 : Nat → Bool, A0 1 = false → ∀ B0 C0 D0 E0 F0 G0 H0 : Value, ∀ J0 : World, z0 A0 B0 C0 D0 E0 F0 G0 H0 J0 →
 z0 (setD A0 1) B0 C0 D0 E0 F0 k0 H0 J0) ∧
 (∀ A0 : Nat → Bool, A0 2 = false → A0 0 = true → A0 1 = true → ∀ B0 C0 D0 E0 F0 G0 H0 : Value, ∀ K0 : World, z0 A0 B0 C0 D0 E0 F0 G0 H0 K0 →
 RR (sOp (.indexAddr 38 (.const H0) (.const G0)) 0) K0 fun L0 M0 =>
 z0 (setD A0 2) B0 C0 D0 E0 L0 G0 H0 M0) ∧
 (∀ A0 : Nat → Bool, A0 3 = false → A0 2 = true → ∀ B0 C0 D0 E0 F0 G0 H0 : Value, ∀ N0 : World, z0 A0 B0 C0 D0 E0 F0 G0 H0 N0 →
 RR (sOp (.load 3 (.const F0)) 3) N0 fun O0 P0 =>
 z0 (setD A0 3) B0 C0 D0 O0 F0 G0 H0 P0) ∧
 (∀ A0 : Nat → Bool, A0 4 = false → ∀ B0 C0 D0 E0 F0 G0 H0 : Value, ∀ Q0 : World, z0 A0 B0 C0 D0 E0 F0 G0 H0 Q0 →
 RR (sOp (.fieldAddr 42 (.const a0) 1) 0) Q0 fun S0 T0 =>
 z0 (setD A0 4) B0 C0 S0 E0 F0 G0 H0 T0) ∧
 (∀ A0 : Nat → Bool, A0 5 = false → A0 4 = true → ∀ B0 C0 D0 E0 F0 G0 H0 : Value, ∀ U0 : World, z0 A0 B0 C0 D0 E0 F0 G0 H0 U0 →
 RR (sOp (.load 3 (.const D0)) 3) U0 fun V0 W0 =>
 z0 (setD A0 5) B0 V0 D0 E0 F0 G0 H0 W0) ∧
 (∀ A0 : Nat → Bool, A0 6 = false → A0 3 = true → A0 5 = true → ∀ B0 C0 D0 E0 F0 G0 H0 : Value, ∀ X0 : World, z0 A0 B0 C0 D0 E0 F0 G0 H0 X0 →
 RR (sBin .eql 3 false false E0 C0) X0 fun Y0 Z0 =>
 z0 (setD A0 6) Y0 C0 D0 E0 F0 G0 H0 Z0) ∧
 True) ∧
 ∀ A0 : Nat → Bool, A0 6 = true → A0 5 = true → A0 4 = true → A0 3 = true → A0 2 = true → A0 1 = true → A0 0 = true → ∀ B0 C0 D0 E0 F0 G0 H0 : Value, ∀ a1 : World, z0 A0 B0 C0 D0 E0 F0 G0 H0 a1 →
 CondV B0 (
 R (.returned p0) a1) (
 RR (sBin .add 3 false true k0 (Value.int .i64 1)) a1 fun b1 c1 =>
 i0 b1 c1 ∧ j0 b1 c1 < j0 k0 u0))) (
 RR (sOp (.fieldAddr 42 (.const a0) 1) 0) y0 fun d1 e1 =>
 RR (sOp (.load 3 (.const d1)) 3) e1 fun f1 g1 =>
 RR (sBuildSlice 38 1 [(0, f1)]) g1 fun h1 i1 =>
 RR (sBuiltin .append #[38, 38] 38 [false, false] [p0, h1]) i1 fun j1 k1 =>
 R (.returned j1) k1))) (
 (∃ (l1 : Value → Value → World → Prop) (m1 : Value → Value → World → Nat), l1 (Value.int .i64 0) p0 h0 ∧
 ∀ n1 _ _ o1 _ _ _ _ _ _ _ _ _ _ _ _ : Value, ∀ q1 : World, l1 n1 o1 q1 →
 RR (sOp (.fieldAddr 42 (.const a0) 3) 0) q1 fun s1 t1 =>
 RR (sOp (.load 40 (.const s1)) 40) t1 fun u1 v1 =>
 RR (sBuiltin .len #[40] 3 [false] [u1]) v1 fun w1 x1 =>
 RR (sBin .lss 3 false false n1 w1) x1 fun y1 z1 =>
 CondV y1 (
 RR (sOp (.fieldAddr 42 (.const a0) 3) 0) z1 fun A1 B1 =>
 RR (sOp (.load 40 (.const A1)) 40) B1 fun C1 D1 =>
 RR (sOp (.indexAddr 40 (.const C1) (.const n1)) 0) D1 fun E1 F1 =>
 RR (sOp (.load 42 (.const E1)) 42) F1 fun G1 H1 =>
 RR (sCall (Value.func (.func 66) #[] #[]) [o1, G1]) H1 fun I1 J1 =>
 RR (sBin .add 3 false true n1 (Value.int .i64 1)) J1 fun K1 L1 =>
 l1 K1 I1 L1 ∧ m1 K1 I1 L1 < m1 n1 o1 q1) (
 R (.returned o1) z1)))
theorem calls_s_l1Vars {p0 p1 : Value} {w : World} {R : Ending → World → Prop} (h : sh_s_l1Vars p0 p1 w R) : Calls Tryz.prog 66 #[p0, p1] w R :=
  calls_sh (.seq none .leaf (.seq none (.seq none .leaf (.two (.seq none (.seq none .leaf (.one (.loop [5] .leaf))) .leaf) .leaf)) (.seq none (.seq none .leaf (.one (.loop [6, 0] .leaf))) .leaf))) [p0, p1] mixed Tryz.func66 (by kernel_rfl) (by kernel_rfl) h


/- loop.example/prologserver/spec.l1Rename : function 67 -/
def sh_s_l1Rename (p0 p1 : Value) (w : World) (R : Ending → World → Prop) : Prop :=
 RR (sOp (.box 42 (.const p0)) 0) w fun a0 b0 =>
 RR (sOp (.alloc 42) 0) b0 fun c0 d0 =>
 RR (sOp (.fieldAddr 42 (.const a0) 0) 0) d0 fun e0 f0 =>
 RR (sOp (.load 3 (.const e0)) 3) f0 fun g0 h0 =>
 RR (sOp (.fieldAddr 42 (.const a0) 1) 0) h0 fun i0 j0 =>
 RR (sOp (.load 3 (.const i0)) 3) j0 fun k0 l0 =>
 RR (sOp (.fieldAddr 42 (.const a0) 2) 0) l0 fun m0 n0 =>
 RR (sOp (.load 9 (.const m0)) 9) n0 fun o0 q0 =>
 RR (sBuild 42 [(0, g0), (1, k0), (2, o0)]) q0 fun s0 t0 =>
 RR (sOp (.alloc 42) 0) t0 fun u0 v0 =>
 RR (sOp (.store 42 (.const u0) (.const s0)) 0) v0 fun _u w0 =>
 (∃ (x0 : Value → World → Prop) (y0 : Value → World → Nat), x0 (Value.int .i64 0) w0 ∧
 ∀ z0 _ _ _ _ A0 B0 C0 D0 E0 F0 G0 _ _ _ _ _ _ _ _ _ : Value, ∀ H0 : World, x0 z0 H0 →
 (∃ I0 : Value → World → Prop, (
 RR (sBuiltin .len #[38] 3 [false] [p1]) H0 fun J0 K0 =>
 RR (sBin .lss 3 false false z0 J0) K0 fun L0 M0 =>
 GuardV L0 true (
 RR (sOp (.fieldAddr 42 (.const a0) 0) 0) M0 fun N0 O0 =>
 RR (sOp (.load 3 (.const N0)) 3) O0 fun P0 Q0 =>
 RR (sBin .eql 3 false true P0 (Value.int .i64 1)) Q0 fun S0 T0 =>
 RR (sOp (.pick (.const L0) (.const S0) (.const (Value.bool false))) 4) T0 fun U0 V0 =>
 I0 U0 V0) (
 RR (sOp (.pick (.const L0) (.const undef) (.const (Value.bool false))) 4) M0 fun W0 X0 =>
 I0 W0 X0)) ∧
 ∀ Y0 _ _ _ _ _ _ _ _ : Value, ∀ Z0 : World, I0 Y0 Z0 →
 CondV Y0 (
 (∃ a1 : World → Prop, (
 (∃ b1 : (Nat → Bool) → Value → Value → Value → Value → Value → Value → Value → World → Prop, b1 (fun _ => false) A0 B0 C0 D0 E0 F0 G0 { Z0 with drawn := Z0.drawn + 1 } ∧ (
 (∀ c1 : Nat → Bool, c1 0 = false → ∀ d1 e1 f1 g1 h1 i1 j1 : Value, ∀ k1 : World, b1 c1 d1 e1 f1 g1 h1 i1 j1 k1 →
 b1 (setD c1 0) d1 e1 f1 g1 h1 i1 p1 k1) ∧
 (∀ c1 : Nat → Bool, c1 1 = false → ∀ d1 e1 f1 g1 h1 i1 j1 : Value, ∀ l1 : World, b1 c1 d1 e1 f1 g1 h1 i1 j1 l1 →
 b1 (setD c1 1) d1 e1 f1 g1 h1 z0 j1 l1) ∧
 (∀ c1 : Nat → Bool, c1 2 = false → c1 0 = true → c1 1 = true → ∀ d1 e1 f1 g1 h1 i1 j1 : Value, ∀ m1 : World, b1 c1 d1 e1 f1 g1 h1 i1 j1 m1 →
 RR (sOp (.indexAddr 38 (.const j1) (.const i1)) 0) m1 fun n1 o1 =>
 b1 (setD c1 2) d1 e1 f1 g1 n1 i1 j1 o1) ∧
 (∀ c1 : Nat → Bool, c1 3 = false → c1 2 = true → ∀ d1 e1 f1 g1 h1 i1 j1 : Value, ∀ q1 : World, b1 c1 d1 e1 f1 g1 h1 i1 j1 q1 →
 RR (sOp (.load 3 (.const h1)) 3) q1 fun s1 t1 =>
 b1 (setD c1 3) d1 e1 f1 s1 h1 i1 j1 t1) ∧
 (∀ c1 : Nat → Bool, c1 4 = false → ∀ d1 e1 f1 g1 h1 i1 j1 : Value, ∀ u1 : World, b1 c1 d1 e1 f1 g1 h1 i1 j1 u1 →
 RR (sOp (.fieldAddr 42 (.const a0) 1) 0) u1 fun v1 w1 =>
 b1 (setD c1 4) d1 e1 v1 g1 h1 i1 j1 w1) ∧
 (∀ c1 : Nat → Bool, c1 5 = false → c1 4 = true → ∀ d1 e1 f1 g1 h1 i1 j1 : Value, ∀ x1 : World, b1 c1 d1 e1 f1 g1 h1 i1 j1 x1 →
 RR (sOp (.load 3 (.const f1)) 3) x1 fun y1 z1 =>
 b1 (setD c1 5) d1 y1 f1 g1 h1 i1 j1 z1) ∧
 (∀ c1 : Nat → Bool, c1 6 = false → c1 3 = true → c1 5 = true → ∀ d1 e1 f1 g1 h1 i1 j1 : Value, ∀ A1 : World, b1 c1 d1 e1 f1 g1 h1 i1 j1 A1 →
 RR (sBin .eql 3 false false g1 e1) A1 fun B1 C1 =>
 b1 (setD c1 6) B1 e1 f1 g1 h1 i1 j1 C1) ∧
 True) ∧
 ∀ c1 : Nat → Bool, c1 6 = true → c1 5 = true → c1 4 = true → c1 3 = true → c1 2 = true → c1 1 = true → c1 0 = true → ∀ d1 e1 f1 g1 h1 i1 j1 : Value, ∀ D1 : World, b1 c1 d1 e1 f1 g1 h1 i1 j1 D1 →
 CondV d1 (
 RR (sOp (.fieldAddr 42 (.const u0) 1) 0) D1 fun E1 F1 =>
 RR (sOp (.store 3 (.const E1) (.const z0)) 0) F1 fun _u G1 =>
 a1 G1) (
 a1 D1))) ∧
 ∀ _ _ _ _ _ _ _ _ _ : Value, ∀ H1 : World, a1 H1 →
 RR (sBin .add 3 false true z0 (Value.int .i64 1)) H1 fun I1 J1 =>
 x0 I1 J1 ∧ y0 I1 J1 < y0 z0 H0)) (
 (∃ (K1 : Value → World → Prop) (L1 : Value → World → Nat), K1 (Value.int .i64 0) Z0 ∧
 ∀ M1 _ _ N1 O1 P1 Q1 S1 T1 U1 V1 W1 X1 Y1 Z1 _ _ _ _ _ : Value, ∀ a2 : World, K1 M1 a2 →
 RR (sOp (.fieldAddr 42 (.const a0) 3) 0) a2 fun b2 c2 =>
 RR (sOp (.load 40 (.const b2)) 40) c2 fun d2 e2 =>
 RR (sBuiltin .len #[40] 3 [false] [d2]) e2 fun f2 g2 =>
 RR (sBin .lss 3 false false M1 f2) g2 fun h2 i2 =>
 CondV h2 (
 (∃ j2 : (Nat → Bool) → Value → Value → Value → Value → Value → Value → Value → Value → Value → Value → Value → Value → World → Prop, j2 (fun _ => false) N1 O1 P1 Q1 S1 T1 U1 V1 W1 X1 Y1 Z1 { i2 with drawn := i2.drawn + 1 } ∧ (
 (∀ k2 : Nat → Bool, k2 0 = false → ∀ l2 m2 n2 o2 q2 s2 t2 u2 v2 w2 x2 y2 : Value, ∀ z2 : World, j2 k2 l2 m2 n2 o2 q2 s2 t2 u2 v2 w2 x2 y2 z2 →
 RR (sOp (.fieldAddr 42 (.const u0) 3) 0) z2 fun A2 B2 =>
 j2 (setD k2 0) l2 m2 n2 o2 q2 s2 t2 u2 v2 w2 x2 A2 B2) ∧
 (∀ k2 : Nat → Bool, k2 1 = false → k2 0 = true → ∀ l2 m2 n2 o2 q2 s2 t2 u2 v2 w2 x2 y2 : Value, ∀ C2 : World, j2 k2 l2 m2 n2 o2 q2 s2 t2 u2 v2 w2 x2 y2 C2 →
 RR (sOp (.load 40 (.const y2)) 40) C2 fun D2 E2 =>
 j2 (setD k2 1) l2 m2 n2 o2 q2 s2 t2 u2 v2 w2 D2 y2 E2) ∧
 (∀ k2 : Nat → Bool, k2 2 = false → ∀ l2 m2 n2 o2 q2 s2 t2 u2 v2 w2 x2 y2 : Value, ∀ F2 : World, j2 k2 l2 m2 n2 o2 q2 s2 t2 u2 v2 w2 x2 y2 F2 →
 RR (sOp (.fieldAddr 42 (.const a0) 3) 0) F2 fun G2 H2 =>
 j2 (setD k2 2) l2 m2 n2 o2 q2 s2 t2 u2 v2 G2 x2 y2 H2) ∧
 (∀ k2 : Nat → Bool, k2 3 = false → k2 2 = true → ∀ l2 m2 n2 o2 q2 s2 t2 u2 v2 w2 x2 y2 : Value, ∀ I2 : World, j2 k2 l2 m2 n2 o2 q2 s2 t2 u2 v2 w2 x2 y2 I2 →
 RR (sOp (.load 40 (.const w2)) 40) I2 fun J2 K2 =>
 j2 (setD k2 3) l2 m2 n2 o2 q2 s2 t2 u2 J2 w2 x2 y2 K2) ∧
 (∀ k2 : Nat → Bool, k2 4 = false → ∀ l2 m2 n2 o2 q2 s2 t2 u2 v2 w2 x2 y2 : Value, ∀ L2 : World, j2 k2 l2 m2 n2 o2 q2 s2 t2 u2 v2 w2 x2 y2 L2 →
 j2 (setD k2 4) l2 m2 n2 o2 q2 s2 t2 M1 v2 w2 x2 y2 L2) ∧
 (∀ k2 : Nat → Bool, k2 5 = false → k2 3 = true → k2 4 = true → ∀ l2 m2 n2 o2 q2 s2 t2 u2 v2 w2 x2 y2 : Value, ∀ M2 : World, j2 k2 l2 m2 n2 o2 q2 s2 t2 u2 v2 w2 x2 y2 M2 →
 RR (sOp (.indexAddr 40 (.const v2) (.const u2)) 0) M2 fun N2 O2 =>
 j2 (setD k2 5) l2 m2 n2 o2 q2 s2 N2 u2 v2 w2 x2 y2 O2) ∧
 (∀ k2 : Nat → Bool, k2 6 = false → k2 5 = true → ∀ l2 m2 n2 o2 q2 s2 t2 u2 v2 w2 x2 y2 : Value, ∀ P2 : World, j2 k2 l2 m2 n2 o2 q2 s2 t2 u2 v2 w2 x2 y2 P2 →
 RR (sOp (.load 42 (.const t2)) 42) P2 fun Q2 S2 =>
 j2 (setD k2 6) l2 m2 n2 o2 q2 Q2 t2 u2 v2 w2 x2 y2 S2) ∧
 (∀ k2 : Nat → Bool, k2 7 = false → ∀ l2 m2 n2 o2 q2 s2 t2 u2 v2 w2 x2 y2 : Value, ∀ T2 : World, j2 k2 l2 m2 n2 o2 q2 s2 t2 u2 v2 w2 x2 y2 T2 →
 j2 (setD k2 7) l2 m2 n2 o2 p1 s2 t2 u2 v2 w2 x2 y2 T2) ∧
 (∀ k2 : Nat → Bool, k2 8 = false → k2 6 = true → k2 7 = true → ∀ l2 m2 n2 o2 q2 s2 t2 u2 v2 w2 x2 y2 : Value, ∀ U2 : World, j2 k2 l2 m2 n2 o2 q2 s2 t2 u2 v2 w2 x2 y2 U2 →
 RR (sCall (Value.func (.func 67) #[] #[]) [s2, q2]) U2 fun V2 W2 =>
 j2 (setD k2 8) l2 m2 n2 V2 q2 s2 t2 u2 v2 w2 x2 y2 W2) ∧
 (∀ k2 : Nat → Bool, k2 9 = false → k2 8 = true → ∀ l2 m2 n2 o2 q2 s2 t2 u2 v2 w2 x2 y2 : Value, ∀ X2 : World, j2 k2 l2 m2 n2 o2 q2 s2 t2 u2 v2 w2 x2 y2 X2 →
 RR (sBuildSlice 40 1 [(0, o2)]) X2 fun Y2 Z2 =>
 j2 (setD k2 9) l2 m2 Y2 o2 q2 s2 t2 u2 v2 w2 x2 y2 Z2) ∧
 (∀ k2 : Nat → Bool, k2 10 = false → k2 1 = true → k2 9 = true → k2 8 = true → ∀ l2 m2 n2 o2 q2 s2 t2 u2 v2 w2 x2 y2 : Value, ∀ a3 : World, j2 k2 l2 m2 n2 o2 q2 s2 t2 u2 v2 w2 x2 y2 a3 →
 RR (sBuiltin .append #[40, 40] 40 [false, false] [x2, n2]) a3 fun b3 c3 =>
 j2 (setD k2 10) l2 b3 n2 o2 q2 s2 t2 u2 v2 w2 x2 y2 c3) ∧
 (∀ k2 : Nat → Bool, k2 11 = false → k2 0 = true → k2 1 = true → k2 2 = true → k2 3 = true → k2 4 = true → k2 5 = true → k2 6 = true → k2 7 = true → k2 8 = true → k2 9 = true → k2 10 = true → ∀ l2 m2 n2 o2 q2 s2 t2 u2 v2 w2 x2 y2 : Value, ∀ d3 : World, j2 k2 l2 m2 n2 o2 q2 s2 t2 u2 v2 w2 x2 y2 d3 →
 RR (sOp (.fieldAddr 42 (.const u0) 3) 0) d3 fun e3 f3 =>
 j2 (setD k2 11) e3 m2 n2 o2 q2 s2 t2 u2 v2 w2 x2 y2 f3) ∧
 (∀ k2 : Nat → Bool, k2 12 = false → k2 11 = true → k2 10 = true → k2 10 = true → k2 0 = true → k2 1 = true → k2 2 = true → k2 3 = true → k2 4 = true → k2 5 = true → k2 6 = true → k2 7 = true → k2 8 = true → k2 9 = true → k2 10 = true → ∀ l2 m2 n2 o2 q2 s2 t2 u2 v2 w2 x2 y2 : Value, ∀ g3 : World, j2 k2 l2 m2 n2 o2 q2 s2 t2 u2 v2 w2 x2 y2 g3 →
 RR (sOp (.store 40 (.const l2) (.const m2)) 0) g3 fun _u h3 =>
 j2 (setD k2 12) l2 m2 n2 o2 q2 s2 t2 u2 v2 w2 x2 y2 h3) ∧
 True) ∧
 ∀ k2 : Nat → Bool, k2 12 = true → k2 11 = true → k2 10 = true → k2 9 = true → k2 8 = true → k2 7 = true → k2 6 = true → k2 5 = true → k2 4 = true → k2 3 = true → k2 2 = true → k2 1 = true → k2 0 = true → ∀ l2 m2 n2 o2 q2 s2 t2 u2 v2 w2 x2 y2 : Value, ∀ i3 : World, j2 k2 l2 m2 n2 o2 q2 s2 t2 u2 v2 w2 x2 y2 i3 →
 RR (sBin .add 3 false true M1 (Value.int .i64 1)) i3 fun j3 k3 =>
 K1 j3 k3 ∧ L1 j3 k3 < L1 M1 a2)) (
 RR (sOp (.load 42 (.const u0)) 42) i2 fun l3 m3 =>
 RR (sOp (.store 42 (.const c0) (.const l3)) 0) m3 fun _ n3 =>
 (LoadV Tryz.prog 42 c0 n3 fun r0 => R (.returned r0) n3))))))
theorem calls_s_l1Rename {p0 p1 : Value} {w : World} {R : Ending → World → Prop} (h : sh_s_l1Rename p0 p1 w R) : Calls Tryz.prog 67 #[p0, p1] w R :=
  calls_sh (.seq none .leaf (.seq none .leaf (.seq none (.seq none .leaf (.one (.loop [6] (.seq none (.seq (some [23]) .leaf .leaf) (.seq (some []) .leaf .leaf))))) (.seq none (.seq none .leaf (.one (.loop [7] .leaf))) .leaf)))) [p0, p1] mixed Tryz.func67 (by kernel_rfl) (by kernel_rfl) h


/- loop.example/prologserver/spec.GoalValid : function 68 -/
def sh_s_GoalValid (p0 : Value) (w : World) (R : Ending → World → Prop) : Prop :=
 RR (sOp (.box 42 (.const p0)) 0) w fun a0 b0 =>
 RR (sOp (.load 42 (.const a0)) 42) b0 fun c0 d0 =>
 RR (sCall (Value.func (.func 69) #[] #[]) [c0]) d0 fun e0 f0 =>
 GuardV e0 true (
 RR (sOp (.load 42 (.const a0)) 42) f0 fun g0 h0 =>
 RR (sCall (Value.func (.func 89) #[] #[]) [g0]) h0 fun i0 j0 =>
 RR (sOp (.pick (.const e0) (.const i0) (.const (Value.bool false))) 4) j0 fun k0 l0 =>
 R (.returned k0) l0) (
 RR (sOp (.pick (.const e0) (.const undef) (.const (Value.bool false))) 4) f0 fun m0 n0 =>
 R (.returned m0) n0)
theorem calls_s_GoalValid {p0 : Value} {w : World} {R : Ending → World → Prop} (h : sh_s_GoalValid p0 w R) : Calls Tryz.prog 68 #[p0] w R :=
  calls_sh .leaf [p0] mixed Tryz.func68 (by kernel_rfl) (by kernel_rfl) h


/- loop.example/prologserver/spec.TermValid : function 69 -/
def sh_s_TermValid (p0 : Value) (w : World) (R : Ending → World → Prop) : Prop :=
 RR (sOp (.box 42 (.const p0)) 0) w fun a0 b0 =>
 RR (sOp (.load 42 (.const a0)) 42) b0 fun c0 d0 =>
 RR (sCall (Value.func (.func 90) #[] #[]) [c0, (Value.int .i64 30)]) d0 fun e0 f0 =>
 GuardV e0 true (
 RR (sOp (.load 42 (.const a0)) 42) f0 fun g0 h0 =>
 RR (sCall (Value.func (.func 91) #[] #[]) [g0, (Value.int .i64 120)]) h0 fun i0 j0 =>
 RR (sBin .leq 3 false true i0 (Value.int .i64 120)) j0 fun k0 l0 =>
 RR (sOp (.pick (.const e0) (.const k0) (.const (Value.bool false))) 4) l0 fun m0 n0 =>
 R (.returned m0) n0) (
 RR (sOp (.pick (.const e0) (.const undef) (.const (Value.bool false))) 4) f0 fun o0 q0 =>
 R (.returned o0) q0)
theorem calls_s_TermValid {p0 : Value} {w : World} {R : Ending → World → Prop} (h : sh_s_TermValid p0 w R) : Calls Tryz.prog 69 #[p0] w R :=
  calls_sh .leaf [p0] mixed Tryz.func69 (by kernel_rfl) (by kernel_rfl) h

end Go.Proofs.YtaaihodhhacapaaGreat

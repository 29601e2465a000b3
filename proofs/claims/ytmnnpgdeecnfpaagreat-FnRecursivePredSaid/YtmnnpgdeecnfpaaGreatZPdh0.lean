/- Made by program: the functions in a shallow form; each form gives Calls. -/
import Derived.Test.YtmnnpgdeecnfpaaGreatVcCalls
import Derived.Test.YtmnnpgdeecnfpaaGreatProg
import Derived.KernelRfl
set_option maxRecDepth 100000
namespace Go.Proofs.YtmnnpgdeecnfpaaGreat
open Go
theorem mixed : Tryz.prog.follows .mixedOrders = true := by kernel_rfl
abbrev RR := Run Tryz.prog
/- loop.example/prologserver/laws.FnRecursivePred : function 7 -/
def sh_l_FnRecursivePred (p0 : Value) (w : World) (R : Ending → World → Prop) : Prop :=
 RR (sBuiltin .len #[22] 3 [false] [p0]) w fun a0 b0 =>
 RR (sBin .gtr 3 false true a0 (Value.int .i64 1048576)) b0 fun c0 d0 =>
 CondV c0 (
 R (.returned (Value.bool true)) d0) (
 RR (sCall (Value.func (.func 28) #[] #[]) [p0]) d0 fun e0 f0 =>
 RR (sOp (.extract (.const e0) 0) 23) f0 fun g0 h0 =>
 RR (sOp (.extract (.const e0) 1) 36) h0 fun i0 j0 =>
 RR (sOp (.alloc 36) 0) j0 fun k0 l0 =>
 RR (sOp (.store 36 (.const k0) (.const i0)) 0) l0 fun _u m0 =>
 RR (sOp (.load 36 (.const k0)) 36) m0 fun n0 o0 =>
 RR (sCall (Value.func (.func 29) #[] #[]) [g0, n0]) o0 fun q0 s0 =>
 (∃ t0 : Value → World → Prop, (
 RR (sOp (.load 36 (.const k0)) 36) s0 fun u0 v0 =>
 RR (sCall (Value.func (.func 30) #[] #[]) [g0, u0]) v0 fun w0 x0 =>
 RR (sBin .neq 4 false false q0 w0) x0 fun y0 z0 =>
 GuardV y0 false (
 RR (sCall (Value.func (.func 17) #[] #[]) [g0]) z0 fun A0 B0 =>
 RR (sOp (.unOp .not 4 (.const A0)) 4) B0 fun C0 D0 =>
 RR (sOp (.pick (.const y0) (.const (Value.bool true)) (.const C0)) 4) D0 fun E0 F0 =>
 t0 E0 F0) (
 RR (sOp (.pick (.const y0) (.const (Value.bool true)) (.const undef)) 4) z0 fun G0 H0 =>
 t0 G0 H0)) ∧
 ∀ I0 _ _ _ _ _ _ _ _ _ : Value, ∀ J0 : World, t0 I0 J0 →
 CondV I0 (
 RR (sOp (.load 36 (.const k0)) 36) J0 fun K0 L0 =>
 RR (sCall (Value.func (.func 30) #[] #[]) [g0, K0]) L0 fun M0 N0 =>
 RR (sBin .eql 4 false false q0 M0) N0 fun O0 P0 =>
 R (.returned O0) P0) (
 RR (sOp (.load 36 (.const k0)) 36) J0 fun Q0 S0 =>
 RR (sCall (Value.func (.func 31) #[] #[]) [g0, Q0]) S0 fun T0 U0 =>
 (∃ (V0 : Value → Value → World → Prop) (W0 : Value → Value → World → Nat), V0 (Value.int .i64 0) (Value.bool false) U0 ∧
 ∀ X0 _ _ Y0 Z0 a1 b1 c1 d1 e1 f1 g1 h1 _ _ _ _ _ _ _ _ _ _ _ _ _ i1 j1 k1 l1 m1 n1 o1 q1 s1 t1 u1 v1 w1 _ _ _ _ : Value, ∀ x1 : World, V0 X0 Y0 x1 →
 RR (sBuiltin .len #[25] 3 [false] [T0]) x1 fun y1 z1 =>
 RR (sBin .lss 3 false false X0 y1) z1 fun A1 B1 =>
 CondV A1 (
 (∃ C1 : (Nat → Bool) → Value → Value → Value → Value → Value → Value → Value → Value → Value → Value → Value → Value → Value → World → Prop, C1 (fun _ => false) i1 j1 k1 l1 m1 n1 o1 q1 s1 t1 u1 v1 w1 { B1 with drawn := B1.drawn + 1 } ∧ (
 (∀ D1 : Nat → Bool, D1 0 = false → ∀ E1 F1 G1 H1 I1 J1 K1 L1 M1 N1 O1 P1 Q1 : Value, ∀ S1 : World, C1 D1 E1 F1 G1 H1 I1 J1 K1 L1 M1 N1 O1 P1 Q1 S1 →
 C1 (setD D1 0) E1 F1 G1 H1 I1 J1 K1 L1 M1 N1 O1 P1 T0 S1) ∧
 (∀ D1 : Nat → Bool, D1 1 = false → ∀ E1 F1 G1 H1 I1 J1 K1 L1 M1 N1 O1 P1 Q1 : Value, ∀ T1 : World, C1 D1 E1 F1 G1 H1 I1 J1 K1 L1 M1 N1 O1 P1 Q1 T1 →
 C1 (setD D1 1) E1 F1 G1 H1 I1 J1 K1 L1 M1 N1 O1 X0 Q1 T1) ∧
 (∀ D1 : Nat → Bool, D1 2 = false → D1 0 = true → D1 1 = true → ∀ E1 F1 G1 H1 I1 J1 K1 L1 M1 N1 O1 P1 Q1 : Value, ∀ U1 : World, C1 D1 E1 F1 G1 H1 I1 J1 K1 L1 M1 N1 O1 P1 Q1 U1 →
 RR (sOp (.indexAddr 25 (.const Q1) (.const P1)) 0) U1 fun V1 W1 =>
 C1 (setD D1 2) E1 F1 G1 H1 I1 J1 K1 L1 M1 N1 V1 P1 Q1 W1) ∧
 (∀ D1 : Nat → Bool, D1 3 = false → D1 2 = true → ∀ E1 F1 G1 H1 I1 J1 K1 L1 M1 N1 O1 P1 Q1 : Value, ∀ X1 : World, C1 D1 E1 F1 G1 H1 I1 J1 K1 L1 M1 N1 O1 P1 Q1 X1 →
 RR (sOp (.fieldAddr 36 (.const O1) 0) 0) X1 fun Y1 Z1 =>
 C1 (setD D1 3) E1 F1 G1 H1 I1 J1 K1 L1 M1 Y1 O1 P1 Q1 Z1) ∧
 (∀ D1 : Nat → Bool, D1 4 = false → D1 3 = true → ∀ E1 F1 G1 H1 I1 J1 K1 L1 M1 N1 O1 P1 Q1 : Value, ∀ a2 : World, C1 D1 E1 F1 G1 H1 I1 J1 K1 L1 M1 N1 O1 P1 Q1 a2 →
 RR (sOp (.load 9 (.const N1)) 9) a2 fun b2 c2 =>
 C1 (setD D1 4) E1 F1 G1 H1 I1 J1 K1 L1 b2 N1 O1 P1 Q1 c2) ∧
 (∀ D1 : Nat → Bool, D1 5 = false → ∀ E1 F1 G1 H1 I1 J1 K1 L1 M1 N1 O1 P1 Q1 : Value, ∀ d2 : World, C1 D1 E1 F1 G1 H1 I1 J1 K1 L1 M1 N1 O1 P1 Q1 d2 →
 C1 (setD D1 5) E1 F1 G1 H1 I1 J1 K1 T0 M1 N1 O1 P1 Q1 d2) ∧
 (∀ D1 : Nat → Bool, D1 6 = false → ∀ E1 F1 G1 H1 I1 J1 K1 L1 M1 N1 O1 P1 Q1 : Value, ∀ e2 : World, C1 D1 E1 F1 G1 H1 I1 J1 K1 L1 M1 N1 O1 P1 Q1 e2 →
 C1 (setD D1 6) E1 F1 G1 H1 I1 J1 X0 L1 M1 N1 O1 P1 Q1 e2) ∧
 (∀ D1 : Nat → Bool, D1 7 = false → D1 5 = true → D1 6 = true → ∀ E1 F1 G1 H1 I1 J1 K1 L1 M1 N1 O1 P1 Q1 : Value, ∀ f2 : World, C1 D1 E1 F1 G1 H1 I1 J1 K1 L1 M1 N1 O1 P1 Q1 f2 →
 RR (sOp (.indexAddr 25 (.const L1) (.const K1)) 0) f2 fun g2 h2 =>
 C1 (setD D1 7) E1 F1 G1 H1 I1 g2 K1 L1 M1 N1 O1 P1 Q1 h2) ∧
 (∀ D1 : Nat → Bool, D1 8 = false → D1 7 = true → ∀ E1 F1 G1 H1 I1 J1 K1 L1 M1 N1 O1 P1 Q1 : Value, ∀ i2 : World, C1 D1 E1 F1 G1 H1 I1 J1 K1 L1 M1 N1 O1 P1 Q1 i2 →
 RR (sOp (.fieldAddr 36 (.const J1) 1) 0) i2 fun j2 k2 =>
 C1 (setD D1 8) E1 F1 G1 H1 j2 J1 K1 L1 M1 N1 O1 P1 Q1 k2) ∧
 (∀ D1 : Nat → Bool, D1 9 = false → D1 8 = true → ∀ E1 F1 G1 H1 I1 J1 K1 L1 M1 N1 O1 P1 Q1 : Value, ∀ l2 : World, C1 D1 E1 F1 G1 H1 I1 J1 K1 L1 M1 N1 O1 P1 Q1 l2 →
 RR (sOp (.load 3 (.const I1)) 3) l2 fun m2 n2 =>
 C1 (setD D1 9) E1 F1 G1 m2 I1 J1 K1 L1 M1 N1 O1 P1 Q1 n2) ∧
 (∀ D1 : Nat → Bool, D1 10 = false → D1 9 = true → D1 9 = true → ∀ E1 F1 G1 H1 I1 J1 K1 L1 M1 N1 O1 P1 Q1 : Value, ∀ o2 : World, C1 D1 E1 F1 G1 H1 I1 J1 K1 L1 M1 N1 O1 P1 Q1 o2 →
 RR (sOp (.makeSlice 30 (.const H1) (.const H1)) 30) o2 fun q2 s2 =>
 C1 (setD D1 10) E1 F1 q2 H1 I1 J1 K1 L1 M1 N1 O1 P1 Q1 s2) ∧
 (∀ D1 : Nat → Bool, D1 11 = false → D1 4 = true → D1 10 = true → ∀ E1 F1 G1 H1 I1 J1 K1 L1 M1 N1 O1 P1 Q1 : Value, ∀ t2 : World, C1 D1 E1 F1 G1 H1 I1 J1 K1 L1 M1 N1 O1 P1 Q1 t2 →
 RR (sBuild 32 [(0, (Value.int .i64 3)), (2, M1), (3, G1)]) t2 fun u2 v2 =>
 C1 (setD D1 11) E1 u2 G1 H1 I1 J1 K1 L1 M1 N1 O1 P1 Q1 v2) ∧
 (∀ D1 : Nat → Bool, D1 12 = false → ∀ E1 F1 G1 H1 I1 J1 K1 L1 M1 N1 O1 P1 Q1 : Value, ∀ w2 : World, C1 D1 E1 F1 G1 H1 I1 J1 K1 L1 M1 N1 O1 P1 Q1 w2 →
 RR (sOp (.alloc 32) 0) w2 fun x2 y2 =>
 C1 (setD D1 12) x2 F1 G1 H1 I1 J1 K1 L1 M1 N1 O1 P1 Q1 y2) ∧
 (∀ D1 : Nat → Bool, D1 13 = false → D1 12 = true → D1 11 = true → D1 0 = true → D1 1 = true → D1 2 = true → D1 3 = true → D1 4 = true → D1 5 = true → D1 6 = true → D1 7 = true → D1 8 = true → D1 9 = true → D1 10 = true → D1 11 = true → D1 12 = true → ∀ E1 F1 G1 H1 I1 J1 K1 L1 M1 N1 O1 P1 Q1 : Value, ∀ z2 : World, C1 D1 E1 F1 G1 H1 I1 J1 K1 L1 M1 N1 O1 P1 Q1 z2 →
 RR (sOp (.store 32 (.const E1) (.const F1)) 0) z2 fun _u A2 =>
 C1 (setD D1 13) E1 F1 G1 H1 I1 J1 K1 L1 M1 N1 O1 P1 Q1 A2) ∧
 True) ∧
 ∀ D1 : Nat → Bool, D1 13 = true → D1 12 = true → D1 11 = true → D1 10 = true → D1 9 = true → D1 8 = true → D1 7 = true → D1 6 = true → D1 5 = true → D1 4 = true → D1 3 = true → D1 2 = true → D1 1 = true → D1 0 = true → ∀ E1 F1 G1 H1 I1 J1 K1 L1 M1 N1 O1 P1 Q1 : Value, ∀ B2 : World, C1 D1 E1 F1 G1 H1 I1 J1 K1 L1 M1 N1 O1 P1 Q1 B2 →
 (∃ (C2 : Value → World → Prop) (D2 : Value → World → Nat), C2 (Value.int .i64 0) B2 ∧
 ∀ E2 _ _ _ _ _ _ _ _ _ _ _ _ : Value, ∀ F2 : World, C2 E2 F2 →
 RR (sOp (.fieldAddr 32 (.const E1) 3) 0) F2 fun G2 H2 =>
 RR (sOp (.load 30 (.const G2)) 30) H2 fun I2 J2 =>
 RR (sBuiltin .len #[30] 3 [false] [I2]) J2 fun K2 L2 =>
 RR (sBin .lss 3 false false E2 K2) L2 fun M2 N2 =>
 CondV M2 (
 RR (sOp (.fieldAddr 32 (.const E1) 3) 0) N2 fun O2 P2 =>
 RR (sOp (.load 30 (.const O2)) 30) P2 fun Q2 S2 =>
 RR (sBuild 32 [(0, (Value.int .i64 2))]) S2 fun T2 U2 =>
 RR (sOp (.indexAddr 30 (.const Q2) (.const E2)) 0) U2 fun V2 W2 =>
 RR (sOp (.store 32 (.const V2) (.const T2)) 0) W2 fun _ X2 =>
 RR (sBin .add 3 false true E2 (Value.int .i64 1)) X2 fun Y2 Z2 =>
 C2 Y2 Z2 ∧ D2 Y2 Z2 < D2 E2 F2) (
 (∃ a3 : (Nat → Bool) → Value → Value → Value → Value → Value → Value → Value → Value → Value → Value → World → Prop, a3 (fun _ => false) Y0 Z0 a1 b1 c1 d1 e1 f1 g1 h1 { N2 with drawn := N2.drawn + 1 } ∧ (
 (∀ b3 : Nat → Bool, b3 0 = false → ∀ c3 d3 e3 f3 g3 h3 i3 j3 k3 l3 : Value, ∀ m3 : World, a3 b3 c3 d3 e3 f3 g3 h3 i3 j3 k3 l3 m3 →
 a3 (setD b3 0) c3 d3 e3 f3 g3 h3 i3 j3 k3 c3 m3) ∧
 (∀ b3 : Nat → Bool, b3 1 = false → b3 0 = true → ∀ c3 d3 e3 f3 g3 h3 i3 j3 k3 l3 : Value, ∀ n3 : World, a3 b3 c3 d3 e3 f3 g3 h3 i3 j3 k3 l3 n3 →
 a3 (setD b3 1) c3 d3 e3 f3 g3 h3 i3 j3 l3 l3 n3) ∧
 (∀ b3 : Nat → Bool, b3 2 = false → b3 1 = true → ∀ c3 d3 e3 f3 g3 h3 i3 j3 k3 l3 : Value, ∀ o3 : World, a3 b3 c3 d3 e3 f3 g3 h3 i3 j3 k3 l3 o3 →
 GuardV k3 false (a3 (setD b3 2) c3 d3 e3 f3 g3 h3 i3 g0 k3 l3 o3) (a3 (setD b3 2) c3 d3 e3 f3 g3 h3 i3 undef k3 l3 o3)) ∧
 (∀ b3 : Nat → Bool, b3 3 = false → b3 1 = true → ∀ c3 d3 e3 f3 g3 h3 i3 j3 k3 l3 : Value, ∀ q3 : World, a3 b3 c3 d3 e3 f3 g3 h3 i3 j3 k3 l3 q3 →
 GuardV k3 false (RR (sOp (.load 32 (.const E1)) 32) q3 fun s3 t3 =>
 a3 (setD b3 3) c3 d3 e3 f3 g3 h3 s3 j3 k3 l3 t3) (a3 (setD b3 3) c3 d3 e3 f3 g3 h3 undef j3 k3 l3 q3)) ∧
 (∀ b3 : Nat → Bool, b3 4 = false → b3 3 = true → b3 1 = true → ∀ c3 d3 e3 f3 g3 h3 i3 j3 k3 l3 : Value, ∀ u3 : World, a3 b3 c3 d3 e3 f3 g3 h3 i3 j3 k3 l3 u3 →
 GuardV k3 false (RR (sBuildSlice 30 1 [(0, i3)]) u3 fun v3 w3 =>
 a3 (setD b3 4) c3 d3 e3 f3 g3 v3 i3 j3 k3 l3 w3) (a3 (setD b3 4) c3 d3 e3 f3 g3 undef i3 j3 k3 l3 u3)) ∧
 (∀ b3 : Nat → Bool, b3 5 = false → b3 2 = true → b3 4 = true → b3 1 = true → b3 1 = true → ∀ c3 d3 e3 f3 g3 h3 i3 j3 k3 l3 : Value, ∀ x3 : World, a3 b3 c3 d3 e3 f3 g3 h3 i3 j3 k3 l3 x3 →
 GuardV k3 false (RR (sCall (Value.func (.func 32) #[] #[]) [j3, h3]) x3 fun y3 z3 =>
 a3 (setD b3 5) c3 d3 e3 f3 y3 h3 i3 j3 k3 l3 z3) (a3 (setD b3 5) c3 d3 e3 f3 undef h3 i3 j3 k3 l3 x3)) ∧
 (∀ b3 : Nat → Bool, b3 6 = false → b3 1 = true → ∀ c3 d3 e3 f3 g3 h3 i3 j3 k3 l3 : Value, ∀ A3 : World, a3 b3 c3 d3 e3 f3 g3 h3 i3 j3 k3 l3 A3 →
 GuardV k3 false (RR (sOp (.load 36 (.const k0)) 36) A3 fun B3 C3 =>
 a3 (setD b3 6) c3 d3 e3 B3 g3 h3 i3 j3 k3 l3 C3) (a3 (setD b3 6) c3 d3 e3 undef g3 h3 i3 j3 k3 l3 A3)) ∧
 (∀ b3 : Nat → Bool, b3 7 = false → b3 5 = true → b3 6 = true → b3 5 = true → b3 1 = true → ∀ c3 d3 e3 f3 g3 h3 i3 j3 k3 l3 : Value, ∀ D3 : World, a3 b3 c3 d3 e3 f3 g3 h3 i3 j3 k3 l3 D3 →
 GuardV k3 false (RR (sCall (Value.func (.func 18) #[] #[]) [g3, f3]) D3 fun E3 F3 =>
 a3 (setD b3 7) c3 d3 E3 f3 g3 h3 i3 j3 k3 l3 F3) (a3 (setD b3 7) c3 d3 undef f3 g3 h3 i3 j3 k3 l3 D3)) ∧
 (∀ b3 : Nat → Bool, b3 8 = false → b3 1 = true → b3 7 = true → ∀ c3 d3 e3 f3 g3 h3 i3 j3 k3 l3 : Value, ∀ G3 : World, a3 b3 c3 d3 e3 f3 g3 h3 i3 j3 k3 l3 G3 →
 RR (sOp (.pick (.const k3) (.const (Value.bool true)) (.const e3)) 4) G3 fun H3 I3 =>
 a3 (setD b3 8) c3 H3 e3 f3 g3 h3 i3 j3 k3 l3 I3) ∧
 (∀ b3 : Nat → Bool, b3 9 = false → b3 8 = true → b3 7 = true → b3 0 = true → b3 1 = true → b3 2 = true → b3 3 = true → b3 4 = true → b3 5 = true → b3 6 = true → b3 7 = true → b3 8 = true → ∀ c3 d3 e3 f3 g3 h3 i3 j3 k3 l3 : Value, ∀ J3 : World, a3 b3 c3 d3 e3 f3 g3 h3 i3 j3 k3 l3 J3 →
 a3 (setD b3 9) d3 d3 e3 f3 g3 h3 i3 j3 k3 l3 J3) ∧
 True) ∧
 ∀ b3 : Nat → Bool, b3 9 = true → b3 8 = true → b3 7 = true → b3 6 = true → b3 5 = true → b3 4 = true → b3 3 = true → b3 2 = true → b3 1 = true → b3 0 = true → ∀ c3 d3 e3 f3 g3 h3 i3 j3 k3 l3 : Value, ∀ K3 : World, a3 b3 c3 d3 e3 f3 g3 h3 i3 j3 k3 l3 K3 →
 RR (sBin .add 3 false true X0 (Value.int .i64 1)) K3 fun L3 M3 =>
 V0 L3 c3 M3 ∧ W0 L3 c3 M3 < W0 X0 Y0 x1))))) (
 RR (sBin .eql 4 false false q0 Y0) B1 fun N3 O3 =>
 R (.returned N3) O3)))))
theorem calls_l_FnRecursivePred {p0 : Value} {w : World} {R : Ending → World → Prop} (h : sh_l_FnRecursivePred p0 w R) : Calls Tryz.prog 7 #[p0] w R :=
  calls_sh (.seq none .leaf (.seq none .leaf (.seq none .leaf (.seq none .leaf (.seq none (.seq (some [31]) .leaf .leaf) (.seq none .leaf (.seq none .leaf (.seq none (.seq none .leaf (.one (.loop [8, 7] (.seq none .leaf (.seq none (.one (.seq none .leaf (.seq none (.seq none .leaf (.one (.loop [10] .leaf))) .leaf))) .leaf))))) .leaf)))))))) [p0] mixed Tryz.func7 (by kernel_rfl) (by kernel_rfl) h


/- loop.example/prologserver/impl.ProgramValid : function 17 -/
def sh_i_ProgramValid (p0 : Value) (w : World) (R : Ending → World → Prop) : Prop :=
 RR (sBuiltin .len #[23] 3 [false] [p0]) w fun a0 b0 =>
 RR (sBin .leq 3 false true a0 (Value.int .i64 20)) b0 fun c0 d0 =>
 GuardV c0 true (
 RR (sCall (Value.func (.func 57) #[] #[]) [p0, (Value.func (.func 58) #[] #[])]) d0 fun e0 f0 =>
 RR (sOp (.unOp .not 4 (.const e0)) 4) f0 fun g0 h0 =>
 RR (sOp (.pick (.const c0) (.const g0) (.const (Value.bool false))) 4) h0 fun i0 j0 =>
 R (.returned i0) j0) (
 RR (sOp (.pick (.const c0) (.const undef) (.const (Value.bool false))) 4) d0 fun k0 l0 =>
 R (.returned k0) l0)
theorem calls_i_ProgramValid {p0 : Value} {w : World} {R : Ending → World → Prop} (h : sh_i_ProgramValid p0 w R) : Calls Tryz.prog 17 #[p0] w R :=
  calls_sh .leaf [p0] mixed Tryz.func17 (by kernel_rfl) (by kernel_rfl) h


/- loop.example/prologserver/laws.pgPred : function 18 -/
def sh_l_pgPred (p0 p1 : Value) (w : World) (R : Ending → World → Prop) : Prop :=
 RR (sOp (.box 36 (.const p1)) 0) w fun a0 b0 =>
 (∃ (c0 : Value → World → Prop) (d0 : Value → World → Nat), c0 (Value.int .i64 0) b0 ∧
 ∀ e0 _ _ _ f0 g0 h0 i0 j0 k0 _ _ _ _ : Value, ∀ l0 : World, c0 e0 l0 →
 RR (sBuiltin .len #[25] 3 [false] [p0]) l0 fun m0 n0 =>
 RR (sBin .lss 3 false false e0 m0) n0 fun o0 q0 =>
 CondV o0 (
 (∃ s0 : (Nat → Bool) → Value → Value → Value → Value → Value → Value → World → Prop, s0 (fun _ => false) f0 g0 h0 i0 j0 k0 { q0 with drawn := q0.drawn + 1 } ∧ (
 (∀ t0 : Nat → Bool, t0 0 = false → ∀ u0 v0 w0 x0 y0 z0 : Value, ∀ A0 : World, s0 t0 u0 v0 w0 x0 y0 z0 A0 →
 s0 (setD t0 0) u0 v0 w0 x0 y0 p0 A0) ∧
 (∀ t0 : Nat → Bool, t0 1 = false → ∀ u0 v0 w0 x0 y0 z0 : Value, ∀ B0 : World, s0 t0 u0 v0 w0 x0 y0 z0 B0 →
 s0 (setD t0 1) u0 v0 w0 x0 e0 z0 B0) ∧
 (∀ t0 : Nat → Bool, t0 2 = false → t0 0 = true → t0 1 = true → ∀ u0 v0 w0 x0 y0 z0 : Value, ∀ C0 : World, s0 t0 u0 v0 w0 x0 y0 z0 C0 →
 RR (sOp (.indexAddr 25 (.const z0) (.const y0)) 0) C0 fun D0 E0 =>
 s0 (setD t0 2) u0 v0 w0 D0 y0 z0 E0) ∧
 (∀ t0 : Nat → Bool, t0 3 = false → t0 2 = true → ∀ u0 v0 w0 x0 y0 z0 : Value, ∀ F0 : World, s0 t0 u0 v0 w0 x0 y0 z0 F0 →
 RR (sOp (.load 36 (.const x0)) 36) F0 fun G0 H0 =>
 s0 (setD t0 3) u0 v0 G0 x0 y0 z0 H0) ∧
 (∀ t0 : Nat → Bool, t0 4 = false → ∀ u0 v0 w0 x0 y0 z0 : Value, ∀ I0 : World, s0 t0 u0 v0 w0 x0 y0 z0 I0 →
 RR (sOp (.load 36 (.const a0)) 36) I0 fun J0 K0 =>
 s0 (setD t0 4) u0 J0 w0 x0 y0 z0 K0) ∧
 (∀ t0 : Nat → Bool, t0 5 = false → t0 3 = true → t0 4 = true → ∀ u0 v0 w0 x0 y0 z0 : Value, ∀ L0 : World, s0 t0 u0 v0 w0 x0 y0 z0 L0 →
 RR (sBin .eql 36 false false w0 v0) L0 fun M0 N0 =>
 s0 (setD t0 5) M0 v0 w0 x0 y0 z0 N0) ∧
 True) ∧
 ∀ t0 : Nat → Bool, t0 5 = true → t0 4 = true → t0 3 = true → t0 2 = true → t0 1 = true → t0 0 = true → ∀ u0 v0 w0 x0 y0 z0 : Value, ∀ O0 : World, s0 t0 u0 v0 w0 x0 y0 z0 O0 →
 CondV u0 (
 R (.returned (Value.bool true)) O0) (
 RR (sBin .add 3 false true e0 (Value.int .i64 1)) O0 fun P0 Q0 =>
 c0 P0 Q0 ∧ d0 P0 Q0 < d0 e0 l0))) (
 R (.returned (Value.bool false)) q0))
theorem calls_l_pgPred {p0 p1 : Value} {w : World} {R : Ending → World → Prop} (h : sh_l_pgPred p0 p1 w R) : Calls Tryz.prog 18 #[p0, p1] w R :=
  calls_sh (.seq none .leaf (.seq none (.seq none .leaf (.one (.loop [5] .leaf))) .leaf)) [p0, p1] mixed Tryz.func18 (by kernel_rfl) (by kernel_rfl) h


/- loop.example/prologserver/impl.ClauseValid : function 22 -/
def sh_i_ClauseValid (p0 : Value) (w : World) (R : Ending → World → Prop) : Prop :=
 RR (sOp (.box 34 (.const p0)) 0) w fun a0 b0 =>
 RR (sOp (.fieldAddr 34 (.const a0) 0) 0) b0 fun c0 d0 =>
 RR (sOp (.load 32 (.const c0)) 32) d0 fun e0 f0 =>
 RR (sCall (Value.func (.func 66) #[] #[]) [e0]) f0 fun g0 h0 =>
 GuardV g0 true (
 RR (sOp (.fieldAddr 34 (.const a0) 0) 0) h0 fun i0 j0 =>
 RR (sOp (.load 32 (.const i0)) 32) j0 fun k0 l0 =>
 RR (sCall (Value.func (.func 67) #[] #[]) [k0]) l0 fun m0 n0 =>
 RR (sOp (.pick (.const g0) (.const m0) (.const (Value.bool false))) 4) n0 fun o0 q0 =>
 GuardV o0 true (
 RR (sOp (.fieldAddr 34 (.const a0) 1) 0) q0 fun s0 t0 =>
 RR (sOp (.load 30 (.const s0)) 30) t0 fun u0 v0 =>
 RR (sCall (Value.func (.func 68) #[] #[]) [u0]) v0 fun w0 x0 =>
 RR (sOp (.pick (.const o0) (.const w0) (.const (Value.bool false))) 4) x0 fun y0 z0 =>
 R (.returned y0) z0) (
 RR (sOp (.pick (.const o0) (.const undef) (.const (Value.bool false))) 4) q0 fun A0 B0 =>
 R (.returned A0) B0)) (
 RR (sOp (.pick (.const g0) (.const undef) (.const (Value.bool false))) 4) h0 fun C0 D0 =>
 GuardV C0 true (
 RR (sOp (.fieldAddr 34 (.const a0) 1) 0) D0 fun E0 F0 =>
 RR (sOp (.load 30 (.const E0)) 30) F0 fun G0 H0 =>
 RR (sCall (Value.func (.func 68) #[] #[]) [G0]) H0 fun I0 J0 =>
 RR (sOp (.pick (.const C0) (.const I0) (.const (Value.bool false))) 4) J0 fun K0 L0 =>
 R (.returned K0) L0) (
 RR (sOp (.pick (.const C0) (.const undef) (.const (Value.bool false))) 4) D0 fun M0 N0 =>
 R (.returned M0) N0))
theorem calls_i_ClauseValid {p0 : Value} {w : World} {R : Ending → World → Prop} (h : sh_i_ClauseValid p0 w R) : Calls Tryz.prog 22 #[p0] w R :=
  calls_sh .leaf [p0] mixed Tryz.func22 (by kernel_rfl) (by kernel_rfl) h


/- loop.example/prologserver/spec.DrawRecursivePred : function 28 -/
def sh_s_DrawRecursivePred (p0 : Value) (w : World) (R : Ending → World → Prop) : Prop :=
 RR (sOp (.alloc 36) 0) w fun a0 b0 =>
 RR (sCall (Value.func (.func 50) #[] #[]) [p0]) b0 fun c0 d0 =>
 RR (sCall (Value.func (.func 61) #[] #[]) [c0, (Value.int .i64 2)]) d0 fun e0 f0 =>
 RR (sBin .eql 3 false true e0 (Value.int .i64 0)) f0 fun g0 h0 =>
 CondV g0 (
 RR (sBuildSlice 82 3 [(0, (Value.string ⟨#[97, 58, 45, 98, 44, 99, 46, 10, 98, 58, 45, 97, 46, 10, 99, 58, 45, 97, 44, 65, 61, 49, 46, 10]⟩)), (1, (Value.string ⟨#[112, 40, 65, 41, 58, 45, 113, 40, 65, 44, 65, 41, 46, 10, 113, 40, 65, 44, 66, 41, 58, 45, 114, 44, 112, 40, 66, 41, 46, 10, 114, 46, 10]⟩)), (2, (Value.string ⟨#[110, 40, 65, 41, 58, 45, 110, 40, 65, 41, 46, 10, 109, 58, 45, 110, 40, 49, 41, 46, 10]⟩))]) h0 fun i0 j0 =>
 RR (sBuiltin .len #[82] 3 [false] [i0]) j0 fun k0 l0 =>
 RR (sCall (Value.func (.func 61) #[] #[]) [c0, k0]) l0 fun m0 n0 =>
 RR (sOp (.indexAddr 82 (.const i0) (.const m0)) 0) n0 fun o0 q0 =>
 RR (sOp (.load 9 (.const o0)) 9) q0 fun s0 t0 =>
 RR (sCall (Value.func (.func 72) #[] #[]) [s0]) t0 fun u0 v0 =>
 RR (sOp (.extract (.const u0) 0) 23) v0 fun w0 x0 =>
 RR (sOp (.extract (.const u0) 1) 4) x0 fun _ y0 =>
 RR (sCall (Value.func (.func 61) #[] #[]) [c0, (Value.int .i64 2)]) y0 fun z0 A0 =>
 RR (sOp (.indexAddr 23 (.const w0) (.const z0)) 0) A0 fun B0 C0 =>
 RR (sOp (.fieldAddr 34 (.const B0) 0) 0) C0 fun D0 E0 =>
 RR (sOp (.load 32 (.const D0)) 32) E0 fun F0 G0 =>
 RR (sCall (Value.func (.func 70) #[] #[]) [F0]) G0 fun H0 I0 =>
 RR (sOp (.store 36 (.const a0) (.const H0)) 0) I0 fun _u J0 =>
 (LoadV Tryz.prog 36 a0 J0 fun r1 => R (.returned (.tuple #[w0, r1])) J0)) (
 RR (sCall (Value.func (.func 38) #[] #[]) [p0]) h0 fun K0 L0 =>
 RR (sOp (.extract (.const K0) 0) 23) L0 fun M0 N0 =>
 RR (sOp (.extract (.const K0) 1) 36) N0 fun O0 P0 =>
 RR (sOp (.store 36 (.const a0) (.const O0)) 0) P0 fun _ Q0 =>
 (LoadV Tryz.prog 36 a0 Q0 fun r1 => R (.returned (.tuple #[M0, r1])) Q0))
theorem calls_s_DrawRecursivePred {p0 : Value} {w : World} {R : Ending → World → Prop} (h : sh_s_DrawRecursivePred p0 w R) : Calls Tryz.prog 28 #[p0] w R :=
  calls_sh .leaf [p0] mixed Tryz.func28 (by kernel_rfl) (by kernel_rfl) h


/- loop.example/prologserver/impl.RecursivePred : function 29 -/
def sh_i_RecursivePred (p0 p1 : Value) (w : World) (R : Ending → World → Prop) : Prop :=
 RR (sOp (.box 36 (.const p1)) 0) w fun a0 b0 =>
 (∃ c0 : (Nat → Bool) → Value → Value → Value → Value → Value → Value → Value → Value → Value → Value → Value → Value → World → Prop, c0 (fun _ => false) (Value.bool false) undef undef undef undef undef undef undef undef undef undef undef { b0 with drawn := b0.drawn + 1 } ∧ (
 (∀ d0 : Nat → Bool, d0 0 = false → ∀ e0 f0 g0 h0 i0 j0 k0 l0 m0 n0 o0 q0 : Value, ∀ s0 : World, c0 d0 e0 f0 g0 h0 i0 j0 k0 l0 m0 n0 o0 q0 s0 →
 c0 (setD d0 0) e0 f0 g0 h0 i0 j0 k0 l0 m0 n0 o0 p0 s0) ∧
 (∀ d0 : Nat → Bool, d0 1 = false → d0 0 = true → ∀ e0 f0 g0 h0 i0 j0 k0 l0 m0 n0 o0 q0 : Value, ∀ t0 : World, c0 d0 e0 f0 g0 h0 i0 j0 k0 l0 m0 n0 o0 q0 t0 →
 RR (sCall (Value.func (.func 17) #[] #[]) [q0]) t0 fun u0 v0 =>
 c0 (setD d0 1) e0 f0 g0 h0 i0 j0 k0 l0 m0 n0 u0 q0 v0) ∧
 (∀ d0 : Nat → Bool, d0 2 = false → d0 1 = true → d0 1 = true → ∀ e0 f0 g0 h0 i0 j0 k0 l0 m0 n0 o0 q0 : Value, ∀ w0 : World, c0 d0 e0 f0 g0 h0 i0 j0 k0 l0 m0 n0 o0 q0 w0 →
 c0 (setD d0 2) e0 f0 g0 h0 i0 j0 k0 l0 m0 o0 o0 q0 w0) ∧
 (∀ d0 : Nat → Bool, d0 3 = false → d0 2 = true → ∀ e0 f0 g0 h0 i0 j0 k0 l0 m0 n0 o0 q0 : Value, ∀ x0 : World, c0 d0 e0 f0 g0 h0 i0 j0 k0 l0 m0 n0 o0 q0 x0 →
 GuardV n0 true (c0 (setD d0 3) e0 f0 g0 h0 i0 j0 k0 l0 p0 n0 o0 q0 x0) (c0 (setD d0 3) e0 f0 g0 h0 i0 j0 k0 l0 undef n0 o0 q0 x0)) ∧
 (∀ d0 : Nat → Bool, d0 4 = false → d0 2 = true → ∀ e0 f0 g0 h0 i0 j0 k0 l0 m0 n0 o0 q0 : Value, ∀ y0 : World, c0 d0 e0 f0 g0 h0 i0 j0 k0 l0 m0 n0 o0 q0 y0 →
 GuardV n0 true (c0 (setD d0 4) e0 f0 g0 h0 i0 j0 k0 p0 m0 n0 o0 q0 y0) (c0 (setD d0 4) e0 f0 g0 h0 i0 j0 k0 undef m0 n0 o0 q0 y0)) ∧
 (∀ d0 : Nat → Bool, d0 5 = false → d0 2 = true → ∀ e0 f0 g0 h0 i0 j0 k0 l0 m0 n0 o0 q0 : Value, ∀ z0 : World, c0 d0 e0 f0 g0 h0 i0 j0 k0 l0 m0 n0 o0 q0 z0 →
 GuardV n0 true (RR (sOp (.load 36 (.const a0)) 36) z0 fun A0 B0 =>
 c0 (setD d0 5) e0 f0 g0 h0 i0 j0 A0 l0 m0 n0 o0 q0 B0) (c0 (setD d0 5) e0 f0 g0 h0 i0 j0 undef l0 m0 n0 o0 q0 z0)) ∧
 (∀ d0 : Nat → Bool, d0 6 = false → d0 4 = true → d0 5 = true → d0 2 = true → d0 2 = true → ∀ e0 f0 g0 h0 i0 j0 k0 l0 m0 n0 o0 q0 : Value, ∀ C0 : World, c0 d0 e0 f0 g0 h0 i0 j0 k0 l0 m0 n0 o0 q0 C0 →
 GuardV n0 true (RR (sCall (Value.func (.func 75) #[] #[]) [l0, k0]) C0 fun D0 E0 =>
 c0 (setD d0 6) e0 f0 g0 h0 i0 D0 k0 l0 m0 n0 o0 q0 E0) (c0 (setD d0 6) e0 f0 g0 h0 i0 undef k0 l0 m0 n0 o0 q0 C0)) ∧
 (∀ d0 : Nat → Bool, d0 7 = false → d0 3 = true → d0 6 = true → d0 6 = true → d0 2 = true → ∀ e0 f0 g0 h0 i0 j0 k0 l0 m0 n0 o0 q0 : Value, ∀ F0 : World, c0 d0 e0 f0 g0 h0 i0 j0 k0 l0 m0 n0 o0 q0 F0 →
 GuardV n0 true (RR (sCall (Value.func (.func 74) #[] #[]) [m0, j0]) F0 fun G0 H0 =>
 c0 (setD d0 7) e0 f0 g0 h0 G0 j0 k0 l0 m0 n0 o0 q0 H0) (c0 (setD d0 7) e0 f0 g0 h0 undef j0 k0 l0 m0 n0 o0 q0 F0)) ∧
 (∀ d0 : Nat → Bool, d0 8 = false → d0 2 = true → ∀ e0 f0 g0 h0 i0 j0 k0 l0 m0 n0 o0 q0 : Value, ∀ I0 : World, c0 d0 e0 f0 g0 h0 i0 j0 k0 l0 m0 n0 o0 q0 I0 →
 GuardV n0 true (RR (sOp (.load 36 (.const a0)) 36) I0 fun J0 K0 =>
 c0 (setD d0 8) e0 f0 g0 J0 i0 j0 k0 l0 m0 n0 o0 q0 K0) (c0 (setD d0 8) e0 f0 g0 undef i0 j0 k0 l0 m0 n0 o0 q0 I0)) ∧
 (∀ d0 : Nat → Bool, d0 9 = false → d0 7 = true → d0 8 = true → d0 7 = true → d0 2 = true → ∀ e0 f0 g0 h0 i0 j0 k0 l0 m0 n0 o0 q0 : Value, ∀ L0 : World, c0 d0 e0 f0 g0 h0 i0 j0 k0 l0 m0 n0 o0 q0 L0 →
 GuardV n0 true (RR (sCall (Value.func (.func 73) #[] #[]) [i0, h0]) L0 fun M0 N0 =>
 c0 (setD d0 9) e0 f0 M0 h0 i0 j0 k0 l0 m0 n0 o0 q0 N0) (c0 (setD d0 9) e0 f0 undef h0 i0 j0 k0 l0 m0 n0 o0 q0 L0)) ∧
 (∀ d0 : Nat → Bool, d0 10 = false → d0 2 = true → d0 9 = true → ∀ e0 f0 g0 h0 i0 j0 k0 l0 m0 n0 o0 q0 : Value, ∀ O0 : World, c0 d0 e0 f0 g0 h0 i0 j0 k0 l0 m0 n0 o0 q0 O0 →
 RR (sOp (.pick (.const n0) (.const g0) (.const (Value.bool false))) 4) O0 fun P0 Q0 =>
 c0 (setD d0 10) e0 P0 g0 h0 i0 j0 k0 l0 m0 n0 o0 q0 Q0) ∧
 (∀ d0 : Nat → Bool, d0 11 = false → d0 10 = true → d0 9 = true → d0 0 = true → d0 1 = true → d0 2 = true → d0 3 = true → d0 4 = true → d0 5 = true → d0 6 = true → d0 7 = true → d0 8 = true → d0 9 = true → d0 10 = true → ∀ e0 f0 g0 h0 i0 j0 k0 l0 m0 n0 o0 q0 : Value, ∀ S0 : World, c0 d0 e0 f0 g0 h0 i0 j0 k0 l0 m0 n0 o0 q0 S0 →
 c0 (setD d0 11) f0 f0 g0 h0 i0 j0 k0 l0 m0 n0 o0 q0 S0) ∧
 True) ∧
 ∀ d0 : Nat → Bool, d0 11 = true → d0 10 = true → d0 9 = true → d0 8 = true → d0 7 = true → d0 6 = true → d0 5 = true → d0 4 = true → d0 3 = true → d0 2 = true → d0 1 = true → d0 0 = true → ∀ e0 f0 g0 h0 i0 j0 k0 l0 m0 n0 o0 q0 : Value, ∀ T0 : World, c0 d0 e0 f0 g0 h0 i0 j0 k0 l0 m0 n0 o0 q0 T0 →
 R (.returned e0) T0)
theorem calls_i_RecursivePred {p0 p1 : Value} {w : World} {R : Ending → World → Prop} (h : sh_i_RecursivePred p0 p1 w R) : Calls Tryz.prog 29 #[p0, p1] w R :=
  calls_sh .leaf [p0, p1] mixed Tryz.func29 (by kernel_rfl) (by kernel_rfl) h


/- loop.example/prologserver/spec.RecursivePred : function 30 -/
def sh_s_RecursivePred (p0 p1 : Value) (w : World) (R : Ending → World → Prop) : Prop :=
 RR (sOp (.box 36 (.const p1)) 0) w fun a0 b0 =>
 (∃ c0 : (Nat → Bool) → Value → Value → Value → Value → Value → Value → Value → Value → Value → Value → Value → Value → World → Prop, c0 (fun _ => false) (Value.bool false) undef undef undef undef undef undef undef undef undef undef undef { b0 with drawn := b0.drawn + 1 } ∧ (
 (∀ d0 : Nat → Bool, d0 0 = false → ∀ e0 f0 g0 h0 i0 j0 k0 l0 m0 n0 o0 q0 : Value, ∀ s0 : World, c0 d0 e0 f0 g0 h0 i0 j0 k0 l0 m0 n0 o0 q0 s0 →
 c0 (setD d0 0) e0 f0 g0 h0 i0 j0 k0 l0 m0 n0 o0 p0 s0) ∧
 (∀ d0 : Nat → Bool, d0 1 = false → d0 0 = true → ∀ e0 f0 g0 h0 i0 j0 k0 l0 m0 n0 o0 q0 : Value, ∀ t0 : World, c0 d0 e0 f0 g0 h0 i0 j0 k0 l0 m0 n0 o0 q0 t0 →
 RR (sCall (Value.func (.func 55) #[] #[]) [q0]) t0 fun u0 v0 =>
 c0 (setD d0 1) e0 f0 g0 h0 i0 j0 k0 l0 m0 n0 u0 q0 v0) ∧
 (∀ d0 : Nat → Bool, d0 2 = false → d0 1 = true → d0 1 = true → ∀ e0 f0 g0 h0 i0 j0 k0 l0 m0 n0 o0 q0 : Value, ∀ w0 : World, c0 d0 e0 f0 g0 h0 i0 j0 k0 l0 m0 n0 o0 q0 w0 →
 c0 (setD d0 2) e0 f0 g0 h0 i0 j0 k0 l0 m0 o0 o0 q0 w0) ∧
 (∀ d0 : Nat → Bool, d0 3 = false → d0 2 = true → ∀ e0 f0 g0 h0 i0 j0 k0 l0 m0 n0 o0 q0 : Value, ∀ x0 : World, c0 d0 e0 f0 g0 h0 i0 j0 k0 l0 m0 n0 o0 q0 x0 →
 GuardV n0 true (c0 (setD d0 3) e0 f0 g0 h0 i0 j0 k0 l0 p0 n0 o0 q0 x0) (c0 (setD d0 3) e0 f0 g0 h0 i0 j0 k0 l0 undef n0 o0 q0 x0)) ∧
 (∀ d0 : Nat → Bool, d0 4 = false → d0 2 = true → ∀ e0 f0 g0 h0 i0 j0 k0 l0 m0 n0 o0 q0 : Value, ∀ y0 : World, c0 d0 e0 f0 g0 h0 i0 j0 k0 l0 m0 n0 o0 q0 y0 →
 GuardV n0 true (c0 (setD d0 4) e0 f0 g0 h0 i0 j0 k0 p0 m0 n0 o0 q0 y0) (c0 (setD d0 4) e0 f0 g0 h0 i0 j0 k0 undef m0 n0 o0 q0 y0)) ∧
 (∀ d0 : Nat → Bool, d0 5 = false → d0 2 = true → ∀ e0 f0 g0 h0 i0 j0 k0 l0 m0 n0 o0 q0 : Value, ∀ z0 : World, c0 d0 e0 f0 g0 h0 i0 j0 k0 l0 m0 n0 o0 q0 z0 →
 GuardV n0 true (RR (sOp (.load 36 (.const a0)) 36) z0 fun A0 B0 =>
 c0 (setD d0 5) e0 f0 g0 h0 i0 j0 A0 l0 m0 n0 o0 q0 B0) (c0 (setD d0 5) e0 f0 g0 h0 i0 j0 undef l0 m0 n0 o0 q0 z0)) ∧
 (∀ d0 : Nat → Bool, d0 6 = false → d0 4 = true → d0 5 = true → d0 2 = true → d0 2 = true → ∀ e0 f0 g0 h0 i0 j0 k0 l0 m0 n0 o0 q0 : Value, ∀ C0 : World, c0 d0 e0 f0 g0 h0 i0 j0 k0 l0 m0 n0 o0 q0 C0 →
 GuardV n0 true (RR (sCall (Value.func (.func 78) #[] #[]) [l0, k0]) C0 fun D0 E0 =>
 c0 (setD d0 6) e0 f0 g0 h0 i0 D0 k0 l0 m0 n0 o0 q0 E0) (c0 (setD d0 6) e0 f0 g0 h0 i0 undef k0 l0 m0 n0 o0 q0 C0)) ∧
 (∀ d0 : Nat → Bool, d0 7 = false → d0 3 = true → d0 6 = true → d0 6 = true → d0 2 = true → ∀ e0 f0 g0 h0 i0 j0 k0 l0 m0 n0 o0 q0 : Value, ∀ F0 : World, c0 d0 e0 f0 g0 h0 i0 j0 k0 l0 m0 n0 o0 q0 F0 →
 GuardV n0 true (RR (sCall (Value.func (.func 77) #[] #[]) [m0, j0]) F0 fun G0 H0 =>
 c0 (setD d0 7) e0 f0 g0 h0 G0 j0 k0 l0 m0 n0 o0 q0 H0) (c0 (setD d0 7) e0 f0 g0 h0 undef j0 k0 l0 m0 n0 o0 q0 F0)) ∧
 (∀ d0 : Nat → Bool, d0 8 = false → d0 2 = true → ∀ e0 f0 g0 h0 i0 j0 k0 l0 m0 n0 o0 q0 : Value, ∀ I0 : World, c0 d0 e0 f0 g0 h0 i0 j0 k0 l0 m0 n0 o0 q0 I0 →
 GuardV n0 true (RR (sOp (.load 36 (.const a0)) 36) I0 fun J0 K0 =>
 c0 (setD d0 8) e0 f0 g0 J0 i0 j0 k0 l0 m0 n0 o0 q0 K0) (c0 (setD d0 8) e0 f0 g0 undef i0 j0 k0 l0 m0 n0 o0 q0 I0)) ∧
 (∀ d0 : Nat → Bool, d0 9 = false → d0 7 = true → d0 8 = true → d0 7 = true → d0 2 = true → ∀ e0 f0 g0 h0 i0 j0 k0 l0 m0 n0 o0 q0 : Value, ∀ L0 : World, c0 d0 e0 f0 g0 h0 i0 j0 k0 l0 m0 n0 o0 q0 L0 →
 GuardV n0 true (RR (sCall (Value.func (.func 76) #[] #[]) [i0, h0]) L0 fun M0 N0 =>
 c0 (setD d0 9) e0 f0 M0 h0 i0 j0 k0 l0 m0 n0 o0 q0 N0) (c0 (setD d0 9) e0 f0 undef h0 i0 j0 k0 l0 m0 n0 o0 q0 L0)) ∧
 (∀ d0 : Nat → Bool, d0 10 = false → d0 2 = true → d0 9 = true → ∀ e0 f0 g0 h0 i0 j0 k0 l0 m0 n0 o0 q0 : Value, ∀ O0 : World, c0 d0 e0 f0 g0 h0 i0 j0 k0 l0 m0 n0 o0 q0 O0 →
 RR (sOp (.pick (.const n0) (.const g0) (.const (Value.bool false))) 4) O0 fun P0 Q0 =>
 c0 (setD d0 10) e0 P0 g0 h0 i0 j0 k0 l0 m0 n0 o0 q0 Q0) ∧
 (∀ d0 : Nat → Bool, d0 11 = false → d0 10 = true → d0 9 = true → d0 0 = true → d0 1 = true → d0 2 = true → d0 3 = true → d0 4 = true → d0 5 = true → d0 6 = true → d0 7 = true → d0 8 = true → d0 9 = true → d0 10 = true → ∀ e0 f0 g0 h0 i0 j0 k0 l0 m0 n0 o0 q0 : Value, ∀ S0 : World, c0 d0 e0 f0 g0 h0 i0 j0 k0 l0 m0 n0 o0 q0 S0 →
 c0 (setD d0 11) f0 f0 g0 h0 i0 j0 k0 l0 m0 n0 o0 q0 S0) ∧
 True) ∧
 ∀ d0 : Nat → Bool, d0 11 = true → d0 10 = true → d0 9 = true → d0 8 = true → d0 7 = true → d0 6 = true → d0 5 = true → d0 4 = true → d0 3 = true → d0 2 = true → d0 1 = true → d0 0 = true → ∀ e0 f0 g0 h0 i0 j0 k0 l0 m0 n0 o0 q0 : Value, ∀ T0 : World, c0 d0 e0 f0 g0 h0 i0 j0 k0 l0 m0 n0 o0 q0 T0 →
 R (.returned e0) T0)
theorem calls_s_RecursivePred {p0 p1 : Value} {w : World} {R : Ending → World → Prop} (h : sh_s_RecursivePred p0 p1 w R) : Calls Tryz.prog 30 #[p0, p1] w R :=
  calls_sh .leaf [p0, p1] mixed Tryz.func30 (by kernel_rfl) (by kernel_rfl) h


/- loop.example/prologserver/impl.CallsOf : function 31 -/
def sh_i_CallsOf (p0 p1 : Value) (w : World) (R : Ending → World → Prop) : Prop :=
 RR (sOp (.box 36 (.const p1)) 0) w fun a0 b0 =>
 RR (sCall (Value.func (.func 17) #[] #[]) [p0]) b0 fun c0 d0 =>
 RR (sOp (.unOp .not 4 (.const c0)) 4) d0 fun e0 f0 =>
 CondV e0 (
 R (.returned (Value.slice none 0 0)) f0) (
 RR (sOp (.load 36 (.const a0)) 36) f0 fun g0 h0 =>
 RR (sCall (Value.func (.func 75) #[] #[]) [p0, g0]) h0 fun i0 j0 =>
 R (.returned i0) j0)
theorem calls_i_CallsOf {p0 p1 : Value} {w : World} {R : Ending → World → Prop} (h : sh_i_CallsOf p0 p1 w R) : Calls Tryz.prog 31 #[p0, p1] w R :=
  calls_sh .leaf [p0, p1] mixed Tryz.func31 (by kernel_rfl) (by kernel_rfl) h


/- loop.example/prologserver/impl.ReachOf : function 32 -/
def sh_i_ReachOf (p0 p1 : Value) (w : World) (R : Ending → World → Prop) : Prop :=
 (∃ a0 : Value → World → Prop, (
 RR (sCall (Value.func (.func 17) #[] #[]) [p0]) w fun b0 c0 =>
 RR (sOp (.unOp .not 4 (.const b0)) 4) c0 fun d0 e0 =>
 GuardV d0 false (
 RR (sCall (Value.func (.func 43) #[] #[]) [p1]) e0 fun f0 g0 =>
 RR (sOp (.unOp .not 4 (.const f0)) 4) g0 fun h0 i0 =>
 RR (sOp (.pick (.const d0) (.const (Value.bool true)) (.const h0)) 4) i0 fun j0 k0 =>
 a0 j0 k0) (
 RR (sOp (.pick (.const d0) (.const (Value.bool true)) (.const undef)) 4) e0 fun l0 m0 =>
 a0 l0 m0)) ∧
 ∀ n0 _ _ _ _ _ _ _ : Value, ∀ o0 : World, a0 n0 o0 →
 CondV n0 (
 R (.returned (Value.slice none 0 0)) o0) (
 RR (sCall (Value.func (.func 79) #[] #[]) [p1, (Value.slice none 0 0)]) o0 fun q0 s0 =>
 RR (sCall (Value.func (.func 74) #[] #[]) [p0, q0]) s0 fun t0 u0 =>
 R (.returned t0) u0))
theorem calls_i_ReachOf {p0 p1 : Value} {w : World} {R : Ending → World → Prop} (h : sh_i_ReachOf p0 p1 w R) : Calls Tryz.prog 32 #[p0, p1] w R :=
  calls_sh (.seq none .leaf (.seq none (.seq (some [12]) .leaf .leaf) .leaf)) [p0, p1] mixed Tryz.func32 (by kernel_rfl) (by kernel_rfl) h


/- loop.example/prologserver/spec.DrawCallsOf : function 38 -/
def sh_s_DrawCallsOf (p0 : Value) (w : World) (R : Ending → World → Prop) : Prop :=
 RR (sOp (.alloc 36) 0) w fun a0 b0 =>
 RR (sCall (Value.func (.func 50) #[] #[]) [p0]) b0 fun c0 d0 =>
 RR (sCall (Value.func (.func 52) #[] #[]) [c0]) d0 fun e0 f0 =>
 RR (sCall (Value.func (.func 51) #[] #[]) [c0, e0]) f0 fun g0 h0 =>
 RR (sCall (Value.func (.func 87) #[] #[]) [c0, g0]) h0 fun i0 j0 =>
 RR (sOp (.store 36 (.const a0) (.const i0)) 0) j0 fun _ k0 =>
 (LoadV Tryz.prog 36 a0 k0 fun r1 => R (.returned (.tuple #[g0, r1])) k0)
theorem calls_s_DrawCallsOf {p0 : Value} {w : World} {R : Ending → World → Prop} (h : sh_s_DrawCallsOf p0 w R) : Calls Tryz.prog 38 #[p0] w R :=
  calls_sh .leaf [p0] mixed Tryz.func38 (by kernel_rfl) (by kernel_rfl) h


/- loop.example/prologserver/impl.QueryValid : function 43 -/
def sh_i_QueryValid (p0 : Value) (w : World) (R : Ending → World → Prop) : Prop :=
 RR (sCall (Value.func (.func 68) #[] #[]) [p0]) w fun a0 b0 =>
 R (.returned a0) b0
theorem calls_i_QueryValid {p0 : Value} {w : World} {R : Ending → World → Prop} (h : sh_i_QueryValid p0 w R) : Calls Tryz.prog 43 #[p0] w R :=
  calls_sh .leaf [p0] mixed Tryz.func43 (by kernel_rfl) (by kernel_rfl) h


/- loop.example/prologserver/spec.l18Open : function 50 -/
def sh_s_l18Open (p0 : Value) (w : World) (R : Ending → World → Prop) : Prop :=
 (∃ a0 : Value → World → Prop, (
 RR (sBuiltin .len #[22] 3 [false] [p0]) w fun b0 c0 =>
 RR (sBin .gtr 3 false true b0 (Value.int .i64 2000)) c0 fun d0 e0 =>
 CondV d0 (
 RR (sOp (.slice 22 (.const p0) none (some (.const (Value.int .i64 2000))) none) 22) e0 fun f0 g0 =>
 a0 f0 g0) (
 a0 p0 e0)) ∧
 ∀ h0 _ _ _ _ _ : Value, ∀ i0 : World, a0 h0 i0 →
 RR (sBuild 102 [(0, h0)]) i0 fun j0 k0 =>
 RR (sOp (.box 102 (.const j0)) 66) k0 fun l0 m0 =>
 R (.returned l0) m0)
theorem calls_s_l18Open {p0 : Value} {w : World} {R : Ending → World → Prop} (h : sh_s_l18Open p0 w R) : Calls Tryz.prog 50 #[p0] w R :=
  calls_sh (.seq none .leaf (.seq (some [0]) .leaf .leaf)) [p0] mixed Tryz.func50 (by kernel_rfl) (by kernel_rfl) h


/- loop.example/prologserver/spec.l4MutateAll : function 51 -/
def sh_s_l4MutateAll (p0 p1 : Value) (w : World) (R : Ending → World → Prop) : Prop :=
 RR (sBuildSlice 23 0 []) w fun a0 b0 =>
 (∃ (c0 : Value → Value → World → Prop) (d0 : Value → Value → World → Nat), c0 (Value.int .i64 0) a0 b0 ∧
 ∀ e0 _ _ f0 _ _ _ _ _ _ _ _ _ _ _ _ _ : Value, ∀ g0 : World, c0 e0 f0 g0 →
 RR (sBuiltin .len #[23] 3 [false] [p1]) g0 fun h0 i0 =>
 RR (sBin .lss 3 false false e0 h0) i0 fun j0 k0 =>
 CondV j0 (
 RR (sOp (.indexAddr 23 (.const p1) (.const e0)) 0) k0 fun l0 m0 =>
 RR (sOp (.load 34 (.const l0)) 34) m0 fun n0 o0 =>
 RR (sCall (Value.func (.func 62) #[] #[]) [p0, n0]) o0 fun q0 s0 =>
 RR (sBuildSlice 23 1 [(0, q0)]) s0 fun t0 u0 =>
 RR (sBuiltin .append #[23, 23] 23 [false, false] [f0, t0]) u0 fun v0 w0 =>
 RR (sBin .add 3 false true e0 (Value.int .i64 1)) w0 fun x0 y0 =>
 c0 x0 v0 y0 ∧ d0 x0 v0 y0 < d0 e0 f0 g0) (
 (∃ z0 : Value → World → Prop, (
 RR (sCall (Value.func (.func 61) #[] #[]) [p0, (Value.int .i64 30)]) k0 fun A0 B0 =>
 RR (sBin .eql 3 false true A0 (Value.int .i64 0)) B0 fun C0 D0 =>
 CondV C0 (
 (∃ (E0 : Value → World → Prop) (F0 : Value → World → Nat), E0 f0 D0 ∧
 ∀ G0 _ _ _ _ _ _ _ _ : Value, ∀ H0 : World, E0 G0 H0 →
 RR (sBuiltin .len #[23] 3 [false] [G0]) H0 fun I0 J0 =>
 RR (sBin .leq 3 false true I0 (Value.int .i64 20)) J0 fun K0 L0 =>
 CondV K0 (
 RR (sCall (Value.func (.func 106) #[] #[]) [(Value.string ⟨#[122]⟩), (Value.slice none 0 0)]) L0 fun M0 N0 =>
 RR (sBuild 34 [(0, M0)]) N0 fun O0 P0 =>
 RR (sBuildSlice 23 1 [(0, O0)]) P0 fun Q0 S0 =>
 RR (sBuiltin .append #[23, 23] 23 [false, false] [G0, Q0]) S0 fun T0 U0 =>
 E0 T0 U0 ∧ F0 T0 U0 < F0 G0 H0) (
 z0 G0 L0))) (
 RR (sBin .eql 3 false true A0 (Value.int .i64 1)) D0 fun V0 W0 =>
 CondV V0 (
 RR (sOp (.slice 23 (.const f0) (some (.const (Value.int .i64 1))) none none) 23) W0 fun X0 Y0 =>
 z0 X0 Y0) (
 z0 f0 W0))) ∧
 ∀ _ _ _ _ Z0 _ _ _ _ _ _ _ _ _ _ _ _ : Value, ∀ a1 : World, z0 Z0 a1 →
 R (.returned Z0) a1)))
theorem calls_s_l4MutateAll {p0 p1 : Value} {w : World} {R : Ending → World → Prop} (h : sh_s_l4MutateAll p0 p1 w R) : Calls Tryz.prog 51 #[p0, p1] w R :=
  calls_sh (.seq none .leaf (.seq none .leaf (.seq none (.seq none .leaf (.one (.loop [6, 5] .leaf))) (.seq (some [5]) (.seq none .leaf (.one (.seq none .leaf (.two (.one (.loop [5] .leaf)) .leaf)))) .leaf)))) [p0, p1] mixed Tryz.func51 (by kernel_rfl) (by kernel_rfl) h


/- loop.example/prologserver/spec.l14Two : function 52 -/
def sh_s_l14Two (p0 : Value) (w : World) (R : Ending → World → Prop) : Prop :=
 RR (sCall (Value.func (.func 91) #[] #[]) [p0]) w fun a0 b0 =>
 RR (sCall (Value.func (.func 91) #[] #[]) [p0]) b0 fun c0 d0 =>
 RR (sBuiltin .append #[23, 23] 23 [false, false] [a0, c0]) d0 fun e0 f0 =>
 R (.returned e0) f0
theorem calls_s_l14Two {p0 : Value} {w : World} {R : Ending → World → Prop} (h : sh_s_l14Two p0 w R) : Calls Tryz.prog 52 #[p0] w R :=
  calls_sh .leaf [p0] mixed Tryz.func52 (by kernel_rfl) (by kernel_rfl) h


/- loop.example/prologserver/impl.addPred : function 53 -/
def sh_i_addPred (p0 p1 : Value) (w : World) (R : Ending → World → Prop) : Prop :=
 RR (sOp (.box 36 (.const p1)) 0) w fun a0 b0 =>
 RR (sOp (.load 36 (.const a0)) 36) b0 fun c0 d0 =>
 RR (sCall (Value.func (.func 73) #[] #[]) [p0, c0]) d0 fun e0 f0 =>
 CondV e0 (
 R (.returned p0) f0) (
 RR (sOp (.load 36 (.const a0)) 36) f0 fun g0 h0 =>
 RR (sBuildSlice 25 1 [(0, g0)]) h0 fun i0 j0 =>
 RR (sBuiltin .append #[25, 25] 25 [false, false] [p0, i0]) j0 fun k0 l0 =>
 R (.returned k0) l0)
theorem calls_i_addPred {p0 p1 : Value} {w : World} {R : Ending → World → Prop} (h : sh_i_addPred p0 p1 w R) : Calls Tryz.prog 53 #[p0, p1] w R :=
  calls_sh .leaf [p0, p1] mixed Tryz.func53 (by kernel_rfl) (by kernel_rfl) h


/- loop.example/prologserver/impl.pred : function 54 -/
def sh_i_pred (p0 : Value) (w : World) (R : Ending → World → Prop) : Prop :=
 RR (sOp (.box 32 (.const p0)) 0) w fun a0 b0 =>
 RR (sOp (.alloc 36) 0) b0 fun c0 d0 =>
 RR (sOp (.fieldAddr 32 (.const a0) 2) 0) d0 fun e0 f0 =>
 RR (sOp (.load 9 (.const e0)) 9) f0 fun g0 h0 =>
 RR (sOp (.fieldAddr 32 (.const a0) 3) 0) h0 fun i0 j0 =>
 RR (sOp (.load 30 (.const i0)) 30) j0 fun k0 l0 =>
 RR (sBuiltin .len #[30] 3 [false] [k0]) l0 fun m0 n0 =>
 RR (sBuild 36 [(0, g0), (1, m0)]) n0 fun o0 q0 =>
 RR (sOp (.store 36 (.const c0) (.const o0)) 0) q0 fun _ s0 =>
 (LoadV Tryz.prog 36 c0 s0 fun r0 => R (.returned r0) s0)
theorem calls_i_pred {p0 : Value} {w : World} {R : Ending → World → Prop} (h : sh_i_pred p0 w R) : Calls Tryz.prog 54 #[p0] w R :=
  calls_sh .leaf [p0] mixed Tryz.func54 (by kernel_rfl) (by kernel_rfl) h


/- loop.example/prologserver/spec.ProgramValid : function 55 -/
def sh_s_ProgramValid (p0 : Value) (w : World) (R : Ending → World → Prop) : Prop :=
 (∃ (a0 : Value → World → Prop) (b0 : Value → World → Nat), a0 (Value.int .i64 0) w ∧
 ∀ c0 _ _ _ _ _ _ _ _ _ _ _ _ _ _ _ _ _ : Value, ∀ d0 : World, a0 c0 d0 →
 (∃ e0 : Value → World → Prop, (
 RR (sBuiltin .len #[23] 3 [false] [p0]) d0 fun f0 g0 =>
 RR (sBin .lss 3 false false c0 f0) g0 fun h0 i0 =>
 GuardV h0 true (
 RR (sBin .leq 3 false true c0 (Value.int .i64 20)) i0 fun j0 k0 =>
 RR (sOp (.pick (.const h0) (.const j0) (.const (Value.bool false))) 4) k0 fun l0 m0 =>
 e0 l0 m0) (
 RR (sOp (.pick (.const h0) (.const undef) (.const (Value.bool false))) 4) i0 fun n0 o0 =>
 e0 n0 o0)) ∧
 ∀ q0 _ _ _ _ _ _ _ : Value, ∀ s0 : World, e0 q0 s0 →
 CondV q0 (
 RR (sOp (.indexAddr 23 (.const p0) (.const c0)) 0) s0 fun t0 u0 =>
 RR (sOp (.load 34 (.const t0)) 34) u0 fun v0 w0 =>
 RR (sCall (Value.func (.func 64) #[] #[]) [v0]) w0 fun x0 y0 =>
 RR (sOp (.unOp .not 4 (.const x0)) 4) y0 fun z0 A0 =>
 CondV z0 (
 R (.returned (Value.bool false)) A0) (
 RR (sBin .add 3 false true c0 (Value.int .i64 1)) A0 fun B0 C0 =>
 a0 B0 C0 ∧ b0 B0 C0 < b0 c0 d0)) (
 RR (sBuiltin .len #[23] 3 [false] [p0]) s0 fun D0 E0 =>
 RR (sBin .leq 3 false true D0 (Value.int .i64 20)) E0 fun F0 G0 =>
 R (.returned F0) G0)))
theorem calls_s_ProgramValid {p0 : Value} {w : World} {R : Ending → World → Prop} (h : sh_s_ProgramValid p0 w R) : Calls Tryz.prog 55 #[p0] w R :=
  calls_sh (.seq none .leaf (.seq none (.seq none .leaf (.one (.loop [3] (.seq none (.seq (some [11]) .leaf .leaf) .leaf)))) .leaf)) [p0] mixed Tryz.func55 (by kernel_rfl) (by kernel_rfl) h


/- loop.example/prologserver/spec.l14Preds : function 56 -/
def sh_s_l14Preds (p0 : Value) (w : World) (R : Ending → World → Prop) : Prop :=
 RR (sBuildSlice 25 0 []) w fun a0 b0 =>
 (∃ (c0 : Value → Value → World → Prop) (d0 : Value → Value → World → Nat), c0 (Value.int .i64 0) a0 b0 ∧
 ∀ e0 _ _ f0 _ _ _ _ _ _ _ _ _ _ _ _ : Value, ∀ g0 : World, c0 e0 f0 g0 →
 RR (sBuiltin .len #[23] 3 [false] [p0]) g0 fun h0 i0 =>
 RR (sBin .lss 3 false false e0 h0) i0 fun j0 k0 =>
 CondV j0 (
 RR (sOp (.indexAddr 23 (.const p0) (.const e0)) 0) k0 fun l0 m0 =>
 RR (sOp (.fieldAddr 34 (.const l0) 0) 0) m0 fun n0 o0 =>
 RR (sOp (.load 32 (.const n0)) 32) o0 fun q0 s0 =>
 RR (sCall (Value.func (.func 70) #[] #[]) [q0]) s0 fun t0 u0 =>
 RR (sCall (Value.func (.func 107) #[] #[]) [f0, t0]) u0 fun v0 w0 =>
 RR (sBin .add 3 false true e0 (Value.int .i64 1)) w0 fun x0 y0 =>
 c0 x0 v0 y0 ∧ d0 x0 v0 y0 < d0 e0 f0 g0) (
 R (.returned f0) k0))
theorem calls_s_l14Preds {p0 : Value} {w : World} {R : Ending → World → Prop} (h : sh_s_l14Preds p0 w R) : Calls Tryz.prog 56 #[p0] w R :=
  calls_sh (.seq none .leaf (.seq none .leaf (.seq none (.seq none .leaf (.one (.loop [4, 3] .leaf))) .leaf))) [p0] mixed Tryz.func56 (by kernel_rfl) (by kernel_rfl) h


/- slices.ContainsFunc[[]loop.example/prologserver/impl.Clause,loop.example/prologserver/impl.Clause] : function 57 -/
def sh_x_ContainsFunc_Clause (p0 p1 : Value) (w : World) (R : Ending → World → Prop) : Prop :=
 RR (sCall (Value.func (.func 108) #[] #[]) [p0, p1]) w fun a0 b0 =>
 RR (sBin .geq 3 false true a0 (Value.int .i64 0)) b0 fun c0 d0 =>
 R (.returned c0) d0
theorem calls_x_ContainsFunc_Clause {p0 p1 : Value} {w : World} {R : Ending → World → Prop} (h : sh_x_ContainsFunc_Clause p0 p1 w R) : Calls Tryz.prog 57 #[p0, p1] w R :=
  calls_sh .leaf [p0, p1] mixed Tryz.func57 (by kernel_rfl) (by kernel_rfl) h


/- loop.example/prologserver/impl.ProgramValid$1 : function 58 -/
def sh_i_ProgramValid_1 (p0 : Value) (w : World) (R : Ending → World → Prop) : Prop :=
 RR (sOp (.box 34 (.const p0)) 0) w fun a0 b0 =>
 RR (sOp (.load 34 (.const a0)) 34) b0 fun c0 d0 =>
 RR (sCall (Value.func (.func 22) #[] #[]) [c0]) d0 fun e0 f0 =>
 RR (sOp (.unOp .not 4 (.const e0)) 4) f0 fun g0 h0 =>
 R (.returned g0) h0
theorem calls_i_ProgramValid_1 {p0 : Value} {w : World} {R : Ending → World → Prop} (h : sh_i_ProgramValid_1 p0 w R) : Calls Tryz.prog 58 #[p0] w R :=
  calls_sh .leaf [p0] mixed Tryz.func58 (by kernel_rfl) (by kernel_rfl) h


/- (*loop.example/prologserver/spec.l18Rd).pick : function 61 -/
def sh_s_l18Rd_pick (p0 p1 : Value) (w : World) (R : Ending → World → Prop) : Prop :=
 RR (sOp (.nilCheck (.const p0)) 0) w fun a0 b0 =>
 RR (sOp (.fieldAddr 102 (.const a0) 1) 0) b0 fun c0 d0 =>
 RR (sOp (.load 3 (.const c0)) 3) d0 fun e0 f0 =>
 RR (sBin .add 3 false true e0 (Value.int .i64 1)) f0 fun g0 h0 =>
 RR (sOp (.nilCheck (.const p0)) 0) h0 fun i0 j0 =>
 RR (sOp (.fieldAddr 102 (.const i0) 1) 0) j0 fun k0 l0 =>
 RR (sOp (.store 3 (.const k0) (.const g0)) 0) l0 fun _ m0 =>
 (∃ n0 : Value → World → Prop, (
 RR (sBin .lss 3 false true p1 (Value.int .i64 1)) m0 fun o0 q0 =>
 GuardV o0 false (
 RR (sOp (.nilCheck (.const p0)) 0) q0 fun s0 t0 =>
 RR (sOp (.fieldAddr 102 (.const s0) 0) 0) t0 fun u0 v0 =>
 RR (sOp (.load 22 (.const u0)) 22) v0 fun w0 x0 =>
 RR (sBuiltin .len #[22] 3 [false] [w0]) x0 fun y0 z0 =>
 RR (sBin .eql 3 false true y0 (Value.int .i64 0)) z0 fun A0 B0 =>
 RR (sOp (.pick (.const o0) (.const (Value.bool true)) (.const A0)) 4) B0 fun C0 D0 =>
 n0 C0 D0) (
 RR (sOp (.pick (.const o0) (.const (Value.bool true)) (.const undef)) 4) q0 fun E0 F0 =>
 n0 E0 F0)) ∧
 ∀ G0 _ _ _ _ _ _ _ _ _ : Value, ∀ H0 : World, n0 G0 H0 →
 CondV G0 (
 R (.returned (Value.int .i64 0)) H0) (
 RR (sOp (.nilCheck (.const p0)) 0) H0 fun I0 J0 =>
 RR (sOp (.fieldAddr 102 (.const I0) 1) 0) J0 fun K0 L0 =>
 RR (sOp (.load 3 (.const K0)) 3) L0 fun M0 N0 =>
 RR (sBin .sub 3 false true M0 (Value.int .i64 1)) N0 fun O0 P0 =>
 RR (sOp (.nilCheck (.const p0)) 0) P0 fun Q0 S0 =>
 RR (sOp (.fieldAddr 102 (.const Q0) 0) 0) S0 fun T0 U0 =>
 RR (sOp (.load 22 (.const T0)) 22) U0 fun V0 W0 =>
 RR (sBuiltin .len #[22] 3 [false] [V0]) W0 fun X0 Y0 =>
 RR (sBin .lss 3 false false O0 X0) Y0 fun Z0 a1 =>
 CondV Z0 (
 RR (sOp (.nilCheck (.const p0)) 0) a1 fun b1 c1 =>
 RR (sOp (.fieldAddr 102 (.const b1) 0) 0) c1 fun d1 e1 =>
 RR (sOp (.load 22 (.const d1)) 22) e1 fun f1 g1 =>
 RR (sOp (.indexAddr 22 (.const f1) (.const O0)) 0) g1 fun h1 i1 =>
 RR (sOp (.load 5 (.const h1)) 5) i1 fun j1 k1 =>
 RR (sOp (.convert 5 3 (.const j1)) 3) k1 fun l1 m1 =>
 RR (sBin .rem 3 false false l1 p1) m1 fun n1 o1 =>
 R (.returned n1) o1) (
 (∃ q1 : (Nat → Bool) → Value → Value → Value → Value → Value → Value → Value → Value → Value → Value → Value → Value → Value → Value → Value → Value → Value → Value → Value → Value → Value → Value → Value → Value → Value → Value → Value → Value → Value → Value → Value → Value → Value → Value → Value → Value → Value → Value → Value → Value → Value → Value → Value → Value → Value → Value → World → Prop, q1 (fun _ => false) undef undef undef undef undef undef undef undef undef undef undef undef undef undef undef undef undef undef undef undef undef undef undef undef undef undef undef undef undef undef undef undef undef undef undef undef undef undef undef undef undef undef undef undef undef undef { a1 with drawn := a1.drawn + 1 } ∧ (
 (∀ s1 : Nat → Bool, s1 0 = false → ∀ t1 u1 v1 w1 x1 y1 z1 A1 B1 C1 D1 E1 F1 G1 H1 I1 J1 K1 L1 M1 N1 O1 P1 Q1 S1 T1 U1 V1 W1 X1 Y1 Z1 a2 b2 c2 d2 e2 f2 g2 h2 i2 j2 k2 l2 m2 n2 : Value, ∀ o2 : World, q1 s1 t1 u1 v1 w1 x1 y1 z1 A1 B1 C1 D1 E1 F1 G1 H1 I1 J1 K1 L1 M1 N1 O1 P1 Q1 S1 T1 U1 V1 W1 X1 Y1 Z1 a2 b2 c2 d2 e2 f2 g2 h2 i2 j2 k2 l2 m2 n2 o2 →
 q1 (setD s1 0) t1 u1 v1 w1 x1 y1 z1 A1 B1 C1 D1 E1 F1 G1 H1 I1 J1 K1 L1 M1 N1 O1 P1 Q1 S1 T1 U1 V1 W1 X1 Y1 Z1 a2 b2 c2 d2 e2 f2 g2 h2 i2 j2 k2 l2 m2 p0 o2) ∧
 (∀ s1 : Nat → Bool, s1 1 = false → s1 0 = true → ∀ t1 u1 v1 w1 x1 y1 z1 A1 B1 C1 D1 E1 F1 G1 H1 I1 J1 K1 L1 M1 N1 O1 P1 Q1 S1 T1 U1 V1 W1 X1 Y1 Z1 a2 b2 c2 d2 e2 f2 g2 h2 i2 j2 k2 l2 m2 n2 : Value, ∀ q2 : World, q1 s1 t1 u1 v1 w1 x1 y1 z1 A1 B1 C1 D1 E1 F1 G1 H1 I1 J1 K1 L1 M1 N1 O1 P1 Q1 S1 T1 U1 V1 W1 X1 Y1 Z1 a2 b2 c2 d2 e2 f2 g2 h2 i2 j2 k2 l2 m2 n2 q2 →
 RR (sOp (.nilCheck (.const n2)) 0) q2 fun s2 t2 =>
 q1 (setD s1 1) t1 u1 v1 w1 x1 y1 z1 A1 B1 C1 D1 E1 F1 G1 H1 I1 J1 K1 L1 M1 N1 O1 P1 Q1 S1 T1 U1 V1 W1 X1 Y1 Z1 a2 b2 c2 d2 e2 f2 g2 h2 i2 j2 k2 l2 s2 n2 t2) ∧
 (∀ s1 : Nat → Bool, s1 2 = false → s1 1 = true → ∀ t1 u1 v1 w1 x1 y1 z1 A1 B1 C1 D1 E1 F1 G1 H1 I1 J1 K1 L1 M1 N1 O1 P1 Q1 S1 T1 U1 V1 W1 X1 Y1 Z1 a2 b2 c2 d2 e2 f2 g2 h2 i2 j2 k2 l2 m2 n2 : Value, ∀ u2 : World, q1 s1 t1 u1 v1 w1 x1 y1 z1 A1 B1 C1 D1 E1 F1 G1 H1 I1 J1 K1 L1 M1 N1 O1 P1 Q1 S1 T1 U1 V1 W1 X1 Y1 Z1 a2 b2 c2 d2 e2 f2 g2 h2 i2 j2 k2 l2 m2 n2 u2 →
 RR (sOp (.fieldAddr 102 (.const m2) 0) 0) u2 fun v2 w2 =>
 q1 (setD s1 2) t1 u1 v1 w1 x1 y1 z1 A1 B1 C1 D1 E1 F1 G1 H1 I1 J1 K1 L1 M1 N1 O1 P1 Q1 S1 T1 U1 V1 W1 X1 Y1 Z1 a2 b2 c2 d2 e2 f2 g2 h2 i2 j2 k2 v2 m2 n2 w2) ∧
 (∀ s1 : Nat → Bool, s1 3 = false → s1 2 = true → ∀ t1 u1 v1 w1 x1 y1 z1 A1 B1 C1 D1 E1 F1 G1 H1 I1 J1 K1 L1 M1 N1 O1 P1 Q1 S1 T1 U1 V1 W1 X1 Y1 Z1 a2 b2 c2 d2 e2 f2 g2 h2 i2 j2 k2 l2 m2 n2 : Value, ∀ x2 : World, q1 s1 t1 u1 v1 w1 x1 y1 z1 A1 B1 C1 D1 E1 F1 G1 H1 I1 J1 K1 L1 M1 N1 O1 P1 Q1 S1 T1 U1 V1 W1 X1 Y1 Z1 a2 b2 c2 d2 e2 f2 g2 h2 i2 j2 k2 l2 m2 n2 x2 →
 RR (sOp (.load 22 (.const l2)) 22) x2 fun y2 z2 =>
 q1 (setD s1 3) t1 u1 v1 w1 x1 y1 z1 A1 B1 C1 D1 E1 F1 G1 H1 I1 J1 K1 L1 M1 N1 O1 P1 Q1 S1 T1 U1 V1 W1 X1 Y1 Z1 a2 b2 c2 d2 e2 f2 g2 h2 i2 j2 y2 l2 m2 n2 z2) ∧
 (∀ s1 : Nat → Bool, s1 4 = false → ∀ t1 u1 v1 w1 x1 y1 z1 A1 B1 C1 D1 E1 F1 G1 H1 I1 J1 K1 L1 M1 N1 O1 P1 Q1 S1 T1 U1 V1 W1 X1 Y1 Z1 a2 b2 c2 d2 e2 f2 g2 h2 i2 j2 k2 l2 m2 n2 : Value, ∀ A2 : World, q1 s1 t1 u1 v1 w1 x1 y1 z1 A1 B1 C1 D1 E1 F1 G1 H1 I1 J1 K1 L1 M1 N1 O1 P1 Q1 S1 T1 U1 V1 W1 X1 Y1 Z1 a2 b2 c2 d2 e2 f2 g2 h2 i2 j2 k2 l2 m2 n2 A2 →
 q1 (setD s1 4) t1 u1 v1 w1 x1 y1 z1 A1 B1 C1 D1 E1 F1 G1 H1 I1 J1 K1 L1 M1 N1 O1 P1 Q1 S1 T1 U1 V1 W1 X1 Y1 Z1 a2 b2 c2 d2 e2 f2 g2 h2 i2 O0 k2 l2 m2 n2 A2) ∧
 (∀ s1 : Nat → Bool, s1 5 = false → ∀ t1 u1 v1 w1 x1 y1 z1 A1 B1 C1 D1 E1 F1 G1 H1 I1 J1 K1 L1 M1 N1 O1 P1 Q1 S1 T1 U1 V1 W1 X1 Y1 Z1 a2 b2 c2 d2 e2 f2 g2 h2 i2 j2 k2 l2 m2 n2 : Value, ∀ B2 : World, q1 s1 t1 u1 v1 w1 x1 y1 z1 A1 B1 C1 D1 E1 F1 G1 H1 I1 J1 K1 L1 M1 N1 O1 P1 Q1 S1 T1 U1 V1 W1 X1 Y1 Z1 a2 b2 c2 d2 e2 f2 g2 h2 i2 j2 k2 l2 m2 n2 B2 →
 q1 (setD s1 5) t1 u1 v1 w1 x1 y1 z1 A1 B1 C1 D1 E1 F1 G1 H1 I1 J1 K1 L1 M1 N1 O1 P1 Q1 S1 T1 U1 V1 W1 X1 Y1 Z1 a2 b2 c2 d2 e2 f2 g2 h2 p0 j2 k2 l2 m2 n2 B2) ∧
 (∀ s1 : Nat → Bool, s1 6 = false → s1 5 = true → ∀ t1 u1 v1 w1 x1 y1 z1 A1 B1 C1 D1 E1 F1 G1 H1 I1 J1 K1 L1 M1 N1 O1 P1 Q1 S1 T1 U1 V1 W1 X1 Y1 Z1 a2 b2 c2 d2 e2 f2 g2 h2 i2 j2 k2 l2 m2 n2 : Value, ∀ C2 : World, q1 s1 t1 u1 v1 w1 x1 y1 z1 A1 B1 C1 D1 E1 F1 G1 H1 I1 J1 K1 L1 M1 N1 O1 P1 Q1 S1 T1 U1 V1 W1 X1 Y1 Z1 a2 b2 c2 d2 e2 f2 g2 h2 i2 j2 k2 l2 m2 n2 C2 →
 RR (sOp (.nilCheck (.const i2)) 0) C2 fun D2 E2 =>
 q1 (setD s1 6) t1 u1 v1 w1 x1 y1 z1 A1 B1 C1 D1 E1 F1 G1 H1 I1 J1 K1 L1 M1 N1 O1 P1 Q1 S1 T1 U1 V1 W1 X1 Y1 Z1 a2 b2 c2 d2 e2 f2 g2 D2 i2 j2 k2 l2 m2 n2 E2) ∧
 (∀ s1 : Nat → Bool, s1 7 = false → s1 6 = true → ∀ t1 u1 v1 w1 x1 y1 z1 A1 B1 C1 D1 E1 F1 G1 H1 I1 J1 K1 L1 M1 N1 O1 P1 Q1 S1 T1 U1 V1 W1 X1 Y1 Z1 a2 b2 c2 d2 e2 f2 g2 h2 i2 j2 k2 l2 m2 n2 : Value, ∀ F2 : World, q1 s1 t1 u1 v1 w1 x1 y1 z1 A1 B1 C1 D1 E1 F1 G1 H1 I1 J1 K1 L1 M1 N1 O1 P1 Q1 S1 T1 U1 V1 W1 X1 Y1 Z1 a2 b2 c2 d2 e2 f2 g2 h2 i2 j2 k2 l2 m2 n2 F2 →
 RR (sOp (.fieldAddr 102 (.const h2) 0) 0) F2 fun G2 H2 =>
 q1 (setD s1 7) t1 u1 v1 w1 x1 y1 z1 A1 B1 C1 D1 E1 F1 G1 H1 I1 J1 K1 L1 M1 N1 O1 P1 Q1 S1 T1 U1 V1 W1 X1 Y1 Z1 a2 b2 c2 d2 e2 f2 G2 h2 i2 j2 k2 l2 m2 n2 H2) ∧
 (∀ s1 : Nat → Bool, s1 8 = false → s1 7 = true → ∀ t1 u1 v1 w1 x1 y1 z1 A1 B1 C1 D1 E1 F1 G1 H1 I1 J1 K1 L1 M1 N1 O1 P1 Q1 S1 T1 U1 V1 W1 X1 Y1 Z1 a2 b2 c2 d2 e2 f2 g2 h2 i2 j2 k2 l2 m2 n2 : Value, ∀ I2 : World, q1 s1 t1 u1 v1 w1 x1 y1 z1 A1 B1 C1 D1 E1 F1 G1 H1 I1 J1 K1 L1 M1 N1 O1 P1 Q1 S1 T1 U1 V1 W1 X1 Y1 Z1 a2 b2 c2 d2 e2 f2 g2 h2 i2 j2 k2 l2 m2 n2 I2 →
 RR (sOp (.load 22 (.const g2)) 22) I2 fun J2 K2 =>
 q1 (setD s1 8) t1 u1 v1 w1 x1 y1 z1 A1 B1 C1 D1 E1 F1 G1 H1 I1 J1 K1 L1 M1 N1 O1 P1 Q1 S1 T1 U1 V1 W1 X1 Y1 Z1 a2 b2 c2 d2 e2 J2 g2 h2 i2 j2 k2 l2 m2 n2 K2) ∧
 (∀ s1 : Nat → Bool, s1 9 = false → s1 8 = true → ∀ t1 u1 v1 w1 x1 y1 z1 A1 B1 C1 D1 E1 F1 G1 H1 I1 J1 K1 L1 M1 N1 O1 P1 Q1 S1 T1 U1 V1 W1 X1 Y1 Z1 a2 b2 c2 d2 e2 f2 g2 h2 i2 j2 k2 l2 m2 n2 : Value, ∀ L2 : World, q1 s1 t1 u1 v1 w1 x1 y1 z1 A1 B1 C1 D1 E1 F1 G1 H1 I1 J1 K1 L1 M1 N1 O1 P1 Q1 S1 T1 U1 V1 W1 X1 Y1 Z1 a2 b2 c2 d2 e2 f2 g2 h2 i2 j2 k2 l2 m2 n2 L2 →
 RR (sBuiltin .len #[22] 3 [false] [f2]) L2 fun M2 N2 =>
 q1 (setD s1 9) t1 u1 v1 w1 x1 y1 z1 A1 B1 C1 D1 E1 F1 G1 H1 I1 J1 K1 L1 M1 N1 O1 P1 Q1 S1 T1 U1 V1 W1 X1 Y1 Z1 a2 b2 c2 d2 M2 f2 g2 h2 i2 j2 k2 l2 m2 n2 N2) ∧
 (∀ s1 : Nat → Bool, s1 10 = false → s1 4 = true → s1 9 = true → ∀ t1 u1 v1 w1 x1 y1 z1 A1 B1 C1 D1 E1 F1 G1 H1 I1 J1 K1 L1 M1 N1 O1 P1 Q1 S1 T1 U1 V1 W1 X1 Y1 Z1 a2 b2 c2 d2 e2 f2 g2 h2 i2 j2 k2 l2 m2 n2 : Value, ∀ O2 : World, q1 s1 t1 u1 v1 w1 x1 y1 z1 A1 B1 C1 D1 E1 F1 G1 H1 I1 J1 K1 L1 M1 N1 O1 P1 Q1 S1 T1 U1 V1 W1 X1 Y1 Z1 a2 b2 c2 d2 e2 f2 g2 h2 i2 j2 k2 l2 m2 n2 O2 →
 RR (sBin .rem 3 false false j2 e2) O2 fun P2 Q2 =>
 q1 (setD s1 10) t1 u1 v1 w1 x1 y1 z1 A1 B1 C1 D1 E1 F1 G1 H1 I1 J1 K1 L1 M1 N1 O1 P1 Q1 S1 T1 U1 V1 W1 X1 Y1 Z1 a2 b2 c2 P2 e2 f2 g2 h2 i2 j2 k2 l2 m2 n2 Q2) ∧
 (∀ s1 : Nat → Bool, s1 11 = false → s1 3 = true → s1 10 = true → ∀ t1 u1 v1 w1 x1 y1 z1 A1 B1 C1 D1 E1 F1 G1 H1 I1 J1 K1 L1 M1 N1 O1 P1 Q1 S1 T1 U1 V1 W1 X1 Y1 Z1 a2 b2 c2 d2 e2 f2 g2 h2 i2 j2 k2 l2 m2 n2 : Value, ∀ S2 : World, q1 s1 t1 u1 v1 w1 x1 y1 z1 A1 B1 C1 D1 E1 F1 G1 H1 I1 J1 K1 L1 M1 N1 O1 P1 Q1 S1 T1 U1 V1 W1 X1 Y1 Z1 a2 b2 c2 d2 e2 f2 g2 h2 i2 j2 k2 l2 m2 n2 S2 →
 RR (sOp (.indexAddr 22 (.const k2) (.const d2)) 0) S2 fun T2 U2 =>
 q1 (setD s1 11) t1 u1 v1 w1 x1 y1 z1 A1 B1 C1 D1 E1 F1 G1 H1 I1 J1 K1 L1 M1 N1 O1 P1 Q1 S1 T1 U1 V1 W1 X1 Y1 Z1 a2 b2 T2 d2 e2 f2 g2 h2 i2 j2 k2 l2 m2 n2 U2) ∧
 (∀ s1 : Nat → Bool, s1 12 = false → s1 11 = true → ∀ t1 u1 v1 w1 x1 y1 z1 A1 B1 C1 D1 E1 F1 G1 H1 I1 J1 K1 L1 M1 N1 O1 P1 Q1 S1 T1 U1 V1 W1 X1 Y1 Z1 a2 b2 c2 d2 e2 f2 g2 h2 i2 j2 k2 l2 m2 n2 : Value, ∀ V2 : World, q1 s1 t1 u1 v1 w1 x1 y1 z1 A1 B1 C1 D1 E1 F1 G1 H1 I1 J1 K1 L1 M1 N1 O1 P1 Q1 S1 T1 U1 V1 W1 X1 Y1 Z1 a2 b2 c2 d2 e2 f2 g2 h2 i2 j2 k2 l2 m2 n2 V2 →
 RR (sOp (.load 5 (.const c2)) 5) V2 fun W2 X2 =>
 q1 (setD s1 12) t1 u1 v1 w1 x1 y1 z1 A1 B1 C1 D1 E1 F1 G1 H1 I1 J1 K1 L1 M1 N1 O1 P1 Q1 S1 T1 U1 V1 W1 X1 Y1 Z1 a2 W2 c2 d2 e2 f2 g2 h2 i2 j2 k2 l2 m2 n2 X2) ∧
 (∀ s1 : Nat → Bool, s1 13 = false → s1 12 = true → ∀ t1 u1 v1 w1 x1 y1 z1 A1 B1 C1 D1 E1 F1 G1 H1 I1 J1 K1 L1 M1 N1 O1 P1 Q1 S1 T1 U1 V1 W1 X1 Y1 Z1 a2 b2 c2 d2 e2 f2 g2 h2 i2 j2 k2 l2 m2 n2 : Value, ∀ Y2 : World, q1 s1 t1 u1 v1 w1 x1 y1 z1 A1 B1 C1 D1 E1 F1 G1 H1 I1 J1 K1 L1 M1 N1 O1 P1 Q1 S1 T1 U1 V1 W1 X1 Y1 Z1 a2 b2 c2 d2 e2 f2 g2 h2 i2 j2 k2 l2 m2 n2 Y2 →
 RR (sOp (.convert 5 3 (.const b2)) 3) Y2 fun Z2 a3 =>
 q1 (setD s1 13) t1 u1 v1 w1 x1 y1 z1 A1 B1 C1 D1 E1 F1 G1 H1 I1 J1 K1 L1 M1 N1 O1 P1 Q1 S1 T1 U1 V1 W1 X1 Y1 Z1 Z2 b2 c2 d2 e2 f2 g2 h2 i2 j2 k2 l2 m2 n2 a3) ∧
 (∀ s1 : Nat → Bool, s1 14 = false → s1 13 = true → ∀ t1 u1 v1 w1 x1 y1 z1 A1 B1 C1 D1 E1 F1 G1 H1 I1 J1 K1 L1 M1 N1 O1 P1 Q1 S1 T1 U1 V1 W1 X1 Y1 Z1 a2 b2 c2 d2 e2 f2 g2 h2 i2 j2 k2 l2 m2 n2 : Value, ∀ b3 : World, q1 s1 t1 u1 v1 w1 x1 y1 z1 A1 B1 C1 D1 E1 F1 G1 H1 I1 J1 K1 L1 M1 N1 O1 P1 Q1 S1 T1 U1 V1 W1 X1 Y1 Z1 a2 b2 c2 d2 e2 f2 g2 h2 i2 j2 k2 l2 m2 n2 b3 →
 RR (sBin .mul 3 false true a2 (Value.int .i64 131)) b3 fun c3 d3 =>
 q1 (setD s1 14) t1 u1 v1 w1 x1 y1 z1 A1 B1 C1 D1 E1 F1 G1 H1 I1 J1 K1 L1 M1 N1 O1 P1 Q1 S1 T1 U1 V1 W1 X1 Y1 c3 a2 b2 c2 d2 e2 f2 g2 h2 i2 j2 k2 l2 m2 n2 d3) ∧
 (∀ s1 : Nat → Bool, s1 15 = false → ∀ t1 u1 v1 w1 x1 y1 z1 A1 B1 C1 D1 E1 F1 G1 H1 I1 J1 K1 L1 M1 N1 O1 P1 Q1 S1 T1 U1 V1 W1 X1 Y1 Z1 a2 b2 c2 d2 e2 f2 g2 h2 i2 j2 k2 l2 m2 n2 : Value, ∀ e3 : World, q1 s1 t1 u1 v1 w1 x1 y1 z1 A1 B1 C1 D1 E1 F1 G1 H1 I1 J1 K1 L1 M1 N1 O1 P1 Q1 S1 T1 U1 V1 W1 X1 Y1 Z1 a2 b2 c2 d2 e2 f2 g2 h2 i2 j2 k2 l2 m2 n2 e3 →
 q1 (setD s1 15) t1 u1 v1 w1 x1 y1 z1 A1 B1 C1 D1 E1 F1 G1 H1 I1 J1 K1 L1 M1 N1 O1 P1 Q1 S1 T1 U1 V1 W1 X1 p0 Z1 a2 b2 c2 d2 e2 f2 g2 h2 i2 j2 k2 l2 m2 n2 e3) ∧
 (∀ s1 : Nat → Bool, s1 16 = false → s1 15 = true → ∀ t1 u1 v1 w1 x1 y1 z1 A1 B1 C1 D1 E1 F1 G1 H1 I1 J1 K1 L1 M1 N1 O1 P1 Q1 S1 T1 U1 V1 W1 X1 Y1 Z1 a2 b2 c2 d2 e2 f2 g2 h2 i2 j2 k2 l2 m2 n2 : Value, ∀ f3 : World, q1 s1 t1 u1 v1 w1 x1 y1 z1 A1 B1 C1 D1 E1 F1 G1 H1 I1 J1 K1 L1 M1 N1 O1 P1 Q1 S1 T1 U1 V1 W1 X1 Y1 Z1 a2 b2 c2 d2 e2 f2 g2 h2 i2 j2 k2 l2 m2 n2 f3 →
 RR (sOp (.nilCheck (.const Y1)) 0) f3 fun g3 h3 =>
 q1 (setD s1 16) t1 u1 v1 w1 x1 y1 z1 A1 B1 C1 D1 E1 F1 G1 H1 I1 J1 K1 L1 M1 N1 O1 P1 Q1 S1 T1 U1 V1 W1 g3 Y1 Z1 a2 b2 c2 d2 e2 f2 g2 h2 i2 j2 k2 l2 m2 n2 h3) ∧
 (∀ s1 : Nat → Bool, s1 17 = false → s1 16 = true → ∀ t1 u1 v1 w1 x1 y1 z1 A1 B1 C1 D1 E1 F1 G1 H1 I1 J1 K1 L1 M1 N1 O1 P1 Q1 S1 T1 U1 V1 W1 X1 Y1 Z1 a2 b2 c2 d2 e2 f2 g2 h2 i2 j2 k2 l2 m2 n2 : Value, ∀ i3 : World, q1 s1 t1 u1 v1 w1 x1 y1 z1 A1 B1 C1 D1 E1 F1 G1 H1 I1 J1 K1 L1 M1 N1 O1 P1 Q1 S1 T1 U1 V1 W1 X1 Y1 Z1 a2 b2 c2 d2 e2 f2 g2 h2 i2 j2 k2 l2 m2 n2 i3 →
 RR (sOp (.fieldAddr 102 (.const X1) 0) 0) i3 fun j3 k3 =>
 q1 (setD s1 17) t1 u1 v1 w1 x1 y1 z1 A1 B1 C1 D1 E1 F1 G1 H1 I1 J1 K1 L1 M1 N1 O1 P1 Q1 S1 T1 U1 V1 j3 X1 Y1 Z1 a2 b2 c2 d2 e2 f2 g2 h2 i2 j2 k2 l2 m2 n2 k3) ∧
 (∀ s1 : Nat → Bool, s1 18 = false → s1 17 = true → ∀ t1 u1 v1 w1 x1 y1 z1 A1 B1 C1 D1 E1 F1 G1 H1 I1 J1 K1 L1 M1 N1 O1 P1 Q1 S1 T1 U1 V1 W1 X1 Y1 Z1 a2 b2 c2 d2 e2 f2 g2 h2 i2 j2 k2 l2 m2 n2 : Value, ∀ l3 : World, q1 s1 t1 u1 v1 w1 x1 y1 z1 A1 B1 C1 D1 E1 F1 G1 H1 I1 J1 K1 L1 M1 N1 O1 P1 Q1 S1 T1 U1 V1 W1 X1 Y1 Z1 a2 b2 c2 d2 e2 f2 g2 h2 i2 j2 k2 l2 m2 n2 l3 →
 RR (sOp (.load 22 (.const W1)) 22) l3 fun m3 n3 =>
 q1 (setD s1 18) t1 u1 v1 w1 x1 y1 z1 A1 B1 C1 D1 E1 F1 G1 H1 I1 J1 K1 L1 M1 N1 O1 P1 Q1 S1 T1 U1 m3 W1 X1 Y1 Z1 a2 b2 c2 d2 e2 f2 g2 h2 i2 j2 k2 l2 m2 n2 n3) ∧
 (∀ s1 : Nat → Bool, s1 19 = false → ∀ t1 u1 v1 w1 x1 y1 z1 A1 B1 C1 D1 E1 F1 G1 H1 I1 J1 K1 L1 M1 N1 O1 P1 Q1 S1 T1 U1 V1 W1 X1 Y1 Z1 a2 b2 c2 d2 e2 f2 g2 h2 i2 j2 k2 l2 m2 n2 : Value, ∀ o3 : World, q1 s1 t1 u1 v1 w1 x1 y1 z1 A1 B1 C1 D1 E1 F1 G1 H1 I1 J1 K1 L1 M1 N1 O1 P1 Q1 S1 T1 U1 V1 W1 X1 Y1 Z1 a2 b2 c2 d2 e2 f2 g2 h2 i2 j2 k2 l2 m2 n2 o3 →
 q1 (setD s1 19) t1 u1 v1 w1 x1 y1 z1 A1 B1 C1 D1 E1 F1 G1 H1 I1 J1 K1 L1 M1 N1 O1 P1 Q1 S1 T1 O0 V1 W1 X1 Y1 Z1 a2 b2 c2 d2 e2 f2 g2 h2 i2 j2 k2 l2 m2 n2 o3) ∧
 (∀ s1 : Nat → Bool, s1 20 = false → s1 19 = true → ∀ t1 u1 v1 w1 x1 y1 z1 A1 B1 C1 D1 E1 F1 G1 H1 I1 J1 K1 L1 M1 N1 O1 P1 Q1 S1 T1 U1 V1 W1 X1 Y1 Z1 a2 b2 c2 d2 e2 f2 g2 h2 i2 j2 k2 l2 m2 n2 : Value, ∀ q3 : World, q1 s1 t1 u1 v1 w1 x1 y1 z1 A1 B1 C1 D1 E1 F1 G1 H1 I1 J1 K1 L1 M1 N1 O1 P1 Q1 S1 T1 U1 V1 W1 X1 Y1 Z1 a2 b2 c2 d2 e2 f2 g2 h2 i2 j2 k2 l2 m2 n2 q3 →
 RR (sBin .mul 3 false true U1 (Value.int .i64 7)) q3 fun s3 t3 =>
 q1 (setD s1 20) t1 u1 v1 w1 x1 y1 z1 A1 B1 C1 D1 E1 F1 G1 H1 I1 J1 K1 L1 M1 N1 O1 P1 Q1 S1 s3 U1 V1 W1 X1 Y1 Z1 a2 b2 c2 d2 e2 f2 g2 h2 i2 j2 k2 l2 m2 n2 t3) ∧
 (∀ s1 : Nat → Bool, s1 21 = false → s1 20 = true → ∀ t1 u1 v1 w1 x1 y1 z1 A1 B1 C1 D1 E1 F1 G1 H1 I1 J1 K1 L1 M1 N1 O1 P1 Q1 S1 T1 U1 V1 W1 X1 Y1 Z1 a2 b2 c2 d2 e2 f2 g2 h2 i2 j2 k2 l2 m2 n2 : Value, ∀ u3 : World, q1 s1 t1 u1 v1 w1 x1 y1 z1 A1 B1 C1 D1 E1 F1 G1 H1 I1 J1 K1 L1 M1 N1 O1 P1 Q1 S1 T1 U1 V1 W1 X1 Y1 Z1 a2 b2 c2 d2 e2 f2 g2 h2 i2 j2 k2 l2 m2 n2 u3 →
 RR (sBin .add 3 false true T1 (Value.int .i64 3)) u3 fun v3 w3 =>
 q1 (setD s1 21) t1 u1 v1 w1 x1 y1 z1 A1 B1 C1 D1 E1 F1 G1 H1 I1 J1 K1 L1 M1 N1 O1 P1 Q1 v3 T1 U1 V1 W1 X1 Y1 Z1 a2 b2 c2 d2 e2 f2 g2 h2 i2 j2 k2 l2 m2 n2 w3) ∧
 (∀ s1 : Nat → Bool, s1 22 = false → ∀ t1 u1 v1 w1 x1 y1 z1 A1 B1 C1 D1 E1 F1 G1 H1 I1 J1 K1 L1 M1 N1 O1 P1 Q1 S1 T1 U1 V1 W1 X1 Y1 Z1 a2 b2 c2 d2 e2 f2 g2 h2 i2 j2 k2 l2 m2 n2 : Value, ∀ x3 : World, q1 s1 t1 u1 v1 w1 x1 y1 z1 A1 B1 C1 D1 E1 F1 G1 H1 I1 J1 K1 L1 M1 N1 O1 P1 Q1 S1 T1 U1 V1 W1 X1 Y1 Z1 a2 b2 c2 d2 e2 f2 g2 h2 i2 j2 k2 l2 m2 n2 x3 →
 q1 (setD s1 22) t1 u1 v1 w1 x1 y1 z1 A1 B1 C1 D1 E1 F1 G1 H1 I1 J1 K1 L1 M1 N1 O1 P1 p0 S1 T1 U1 V1 W1 X1 Y1 Z1 a2 b2 c2 d2 e2 f2 g2 h2 i2 j2 k2 l2 m2 n2 x3) ∧
 (∀ s1 : Nat → Bool, s1 23 = false → s1 22 = true → ∀ t1 u1 v1 w1 x1 y1 z1 A1 B1 C1 D1 E1 F1 G1 H1 I1 J1 K1 L1 M1 N1 O1 P1 Q1 S1 T1 U1 V1 W1 X1 Y1 Z1 a2 b2 c2 d2 e2 f2 g2 h2 i2 j2 k2 l2 m2 n2 : Value, ∀ y3 : World, q1 s1 t1 u1 v1 w1 x1 y1 z1 A1 B1 C1 D1 E1 F1 G1 H1 I1 J1 K1 L1 M1 N1 O1 P1 Q1 S1 T1 U1 V1 W1 X1 Y1 Z1 a2 b2 c2 d2 e2 f2 g2 h2 i2 j2 k2 l2 m2 n2 y3 →
 RR (sOp (.nilCheck (.const Q1)) 0) y3 fun z3 A3 =>
 q1 (setD s1 23) t1 u1 v1 w1 x1 y1 z1 A1 B1 C1 D1 E1 F1 G1 H1 I1 J1 K1 L1 M1 N1 O1 z3 Q1 S1 T1 U1 V1 W1 X1 Y1 Z1 a2 b2 c2 d2 e2 f2 g2 h2 i2 j2 k2 l2 m2 n2 A3) ∧
 (∀ s1 : Nat → Bool, s1 24 = false → s1 23 = true → ∀ t1 u1 v1 w1 x1 y1 z1 A1 B1 C1 D1 E1 F1 G1 H1 I1 J1 K1 L1 M1 N1 O1 P1 Q1 S1 T1 U1 V1 W1 X1 Y1 Z1 a2 b2 c2 d2 e2 f2 g2 h2 i2 j2 k2 l2 m2 n2 : Value, ∀ B3 : World, q1 s1 t1 u1 v1 w1 x1 y1 z1 A1 B1 C1 D1 E1 F1 G1 H1 I1 J1 K1 L1 M1 N1 O1 P1 Q1 S1 T1 U1 V1 W1 X1 Y1 Z1 a2 b2 c2 d2 e2 f2 g2 h2 i2 j2 k2 l2 m2 n2 B3 →
 RR (sOp (.fieldAddr 102 (.const P1) 0) 0) B3 fun C3 D3 =>
 q1 (setD s1 24) t1 u1 v1 w1 x1 y1 z1 A1 B1 C1 D1 E1 F1 G1 H1 I1 J1 K1 L1 M1 N1 C3 P1 Q1 S1 T1 U1 V1 W1 X1 Y1 Z1 a2 b2 c2 d2 e2 f2 g2 h2 i2 j2 k2 l2 m2 n2 D3) ∧
 (∀ s1 : Nat → Bool, s1 25 = false → s1 24 = true → ∀ t1 u1 v1 w1 x1 y1 z1 A1 B1 C1 D1 E1 F1 G1 H1 I1 J1 K1 L1 M1 N1 O1 P1 Q1 S1 T1 U1 V1 W1 X1 Y1 Z1 a2 b2 c2 d2 e2 f2 g2 h2 i2 j2 k2 l2 m2 n2 : Value, ∀ E3 : World, q1 s1 t1 u1 v1 w1 x1 y1 z1 A1 B1 C1 D1 E1 F1 G1 H1 I1 J1 K1 L1 M1 N1 O1 P1 Q1 S1 T1 U1 V1 W1 X1 Y1 Z1 a2 b2 c2 d2 e2 f2 g2 h2 i2 j2 k2 l2 m2 n2 E3 →
 RR (sOp (.load 22 (.const O1)) 22) E3 fun F3 G3 =>
 q1 (setD s1 25) t1 u1 v1 w1 x1 y1 z1 A1 B1 C1 D1 E1 F1 G1 H1 I1 J1 K1 L1 M1 F3 O1 P1 Q1 S1 T1 U1 V1 W1 X1 Y1 Z1 a2 b2 c2 d2 e2 f2 g2 h2 i2 j2 k2 l2 m2 n2 G3) ∧
 (∀ s1 : Nat → Bool, s1 26 = false → s1 25 = true → ∀ t1 u1 v1 w1 x1 y1 z1 A1 B1 C1 D1 E1 F1 G1 H1 I1 J1 K1 L1 M1 N1 O1 P1 Q1 S1 T1 U1 V1 W1 X1 Y1 Z1 a2 b2 c2 d2 e2 f2 g2 h2 i2 j2 k2 l2 m2 n2 : Value, ∀ H3 : World, q1 s1 t1 u1 v1 w1 x1 y1 z1 A1 B1 C1 D1 E1 F1 G1 H1 I1 J1 K1 L1 M1 N1 O1 P1 Q1 S1 T1 U1 V1 W1 X1 Y1 Z1 a2 b2 c2 d2 e2 f2 g2 h2 i2 j2 k2 l2 m2 n2 H3 →
 RR (sBuiltin .len #[22] 3 [false] [N1]) H3 fun I3 J3 =>
 q1 (setD s1 26) t1 u1 v1 w1 x1 y1 z1 A1 B1 C1 D1 E1 F1 G1 H1 I1 J1 K1 L1 I3 N1 O1 P1 Q1 S1 T1 U1 V1 W1 X1 Y1 Z1 a2 b2 c2 d2 e2 f2 g2 h2 i2 j2 k2 l2 m2 n2 J3) ∧
 (∀ s1 : Nat → Bool, s1 27 = false → s1 21 = true → s1 26 = true → ∀ t1 u1 v1 w1 x1 y1 z1 A1 B1 C1 D1 E1 F1 G1 H1 I1 J1 K1 L1 M1 N1 O1 P1 Q1 S1 T1 U1 V1 W1 X1 Y1 Z1 a2 b2 c2 d2 e2 f2 g2 h2 i2 j2 k2 l2 m2 n2 : Value, ∀ K3 : World, q1 s1 t1 u1 v1 w1 x1 y1 z1 A1 B1 C1 D1 E1 F1 G1 H1 I1 J1 K1 L1 M1 N1 O1 P1 Q1 S1 T1 U1 V1 W1 X1 Y1 Z1 a2 b2 c2 d2 e2 f2 g2 h2 i2 j2 k2 l2 m2 n2 K3 →
 RR (sBin .rem 3 false false S1 M1) K3 fun L3 M3 =>
 q1 (setD s1 27) t1 u1 v1 w1 x1 y1 z1 A1 B1 C1 D1 E1 F1 G1 H1 I1 J1 K1 L3 M1 N1 O1 P1 Q1 S1 T1 U1 V1 W1 X1 Y1 Z1 a2 b2 c2 d2 e2 f2 g2 h2 i2 j2 k2 l2 m2 n2 M3) ∧
 (∀ s1 : Nat → Bool, s1 28 = false → s1 18 = true → s1 27 = true → ∀ t1 u1 v1 w1 x1 y1 z1 A1 B1 C1 D1 E1 F1 G1 H1 I1 J1 K1 L1 M1 N1 O1 P1 Q1 S1 T1 U1 V1 W1 X1 Y1 Z1 a2 b2 c2 d2 e2 f2 g2 h2 i2 j2 k2 l2 m2 n2 : Value, ∀ N3 : World, q1 s1 t1 u1 v1 w1 x1 y1 z1 A1 B1 C1 D1 E1 F1 G1 H1 I1 J1 K1 L1 M1 N1 O1 P1 Q1 S1 T1 U1 V1 W1 X1 Y1 Z1 a2 b2 c2 d2 e2 f2 g2 h2 i2 j2 k2 l2 m2 n2 N3 →
 RR (sOp (.indexAddr 22 (.const V1) (.const L1)) 0) N3 fun O3 P3 =>
 q1 (setD s1 28) t1 u1 v1 w1 x1 y1 z1 A1 B1 C1 D1 E1 F1 G1 H1 I1 J1 O3 L1 M1 N1 O1 P1 Q1 S1 T1 U1 V1 W1 X1 Y1 Z1 a2 b2 c2 d2 e2 f2 g2 h2 i2 j2 k2 l2 m2 n2 P3) ∧
 (∀ s1 : Nat → Bool, s1 29 = false → s1 28 = true → ∀ t1 u1 v1 w1 x1 y1 z1 A1 B1 C1 D1 E1 F1 G1 H1 I1 J1 K1 L1 M1 N1 O1 P1 Q1 S1 T1 U1 V1 W1 X1 Y1 Z1 a2 b2 c2 d2 e2 f2 g2 h2 i2 j2 k2 l2 m2 n2 : Value, ∀ Q3 : World, q1 s1 t1 u1 v1 w1 x1 y1 z1 A1 B1 C1 D1 E1 F1 G1 H1 I1 J1 K1 L1 M1 N1 O1 P1 Q1 S1 T1 U1 V1 W1 X1 Y1 Z1 a2 b2 c2 d2 e2 f2 g2 h2 i2 j2 k2 l2 m2 n2 Q3 →
 RR (sOp (.load 5 (.const K1)) 5) Q3 fun S3 T3 =>
 q1 (setD s1 29) t1 u1 v1 w1 x1 y1 z1 A1 B1 C1 D1 E1 F1 G1 H1 I1 S3 K1 L1 M1 N1 O1 P1 Q1 S1 T1 U1 V1 W1 X1 Y1 Z1 a2 b2 c2 d2 e2 f2 g2 h2 i2 j2 k2 l2 m2 n2 T3) ∧
 (∀ s1 : Nat → Bool, s1 30 = false → s1 29 = true → ∀ t1 u1 v1 w1 x1 y1 z1 A1 B1 C1 D1 E1 F1 G1 H1 I1 J1 K1 L1 M1 N1 O1 P1 Q1 S1 T1 U1 V1 W1 X1 Y1 Z1 a2 b2 c2 d2 e2 f2 g2 h2 i2 j2 k2 l2 m2 n2 : Value, ∀ U3 : World, q1 s1 t1 u1 v1 w1 x1 y1 z1 A1 B1 C1 D1 E1 F1 G1 H1 I1 J1 K1 L1 M1 N1 O1 P1 Q1 S1 T1 U1 V1 W1 X1 Y1 Z1 a2 b2 c2 d2 e2 f2 g2 h2 i2 j2 k2 l2 m2 n2 U3 →
 RR (sOp (.convert 5 3 (.const J1)) 3) U3 fun V3 W3 =>
 q1 (setD s1 30) t1 u1 v1 w1 x1 y1 z1 A1 B1 C1 D1 E1 F1 G1 H1 V3 J1 K1 L1 M1 N1 O1 P1 Q1 S1 T1 U1 V1 W1 X1 Y1 Z1 a2 b2 c2 d2 e2 f2 g2 h2 i2 j2 k2 l2 m2 n2 W3) ∧
 (∀ s1 : Nat → Bool, s1 31 = false → s1 30 = true → ∀ t1 u1 v1 w1 x1 y1 z1 A1 B1 C1 D1 E1 F1 G1 H1 I1 J1 K1 L1 M1 N1 O1 P1 Q1 S1 T1 U1 V1 W1 X1 Y1 Z1 a2 b2 c2 d2 e2 f2 g2 h2 i2 j2 k2 l2 m2 n2 : Value, ∀ X3 : World, q1 s1 t1 u1 v1 w1 x1 y1 z1 A1 B1 C1 D1 E1 F1 G1 H1 I1 J1 K1 L1 M1 N1 O1 P1 Q1 S1 T1 U1 V1 W1 X1 Y1 Z1 a2 b2 c2 d2 e2 f2 g2 h2 i2 j2 k2 l2 m2 n2 X3 →
 RR (sBin .mul 3 false true I1 (Value.int .i64 1117)) X3 fun Y3 Z3 =>
 q1 (setD s1 31) t1 u1 v1 w1 x1 y1 z1 A1 B1 C1 D1 E1 F1 G1 Y3 I1 J1 K1 L1 M1 N1 O1 P1 Q1 S1 T1 U1 V1 W1 X1 Y1 Z1 a2 b2 c2 d2 e2 f2 g2 h2 i2 j2 k2 l2 m2 n2 Z3) ∧
 (∀ s1 : Nat → Bool, s1 32 = false → s1 14 = true → s1 31 = true → ∀ t1 u1 v1 w1 x1 y1 z1 A1 B1 C1 D1 E1 F1 G1 H1 I1 J1 K1 L1 M1 N1 O1 P1 Q1 S1 T1 U1 V1 W1 X1 Y1 Z1 a2 b2 c2 d2 e2 f2 g2 h2 i2 j2 k2 l2 m2 n2 : Value, ∀ a4 : World, q1 s1 t1 u1 v1 w1 x1 y1 z1 A1 B1 C1 D1 E1 F1 G1 H1 I1 J1 K1 L1 M1 N1 O1 P1 Q1 S1 T1 U1 V1 W1 X1 Y1 Z1 a2 b2 c2 d2 e2 f2 g2 h2 i2 j2 k2 l2 m2 n2 a4 →
 RR (sBin .add 3 false false Z1 H1) a4 fun b4 c4 =>
 q1 (setD s1 32) t1 u1 v1 w1 x1 y1 z1 A1 B1 C1 D1 E1 F1 b4 H1 I1 J1 K1 L1 M1 N1 O1 P1 Q1 S1 T1 U1 V1 W1 X1 Y1 Z1 a2 b2 c2 d2 e2 f2 g2 h2 i2 j2 k2 l2 m2 n2 c4) ∧
 (∀ s1 : Nat → Bool, s1 33 = false → ∀ t1 u1 v1 w1 x1 y1 z1 A1 B1 C1 D1 E1 F1 G1 H1 I1 J1 K1 L1 M1 N1 O1 P1 Q1 S1 T1 U1 V1 W1 X1 Y1 Z1 a2 b2 c2 d2 e2 f2 g2 h2 i2 j2 k2 l2 m2 n2 : Value, ∀ d4 : World, q1 s1 t1 u1 v1 w1 x1 y1 z1 A1 B1 C1 D1 E1 F1 G1 H1 I1 J1 K1 L1 M1 N1 O1 P1 Q1 S1 T1 U1 V1 W1 X1 Y1 Z1 a2 b2 c2 d2 e2 f2 g2 h2 i2 j2 k2 l2 m2 n2 d4 →
 q1 (setD s1 33) t1 u1 v1 w1 x1 y1 z1 A1 B1 C1 D1 E1 O0 G1 H1 I1 J1 K1 L1 M1 N1 O1 P1 Q1 S1 T1 U1 V1 W1 X1 Y1 Z1 a2 b2 c2 d2 e2 f2 g2 h2 i2 j2 k2 l2 m2 n2 d4) ∧
 (∀ s1 : Nat → Bool, s1 34 = false → s1 33 = true → ∀ t1 u1 v1 w1 x1 y1 z1 A1 B1 C1 D1 E1 F1 G1 H1 I1 J1 K1 L1 M1 N1 O1 P1 Q1 S1 T1 U1 V1 W1 X1 Y1 Z1 a2 b2 c2 d2 e2 f2 g2 h2 i2 j2 k2 l2 m2 n2 : Value, ∀ e4 : World, q1 s1 t1 u1 v1 w1 x1 y1 z1 A1 B1 C1 D1 E1 F1 G1 H1 I1 J1 K1 L1 M1 N1 O1 P1 Q1 S1 T1 U1 V1 W1 X1 Y1 Z1 a2 b2 c2 d2 e2 f2 g2 h2 i2 j2 k2 l2 m2 n2 e4 →
 RR (sBin .mul 3 false true F1 (Value.int .i64 29)) e4 fun f4 g4 =>
 q1 (setD s1 34) t1 u1 v1 w1 x1 y1 z1 A1 B1 C1 D1 f4 F1 G1 H1 I1 J1 K1 L1 M1 N1 O1 P1 Q1 S1 T1 U1 V1 W1 X1 Y1 Z1 a2 b2 c2 d2 e2 f2 g2 h2 i2 j2 k2 l2 m2 n2 g4) ∧
 (∀ s1 : Nat → Bool, s1 35 = false → s1 32 = true → s1 34 = true → ∀ t1 u1 v1 w1 x1 y1 z1 A1 B1 C1 D1 E1 F1 G1 H1 I1 J1 K1 L1 M1 N1 O1 P1 Q1 S1 T1 U1 V1 W1 X1 Y1 Z1 a2 b2 c2 d2 e2 f2 g2 h2 i2 j2 k2 l2 m2 n2 : Value, ∀ h4 : World, q1 s1 t1 u1 v1 w1 x1 y1 z1 A1 B1 C1 D1 E1 F1 G1 H1 I1 J1 K1 L1 M1 N1 O1 P1 Q1 S1 T1 U1 V1 W1 X1 Y1 Z1 a2 b2 c2 d2 e2 f2 g2 h2 i2 j2 k2 l2 m2 n2 h4 →
 RR (sBin .add 3 false false G1 E1) h4 fun i4 j4 =>
 q1 (setD s1 35) t1 u1 v1 w1 x1 y1 z1 A1 B1 C1 i4 E1 F1 G1 H1 I1 J1 K1 L1 M1 N1 O1 P1 Q1 S1 T1 U1 V1 W1 X1 Y1 Z1 a2 b2 c2 d2 e2 f2 g2 h2 i2 j2 k2 l2 m2 n2 j4) ∧
 (∀ s1 : Nat → Bool, s1 36 = false → ∀ t1 u1 v1 w1 x1 y1 z1 A1 B1 C1 D1 E1 F1 G1 H1 I1 J1 K1 L1 M1 N1 O1 P1 Q1 S1 T1 U1 V1 W1 X1 Y1 Z1 a2 b2 c2 d2 e2 f2 g2 h2 i2 j2 k2 l2 m2 n2 : Value, ∀ k4 : World, q1 s1 t1 u1 v1 w1 x1 y1 z1 A1 B1 C1 D1 E1 F1 G1 H1 I1 J1 K1 L1 M1 N1 O1 P1 Q1 S1 T1 U1 V1 W1 X1 Y1 Z1 a2 b2 c2 d2 e2 f2 g2 h2 i2 j2 k2 l2 m2 n2 k4 →
 q1 (setD s1 36) t1 u1 v1 w1 x1 y1 z1 A1 B1 O0 D1 E1 F1 G1 H1 I1 J1 K1 L1 M1 N1 O1 P1 Q1 S1 T1 U1 V1 W1 X1 Y1 Z1 a2 b2 c2 d2 e2 f2 g2 h2 i2 j2 k2 l2 m2 n2 k4) ∧
 (∀ s1 : Nat → Bool, s1 37 = false → ∀ t1 u1 v1 w1 x1 y1 z1 A1 B1 C1 D1 E1 F1 G1 H1 I1 J1 K1 L1 M1 N1 O1 P1 Q1 S1 T1 U1 V1 W1 X1 Y1 Z1 a2 b2 c2 d2 e2 f2 g2 h2 i2 j2 k2 l2 m2 n2 : Value, ∀ l4 : World, q1 s1 t1 u1 v1 w1 x1 y1 z1 A1 B1 C1 D1 E1 F1 G1 H1 I1 J1 K1 L1 M1 N1 O1 P1 Q1 S1 T1 U1 V1 W1 X1 Y1 Z1 a2 b2 c2 d2 e2 f2 g2 h2 i2 j2 k2 l2 m2 n2 l4 →
 q1 (setD s1 37) t1 u1 v1 w1 x1 y1 z1 A1 p0 C1 D1 E1 F1 G1 H1 I1 J1 K1 L1 M1 N1 O1 P1 Q1 S1 T1 U1 V1 W1 X1 Y1 Z1 a2 b2 c2 d2 e2 f2 g2 h2 i2 j2 k2 l2 m2 n2 l4) ∧
 (∀ s1 : Nat → Bool, s1 38 = false → s1 37 = true → ∀ t1 u1 v1 w1 x1 y1 z1 A1 B1 C1 D1 E1 F1 G1 H1 I1 J1 K1 L1 M1 N1 O1 P1 Q1 S1 T1 U1 V1 W1 X1 Y1 Z1 a2 b2 c2 d2 e2 f2 g2 h2 i2 j2 k2 l2 m2 n2 : Value, ∀ m4 : World, q1 s1 t1 u1 v1 w1 x1 y1 z1 A1 B1 C1 D1 E1 F1 G1 H1 I1 J1 K1 L1 M1 N1 O1 P1 Q1 S1 T1 U1 V1 W1 X1 Y1 Z1 a2 b2 c2 d2 e2 f2 g2 h2 i2 j2 k2 l2 m2 n2 m4 →
 RR (sOp (.nilCheck (.const B1)) 0) m4 fun n4 o4 =>
 q1 (setD s1 38) t1 u1 v1 w1 x1 y1 z1 n4 B1 C1 D1 E1 F1 G1 H1 I1 J1 K1 L1 M1 N1 O1 P1 Q1 S1 T1 U1 V1 W1 X1 Y1 Z1 a2 b2 c2 d2 e2 f2 g2 h2 i2 j2 k2 l2 m2 n2 o4) ∧
 (∀ s1 : Nat → Bool, s1 39 = false → s1 38 = true → ∀ t1 u1 v1 w1 x1 y1 z1 A1 B1 C1 D1 E1 F1 G1 H1 I1 J1 K1 L1 M1 N1 O1 P1 Q1 S1 T1 U1 V1 W1 X1 Y1 Z1 a2 b2 c2 d2 e2 f2 g2 h2 i2 j2 k2 l2 m2 n2 : Value, ∀ q4 : World, q1 s1 t1 u1 v1 w1 x1 y1 z1 A1 B1 C1 D1 E1 F1 G1 H1 I1 J1 K1 L1 M1 N1 O1 P1 Q1 S1 T1 U1 V1 W1 X1 Y1 Z1 a2 b2 c2 d2 e2 f2 g2 h2 i2 j2 k2 l2 m2 n2 q4 →
 RR (sOp (.fieldAddr 102 (.const A1) 0) 0) q4 fun s4 t4 =>
 q1 (setD s1 39) t1 u1 v1 w1 x1 y1 s4 A1 B1 C1 D1 E1 F1 G1 H1 I1 J1 K1 L1 M1 N1 O1 P1 Q1 S1 T1 U1 V1 W1 X1 Y1 Z1 a2 b2 c2 d2 e2 f2 g2 h2 i2 j2 k2 l2 m2 n2 t4) ∧
 (∀ s1 : Nat → Bool, s1 40 = false → s1 39 = true → ∀ t1 u1 v1 w1 x1 y1 z1 A1 B1 C1 D1 E1 F1 G1 H1 I1 J1 K1 L1 M1 N1 O1 P1 Q1 S1 T1 U1 V1 W1 X1 Y1 Z1 a2 b2 c2 d2 e2 f2 g2 h2 i2 j2 k2 l2 m2 n2 : Value, ∀ u4 : World, q1 s1 t1 u1 v1 w1 x1 y1 z1 A1 B1 C1 D1 E1 F1 G1 H1 I1 J1 K1 L1 M1 N1 O1 P1 Q1 S1 T1 U1 V1 W1 X1 Y1 Z1 a2 b2 c2 d2 e2 f2 g2 h2 i2 j2 k2 l2 m2 n2 u4 →
 RR (sOp (.load 22 (.const z1)) 22) u4 fun v4 w4 =>
 q1 (setD s1 40) t1 u1 v1 w1 x1 v4 z1 A1 B1 C1 D1 E1 F1 G1 H1 I1 J1 K1 L1 M1 N1 O1 P1 Q1 S1 T1 U1 V1 W1 X1 Y1 Z1 a2 b2 c2 d2 e2 f2 g2 h2 i2 j2 k2 l2 m2 n2 w4) ∧
 (∀ s1 : Nat → Bool, s1 41 = false → s1 40 = true → ∀ t1 u1 v1 w1 x1 y1 z1 A1 B1 C1 D1 E1 F1 G1 H1 I1 J1 K1 L1 M1 N1 O1 P1 Q1 S1 T1 U1 V1 W1 X1 Y1 Z1 a2 b2 c2 d2 e2 f2 g2 h2 i2 j2 k2 l2 m2 n2 : Value, ∀ x4 : World, q1 s1 t1 u1 v1 w1 x1 y1 z1 A1 B1 C1 D1 E1 F1 G1 H1 I1 J1 K1 L1 M1 N1 O1 P1 Q1 S1 T1 U1 V1 W1 X1 Y1 Z1 a2 b2 c2 d2 e2 f2 g2 h2 i2 j2 k2 l2 m2 n2 x4 →
 RR (sBuiltin .len #[22] 3 [false] [y1]) x4 fun y4 z4 =>
 q1 (setD s1 41) t1 u1 v1 w1 y4 y1 z1 A1 B1 C1 D1 E1 F1 G1 H1 I1 J1 K1 L1 M1 N1 O1 P1 Q1 S1 T1 U1 V1 W1 X1 Y1 Z1 a2 b2 c2 d2 e2 f2 g2 h2 i2 j2 k2 l2 m2 n2 z4) ∧
 (∀ s1 : Nat → Bool, s1 42 = false → s1 36 = true → s1 41 = true → ∀ t1 u1 v1 w1 x1 y1 z1 A1 B1 C1 D1 E1 F1 G1 H1 I1 J1 K1 L1 M1 N1 O1 P1 Q1 S1 T1 U1 V1 W1 X1 Y1 Z1 a2 b2 c2 d2 e2 f2 g2 h2 i2 j2 k2 l2 m2 n2 : Value, ∀ A4 : World, q1 s1 t1 u1 v1 w1 x1 y1 z1 A1 B1 C1 D1 E1 F1 G1 H1 I1 J1 K1 L1 M1 N1 O1 P1 Q1 S1 T1 U1 V1 W1 X1 Y1 Z1 a2 b2 c2 d2 e2 f2 g2 h2 i2 j2 k2 l2 m2 n2 A4 →
 RR (sBin .quo 3 false false C1 x1) A4 fun B4 C4 =>
 q1 (setD s1 42) t1 u1 v1 B4 x1 y1 z1 A1 B1 C1 D1 E1 F1 G1 H1 I1 J1 K1 L1 M1 N1 O1 P1 Q1 S1 T1 U1 V1 W1 X1 Y1 Z1 a2 b2 c2 d2 e2 f2 g2 h2 i2 j2 k2 l2 m2 n2 C4) ∧
 (∀ s1 : Nat → Bool, s1 43 = false → s1 42 = true → ∀ t1 u1 v1 w1 x1 y1 z1 A1 B1 C1 D1 E1 F1 G1 H1 I1 J1 K1 L1 M1 N1 O1 P1 Q1 S1 T1 U1 V1 W1 X1 Y1 Z1 a2 b2 c2 d2 e2 f2 g2 h2 i2 j2 k2 l2 m2 n2 : Value, ∀ D4 : World, q1 s1 t1 u1 v1 w1 x1 y1 z1 A1 B1 C1 D1 E1 F1 G1 H1 I1 J1 K1 L1 M1 N1 O1 P1 Q1 S1 T1 U1 V1 W1 X1 Y1 Z1 a2 b2 c2 d2 e2 f2 g2 h2 i2 j2 k2 l2 m2 n2 D4 →
 RR (sBin .mul 3 false true w1 (Value.int .i64 53)) D4 fun E4 F4 =>
 q1 (setD s1 43) t1 u1 E4 w1 x1 y1 z1 A1 B1 C1 D1 E1 F1 G1 H1 I1 J1 K1 L1 M1 N1 O1 P1 Q1 S1 T1 U1 V1 W1 X1 Y1 Z1 a2 b2 c2 d2 e2 f2 g2 h2 i2 j2 k2 l2 m2 n2 F4) ∧
 (∀ s1 : Nat → Bool, s1 44 = false → s1 35 = true → s1 43 = true → ∀ t1 u1 v1 w1 x1 y1 z1 A1 B1 C1 D1 E1 F1 G1 H1 I1 J1 K1 L1 M1 N1 O1 P1 Q1 S1 T1 U1 V1 W1 X1 Y1 Z1 a2 b2 c2 d2 e2 f2 g2 h2 i2 j2 k2 l2 m2 n2 : Value, ∀ G4 : World, q1 s1 t1 u1 v1 w1 x1 y1 z1 A1 B1 C1 D1 E1 F1 G1 H1 I1 J1 K1 L1 M1 N1 O1 P1 Q1 S1 T1 U1 V1 W1 X1 Y1 Z1 a2 b2 c2 d2 e2 f2 g2 h2 i2 j2 k2 l2 m2 n2 G4 →
 RR (sBin .add 3 false false D1 v1) G4 fun H4 I4 =>
 q1 (setD s1 44) t1 H4 v1 w1 x1 y1 z1 A1 B1 C1 D1 E1 F1 G1 H1 I1 J1 K1 L1 M1 N1 O1 P1 Q1 S1 T1 U1 V1 W1 X1 Y1 Z1 a2 b2 c2 d2 e2 f2 g2 h2 i2 j2 k2 l2 m2 n2 I4) ∧
 (∀ s1 : Nat → Bool, s1 45 = false → s1 44 = true → s1 0 = true → s1 1 = true → s1 2 = true → s1 3 = true → s1 4 = true → s1 5 = true → s1 6 = true → s1 7 = true → s1 8 = true → s1 9 = true → s1 10 = true → s1 11 = true → s1 12 = true → s1 13 = true → s1 14 = true → s1 15 = true → s1 16 = true → s1 17 = true → s1 18 = true → s1 19 = true → s1 20 = true → s1 21 = true → s1 22 = true → s1 23 = true → s1 24 = true → s1 25 = true → s1 26 = true → s1 27 = true → s1 28 = true → s1 29 = true → s1 30 = true → s1 31 = true → s1 32 = true → s1 33 = true → s1 34 = true → s1 35 = true → s1 36 = true → s1 37 = true → s1 38 = true → s1 39 = true → s1 40 = true → s1 41 = true → s1 42 = true → s1 43 = true → s1 44 = true → ∀ t1 u1 v1 w1 x1 y1 z1 A1 B1 C1 D1 E1 F1 G1 H1 I1 J1 K1 L1 M1 N1 O1 P1 Q1 S1 T1 U1 V1 W1 X1 Y1 Z1 a2 b2 c2 d2 e2 f2 g2 h2 i2 j2 k2 l2 m2 n2 : Value, ∀ J4 : World, q1 s1 t1 u1 v1 w1 x1 y1 z1 A1 B1 C1 D1 E1 F1 G1 H1 I1 J1 K1 L1 M1 N1 O1 P1 Q1 S1 T1 U1 V1 W1 X1 Y1 Z1 a2 b2 c2 d2 e2 f2 g2 h2 i2 j2 k2 l2 m2 n2 J4 →
 q1 (setD s1 45) u1 u1 v1 w1 x1 y1 z1 A1 B1 C1 D1 E1 F1 G1 H1 I1 J1 K1 L1 M1 N1 O1 P1 Q1 S1 T1 U1 V1 W1 X1 Y1 Z1 a2 b2 c2 d2 e2 f2 g2 h2 i2 j2 k2 l2 m2 n2 J4) ∧
 True) ∧
 ∀ s1 : Nat → Bool, s1 45 = true → s1 44 = true → s1 43 = true → s1 42 = true → s1 41 = true → s1 40 = true → s1 39 = true → s1 38 = true → s1 37 = true → s1 36 = true → s1 35 = true → s1 34 = true → s1 33 = true → s1 32 = true → s1 31 = true → s1 30 = true → s1 29 = true → s1 28 = true → s1 27 = true → s1 26 = true → s1 25 = true → s1 24 = true → s1 23 = true → s1 22 = true → s1 21 = true → s1 20 = true → s1 19 = true → s1 18 = true → s1 17 = true → s1 16 = true → s1 15 = true → s1 14 = true → s1 13 = true → s1 12 = true → s1 11 = true → s1 10 = true → s1 9 = true → s1 8 = true → s1 7 = true → s1 6 = true → s1 5 = true → s1 4 = true → s1 3 = true → s1 2 = true → s1 1 = true → s1 0 = true → ∀ t1 u1 v1 w1 x1 y1 z1 A1 B1 C1 D1 E1 F1 G1 H1 I1 J1 K1 L1 M1 N1 O1 P1 Q1 S1 T1 U1 V1 W1 X1 Y1 Z1 a2 b2 c2 d2 e2 f2 g2 h2 i2 j2 k2 l2 m2 n2 : Value, ∀ K4 : World, q1 s1 t1 u1 v1 w1 x1 y1 z1 A1 B1 C1 D1 E1 F1 G1 H1 I1 J1 K1 L1 M1 N1 O1 P1 Q1 S1 T1 U1 V1 W1 X1 Y1 Z1 a2 b2 c2 d2 e2 f2 g2 h2 i2 j2 k2 l2 m2 n2 K4 →
 RR (sBin .quo 3 false true t1 (Value.int .i64 64)) K4 fun L4 M4 =>
 RR (sBin .xor 3 false false t1 L4) M4 fun N4 O4 =>
 RR (sBin .rem 3 false false N4 p1) O4 fun P4 Q4 =>
 R (.returned P4) Q4))))
theorem calls_s_l18Rd_pick {p0 p1 : Value} {w : World} {R : Ending → World → Prop} (h : sh_s_l18Rd_pick p0 p1 w R) : Calls Tryz.prog 61 #[p0, p1] w R :=
  calls_sh (.seq none .leaf (.seq none .leaf (.seq none (.seq (some [24]) .leaf .leaf) .leaf))) [p0, p1] mixed Tryz.func61 (by kernel_rfl) (by kernel_rfl) h


/- loop.example/prologserver/spec.l4Mutate : function 62 -/
def sh_s_l4Mutate (p0 p1 : Value) (w : World) (R : Ending → World → Prop) : Prop :=
 RR (sOp (.box 34 (.const p1)) 0) w fun a0 b0 =>
 RR (sOp (.alloc 34) 0) b0 fun c0 d0 =>
 RR (sOp (.load 34 (.const a0)) 34) d0 fun e0 f0 =>
 RR (sCall (Value.func (.func 111) #[] #[]) [e0]) f0 fun g0 h0 =>
 RR (sOp (.alloc 34) 0) h0 fun i0 j0 =>
 RR (sOp (.store 34 (.const i0) (.const g0)) 0) j0 fun _u k0 =>
 (∃ l0 : World → Prop, (
 RR (sCall (Value.func (.func 61) #[] #[]) [p0, (Value.int .i64 40)]) k0 fun m0 n0 =>
 RR (sBin .eql 3 false true m0 (Value.int .i64 0)) n0 fun o0 q0 =>
 CondV o0 (
 RR (sCall (Value.func (.func 113) #[] #[]) [p0]) q0 fun s0 t0 =>
 RR (sCall (Value.func (.func 112) #[] #[]) [p0, s0]) t0 fun u0 v0 =>
 RR (sOp (.fieldAddr 34 (.const i0) 0) 0) v0 fun w0 x0 =>
 RR (sOp (.store 32 (.const w0) (.const u0)) 0) x0 fun _u y0 =>
 l0 y0) (
 RR (sBin .eql 3 false true m0 (Value.int .i64 1)) q0 fun z0 A0 =>
 CondV z0 (
 (∃ B0 : (Nat → Bool) → Value → Value → Value → Value → Value → Value → Value → Value → Value → World → Prop, B0 (fun _ => false) undef undef undef undef undef undef undef undef undef { A0 with drawn := A0.drawn + 1 } ∧ (
 (∀ C0 : Nat → Bool, C0 0 = false → ∀ D0 E0 F0 G0 H0 I0 J0 K0 L0 : Value, ∀ M0 : World, B0 C0 D0 E0 F0 G0 H0 I0 J0 K0 L0 M0 →
 RR (sOp (.fieldAddr 34 (.const i0) 1) 0) M0 fun N0 O0 =>
 B0 (setD C0 0) D0 E0 F0 G0 H0 I0 J0 K0 N0 O0) ∧
 (∀ C0 : Nat → Bool, C0 1 = false → C0 0 = true → ∀ D0 E0 F0 G0 H0 I0 J0 K0 L0 : Value, ∀ P0 : World, B0 C0 D0 E0 F0 G0 H0 I0 J0 K0 L0 P0 →
 RR (sOp (.load 30 (.const L0)) 30) P0 fun Q0 S0 =>
 B0 (setD C0 1) D0 E0 F0 G0 H0 I0 J0 Q0 L0 S0) ∧
 (∀ C0 : Nat → Bool, C0 2 = false → ∀ D0 E0 F0 G0 H0 I0 J0 K0 L0 : Value, ∀ T0 : World, B0 C0 D0 E0 F0 G0 H0 I0 J0 K0 L0 T0 →
 B0 (setD C0 2) D0 E0 F0 G0 H0 I0 p0 K0 L0 T0) ∧
 (∀ C0 : Nat → Bool, C0 3 = false → ∀ D0 E0 F0 G0 H0 I0 J0 K0 L0 : Value, ∀ U0 : World, B0 C0 D0 E0 F0 G0 H0 I0 J0 K0 L0 U0 →
 B0 (setD C0 3) D0 E0 F0 G0 H0 p0 J0 K0 L0 U0) ∧
 (∀ C0 : Nat → Bool, C0 4 = false → C0 3 = true → ∀ D0 E0 F0 G0 H0 I0 J0 K0 L0 : Value, ∀ V0 : World, B0 C0 D0 E0 F0 G0 H0 I0 J0 K0 L0 V0 →
 RR (sCall (Value.func (.func 113) #[] #[]) [I0]) V0 fun W0 X0 =>
 B0 (setD C0 4) D0 E0 F0 G0 W0 I0 J0 K0 L0 X0) ∧
 (∀ C0 : Nat → Bool, C0 5 = false → C0 2 = true → C0 4 = true → C0 4 = true → ∀ D0 E0 F0 G0 H0 I0 J0 K0 L0 : Value, ∀ Y0 : World, B0 C0 D0 E0 F0 G0 H0 I0 J0 K0 L0 Y0 →
 RR (sCall (Value.func (.func 112) #[] #[]) [J0, H0]) Y0 fun Z0 a1 =>
 B0 (setD C0 5) D0 E0 F0 Z0 H0 I0 J0 K0 L0 a1) ∧
 (∀ C0 : Nat → Bool, C0 6 = false → C0 5 = true → ∀ D0 E0 F0 G0 H0 I0 J0 K0 L0 : Value, ∀ b1 : World, B0 C0 D0 E0 F0 G0 H0 I0 J0 K0 L0 b1 →
 RR (sBuildSlice 30 1 [(0, G0)]) b1 fun c1 d1 =>
 B0 (setD C0 6) D0 E0 c1 G0 H0 I0 J0 K0 L0 d1) ∧
 (∀ C0 : Nat → Bool, C0 7 = false → C0 1 = true → C0 6 = true → C0 5 = true → ∀ D0 E0 F0 G0 H0 I0 J0 K0 L0 : Value, ∀ e1 : World, B0 C0 D0 E0 F0 G0 H0 I0 J0 K0 L0 e1 →
 RR (sBuiltin .append #[30, 30] 30 [false, false] [K0, F0]) e1 fun f1 g1 =>
 B0 (setD C0 7) D0 f1 F0 G0 H0 I0 J0 K0 L0 g1) ∧
 (∀ C0 : Nat → Bool, C0 8 = false → C0 0 = true → C0 1 = true → C0 2 = true → C0 3 = true → C0 4 = true → C0 5 = true → C0 6 = true → C0 7 = true → ∀ D0 E0 F0 G0 H0 I0 J0 K0 L0 : Value, ∀ h1 : World, B0 C0 D0 E0 F0 G0 H0 I0 J0 K0 L0 h1 →
 RR (sOp (.fieldAddr 34 (.const i0) 1) 0) h1 fun i1 j1 =>
 B0 (setD C0 8) i1 E0 F0 G0 H0 I0 J0 K0 L0 j1) ∧
 (∀ C0 : Nat → Bool, C0 9 = false → C0 8 = true → C0 7 = true → C0 7 = true → C0 0 = true → C0 1 = true → C0 2 = true → C0 3 = true → C0 4 = true → C0 5 = true → C0 6 = true → C0 7 = true → ∀ D0 E0 F0 G0 H0 I0 J0 K0 L0 : Value, ∀ k1 : World, B0 C0 D0 E0 F0 G0 H0 I0 J0 K0 L0 k1 →
 RR (sOp (.store 30 (.const D0) (.const E0)) 0) k1 fun _u l1 =>
 B0 (setD C0 9) D0 E0 F0 G0 H0 I0 J0 K0 L0 l1) ∧
 True) ∧
 ∀ C0 : Nat → Bool, C0 9 = true → C0 8 = true → C0 7 = true → C0 6 = true → C0 5 = true → C0 4 = true → C0 3 = true → C0 2 = true → C0 1 = true → C0 0 = true → ∀ D0 E0 F0 G0 H0 I0 J0 K0 L0 : Value, ∀ m1 : World, B0 C0 D0 E0 F0 G0 H0 I0 J0 K0 L0 m1 →
 l0 m1)) (
 RR (sBin .eql 3 false true m0 (Value.int .i64 2)) A0 fun n1 o1 =>
 CondV n1 (
 (∃ (q1 : World → Prop) (s1 : World → Nat), q1 o1 ∧
 ∀ t1 u1 v1 w1 x1 y1 _ _ _ _ : Value, ∀ z1 : World, q1 z1 →
 RR (sOp (.fieldAddr 34 (.const i0) 1) 0) z1 fun A1 B1 =>
 RR (sOp (.load 30 (.const A1)) 30) B1 fun C1 D1 =>
 RR (sBuiltin .len #[30] 3 [false] [C1]) D1 fun E1 F1 =>
 RR (sBin .leq 3 false true E1 (Value.int .i64 6)) F1 fun G1 H1 =>
 CondV G1 (
 (∃ I1 : (Nat → Bool) → Value → Value → Value → Value → Value → Value → World → Prop, I1 (fun _ => false) t1 u1 v1 w1 x1 y1 { H1 with drawn := H1.drawn + 1 } ∧ (
 (∀ J1 : Nat → Bool, J1 0 = false → ∀ K1 L1 M1 N1 O1 P1 : Value, ∀ Q1 : World, I1 J1 K1 L1 M1 N1 O1 P1 Q1 →
 RR (sOp (.fieldAddr 34 (.const i0) 1) 0) Q1 fun S1 T1 =>
 I1 (setD J1 0) K1 L1 M1 N1 O1 S1 T1) ∧
 (∀ J1 : Nat → Bool, J1 1 = false → J1 0 = true → ∀ K1 L1 M1 N1 O1 P1 : Value, ∀ U1 : World, I1 J1 K1 L1 M1 N1 O1 P1 U1 →
 RR (sOp (.load 30 (.const P1)) 30) U1 fun V1 W1 =>
 I1 (setD J1 1) K1 L1 M1 N1 V1 P1 W1) ∧
 (∀ J1 : Nat → Bool, J1 2 = false → ∀ K1 L1 M1 N1 O1 P1 : Value, ∀ X1 : World, I1 J1 K1 L1 M1 N1 O1 P1 X1 →
 RR (sCall (Value.func (.func 106) #[] #[]) [(Value.string ⟨#[116, 114, 117, 101]⟩), (Value.slice none 0 0)]) X1 fun Y1 Z1 =>
 I1 (setD J1 2) K1 L1 M1 Y1 O1 P1 Z1) ∧
 (∀ J1 : Nat → Bool, J1 3 = false → J1 2 = true → ∀ K1 L1 M1 N1 O1 P1 : Value, ∀ a2 : World, I1 J1 K1 L1 M1 N1 O1 P1 a2 →
 RR (sBuildSlice 30 1 [(0, N1)]) a2 fun b2 c2 =>
 I1 (setD J1 3) K1 L1 b2 N1 O1 P1 c2) ∧
 (∀ J1 : Nat → Bool, J1 4 = false → J1 1 = true → J1 3 = true → J1 2 = true → ∀ K1 L1 M1 N1 O1 P1 : Value, ∀ d2 : World, I1 J1 K1 L1 M1 N1 O1 P1 d2 →
 RR (sBuiltin .append #[30, 30] 30 [false, false] [O1, M1]) d2 fun e2 f2 =>
 I1 (setD J1 4) K1 e2 M1 N1 O1 P1 f2) ∧
 (∀ J1 : Nat → Bool, J1 5 = false → J1 0 = true → J1 1 = true → J1 2 = true → J1 3 = true → J1 4 = true → ∀ K1 L1 M1 N1 O1 P1 : Value, ∀ g2 : World, I1 J1 K1 L1 M1 N1 O1 P1 g2 →
 RR (sOp (.fieldAddr 34 (.const i0) 1) 0) g2 fun h2 i2 =>
 I1 (setD J1 5) h2 L1 M1 N1 O1 P1 i2) ∧
 (∀ J1 : Nat → Bool, J1 6 = false → J1 5 = true → J1 4 = true → J1 4 = true → J1 0 = true → J1 1 = true → J1 2 = true → J1 3 = true → J1 4 = true → ∀ K1 L1 M1 N1 O1 P1 : Value, ∀ j2 : World, I1 J1 K1 L1 M1 N1 O1 P1 j2 →
 RR (sOp (.store 30 (.const K1) (.const L1)) 0) j2 fun _u k2 =>
 I1 (setD J1 6) K1 L1 M1 N1 O1 P1 k2) ∧
 True) ∧
 ∀ J1 : Nat → Bool, J1 6 = true → J1 5 = true → J1 4 = true → J1 3 = true → J1 2 = true → J1 1 = true → J1 0 = true → ∀ K1 L1 M1 N1 O1 P1 : Value, ∀ l2 : World, I1 J1 K1 L1 M1 N1 O1 P1 l2 →
 q1 l2 ∧ s1 l2 < s1 z1)) (
 l0 H1))) (
 RR (sBin .eql 3 false true m0 (Value.int .i64 3)) o1 fun m2 n2 =>
 CondV m2 (
 RR (sBuildSlice 82 5 [(0, (Value.string ⟨#[116, 114, 117, 101]⟩)), (1, (Value.string ⟨#[105, 115]⟩)), (2, (Value.string ⟨#[61]⟩)), (3, (Value.string ⟨#[109, 111, 100]⟩)), (4, (Value.string ⟨#[113]⟩))]) n2 fun o2 q2 =>
 RR (sCall (Value.func (.func 109) #[] #[]) [p0, o2]) q2 fun s2 t2 =>
 RR (sOp (.fieldAddr 34 (.const i0) 0) 0) t2 fun u2 v2 =>
 RR (sOp (.fieldAddr 32 (.const u2) 2) 0) v2 fun w2 x2 =>
 RR (sOp (.store 9 (.const w2) (.const s2)) 0) x2 fun _u y2 =>
 l0 y2) (
 l0 n2))))) ∧
 ∀ _ _ _ _ _ _ _ _ _ _ _ _ _ _ _ _ _ _ _ _ _ _ _ _ _ _ _ _ _ _ _ _ _ _ _ _ _ _ _ : Value, ∀ z2 : World, l0 z2 →
 RR (sOp (.load 34 (.const i0)) 34) z2 fun A2 B2 =>
 RR (sOp (.store 34 (.const c0) (.const A2)) 0) B2 fun _ C2 =>
 (LoadV Tryz.prog 34 c0 C2 fun r0 => R (.returned r0) C2))
theorem calls_s_l4Mutate {p0 p1 : Value} {w : World} {R : Ending → World → Prop} (h : sh_s_l4Mutate p0 p1 w R) : Calls Tryz.prog 62 #[p0, p1] w R :=
  calls_sh (.seq none .leaf (.seq none .leaf (.seq (some []) (.seq none .leaf (.one (.seq none .leaf (.two .leaf (.seq none .leaf (.two .leaf (.seq none .leaf (.two (.one (.loop [] .leaf)) .leaf)))))))) .leaf))) [p0, p1] mixed Tryz.func62 (by kernel_rfl) (by kernel_rfl) h


/- loop.example/prologserver/spec.ClauseValid : function 64 -/
def sh_s_ClauseValid (p0 : Value) (w : World) (R : Ending → World → Prop) : Prop :=
 RR (sOp (.box 34 (.const p0)) 0) w fun a0 b0 =>
 (∃ (c0 : Value → World → Prop) (d0 : Value → World → Nat), c0 (Value.int .i64 0) b0 ∧
 ∀ e0 _ _ _ _ _ _ _ _ _ _ _ _ _ _ _ _ _ _ _ : Value, ∀ f0 : World, c0 e0 f0 →
 (∃ g0 : Value → World → Prop, (
 RR (sOp (.fieldAddr 34 (.const a0) 1) 0) f0 fun h0 i0 =>
 RR (sOp (.load 30 (.const h0)) 30) i0 fun j0 k0 =>
 RR (sBuiltin .len #[30] 3 [false] [j0]) k0 fun l0 m0 =>
 RR (sBin .lss 3 false false e0 l0) m0 fun n0 o0 =>
 GuardV n0 true (
 RR (sBin .leq 3 false true e0 (Value.int .i64 6)) o0 fun q0 s0 =>
 RR (sOp (.pick (.const n0) (.const q0) (.const (Value.bool false))) 4) s0 fun t0 u0 =>
 g0 t0 u0) (
 RR (sOp (.pick (.const n0) (.const undef) (.const (Value.bool false))) 4) o0 fun v0 w0 =>
 g0 v0 w0)) ∧
 ∀ x0 _ _ _ _ _ _ _ _ : Value, ∀ y0 : World, g0 x0 y0 →
 CondV x0 (
 RR (sOp (.fieldAddr 34 (.const a0) 1) 0) y0 fun z0 A0 =>
 RR (sOp (.load 30 (.const z0)) 30) A0 fun B0 C0 =>
 RR (sOp (.indexAddr 30 (.const B0) (.const e0)) 0) C0 fun D0 E0 =>
 RR (sOp (.load 32 (.const D0)) 32) E0 fun F0 G0 =>
 RR (sCall (Value.func (.func 114) #[] #[]) [F0]) G0 fun H0 I0 =>
 RR (sOp (.unOp .not 4 (.const H0)) 4) I0 fun J0 K0 =>
 CondV J0 (
 R (.returned (Value.bool false)) K0) (
 RR (sBin .add 3 false true e0 (Value.int .i64 1)) K0 fun L0 M0 =>
 c0 L0 M0 ∧ d0 L0 M0 < d0 e0 f0)) (
 RR (sOp (.fieldAddr 34 (.const a0) 1) 0) y0 fun N0 O0 =>
 RR (sOp (.load 30 (.const N0)) 30) O0 fun P0 Q0 =>
 RR (sBuiltin .len #[30] 3 [false] [P0]) Q0 fun S0 T0 =>
 RR (sBin .leq 3 false true S0 (Value.int .i64 6)) T0 fun U0 V0 =>
 GuardV U0 true (
 RR (sOp (.fieldAddr 34 (.const a0) 0) 0) V0 fun W0 X0 =>
 RR (sOp (.load 32 (.const W0)) 32) X0 fun Y0 Z0 =>
 RR (sCall (Value.func (.func 115) #[] #[]) [Y0]) Z0 fun a1 b1 =>
 RR (sOp (.pick (.const U0) (.const a1) (.const (Value.bool false))) 4) b1 fun c1 d1 =>
 GuardV c1 true (
 RR (sOp (.fieldAddr 34 (.const a0) 0) 0) d1 fun e1 f1 =>
 RR (sOp (.load 32 (.const e1)) 32) f1 fun g1 h1 =>
 RR (sCall (Value.func (.func 116) #[] #[]) [g1]) h1 fun i1 j1 =>
 RR (sOp (.pick (.const c1) (.const i1) (.const (Value.bool false))) 4) j1 fun k1 l1 =>
 R (.returned k1) l1) (
 RR (sOp (.pick (.const c1) (.const undef) (.const (Value.bool false))) 4) d1 fun m1 n1 =>
 R (.returned m1) n1)) (
 RR (sOp (.pick (.const U0) (.const undef) (.const (Value.bool false))) 4) V0 fun o1 q1 =>
 GuardV o1 true (
 RR (sOp (.fieldAddr 34 (.const a0) 0) 0) q1 fun s1 t1 =>
 RR (sOp (.load 32 (.const s1)) 32) t1 fun u1 v1 =>
 RR (sCall (Value.func (.func 116) #[] #[]) [u1]) v1 fun w1 x1 =>
 RR (sOp (.pick (.const o1) (.const w1) (.const (Value.bool false))) 4) x1 fun y1 z1 =>
 R (.returned y1) z1) (
 RR (sOp (.pick (.const o1) (.const undef) (.const (Value.bool false))) 4) q1 fun A1 B1 =>
 R (.returned A1) B1)))))
theorem calls_s_ClauseValid {p0 : Value} {w : World} {R : Ending → World → Prop} (h : sh_s_ClauseValid p0 w R) : Calls Tryz.prog 64 #[p0] w R :=
  calls_sh (.seq none .leaf (.seq none (.seq none .leaf (.one (.loop [3] (.seq none (.seq (some [12]) .leaf .leaf) .leaf)))) .leaf)) [p0] mixed Tryz.func64 (by kernel_rfl) (by kernel_rfl) h


/- loop.example/prologserver/impl.TermValid : function 66 -/
def sh_i_TermValid (p0 : Value) (w : World) (R : Ending → World → Prop) : Prop :=
 RR (sOp (.box 32 (.const p0)) 0) w fun a0 b0 =>
 RR (sOp (.alloc 3) 0) b0 fun c0 d0 =>
 RR (sOp (.store 3 (.const c0) (.const (Value.int .i64 0))) 0) d0 fun _ e0 =>
 RR (sOp (.load 32 (.const a0)) 32) e0 fun f0 g0 =>
 RR (sCall (Value.func (.func 118) #[] #[]) [f0, (Value.int .i64 1), c0]) g0 fun h0 i0 =>
 R (.returned h0) i0
theorem calls_i_TermValid {p0 : Value} {w : World} {R : Ending → World → Prop} (h : sh_i_TermValid p0 w R) : Calls Tryz.prog 66 #[p0] w R :=
  calls_sh .leaf [p0] mixed Tryz.func66 (by kernel_rfl) (by kernel_rfl) h


/- loop.example/prologserver/impl.isPlain : function 67 -/
def sh_i_isPlain (p0 : Value) (w : World) (R : Ending → World → Prop) : Prop :=
 RR (sOp (.box 32 (.const p0)) 0) w fun a0 b0 =>
 RR (sOp (.fieldAddr 32 (.const a0) 0) 0) b0 fun c0 d0 =>
 RR (sOp (.load 3 (.const c0)) 3) d0 fun e0 f0 =>
 RR (sBin .eql 3 false true e0 (Value.int .i64 3)) f0 fun g0 h0 =>
 GuardV g0 true (
 RR (sOp (.fieldAddr 32 (.const a0) 2) 0) h0 fun i0 j0 =>
 RR (sOp (.load 9 (.const i0)) 9) j0 fun k0 l0 =>
 RR (sCall (Value.func (.func 119) #[] #[]) [k0]) l0 fun m0 n0 =>
 RR (sOp (.pick (.const g0) (.const m0) (.const (Value.bool false))) 4) n0 fun o0 q0 =>
 GuardV o0 true (
 RR (sOp (.fieldAddr 32 (.const a0) 2) 0) q0 fun s0 t0 =>
 RR (sOp (.load 9 (.const s0)) 9) t0 fun u0 v0 =>
 RR (sCall (Value.func (.func 120) #[] #[]) [u0]) v0 fun w0 x0 =>
 RR (sOp (.unOp .not 4 (.const w0)) 4) x0 fun y0 z0 =>
 RR (sOp (.pick (.const o0) (.const y0) (.const (Value.bool false))) 4) z0 fun A0 B0 =>
 GuardV A0 true (
 RR (sOp (.load 32 (.const a0)) 32) B0 fun C0 D0 =>
 RR (sCall (Value.func (.func 121) #[] #[]) [C0]) D0 fun E0 F0 =>
 RR (sOp (.unOp .not 4 (.const E0)) 4) F0 fun G0 H0 =>
 RR (sOp (.pick (.const A0) (.const G0) (.const (Value.bool false))) 4) H0 fun I0 J0 =>
 R (.returned I0) J0) (
 RR (sOp (.pick (.const A0) (.const undef) (.const (Value.bool false))) 4) B0 fun K0 L0 =>
 R (.returned K0) L0)) (
 RR (sOp (.pick (.const o0) (.const undef) (.const (Value.bool false))) 4) q0 fun M0 N0 =>
 GuardV M0 true (
 RR (sOp (.load 32 (.const a0)) 32) N0 fun O0 P0 =>
 RR (sCall (Value.func (.func 121) #[] #[]) [O0]) P0 fun Q0 S0 =>
 RR (sOp (.unOp .not 4 (.const Q0)) 4) S0 fun T0 U0 =>
 RR (sOp (.pick (.const M0) (.const T0) (.const (Value.bool false))) 4) U0 fun V0 W0 =>
 R (.returned V0) W0) (
 RR (sOp (.pick (.const M0) (.const undef) (.const (Value.bool false))) 4) N0 fun X0 Y0 =>
 R (.returned X0) Y0))) (
 RR (sOp (.pick (.const g0) (.const undef) (.const (Value.bool false))) 4) h0 fun Z0 a1 =>
 GuardV Z0 true (
 RR (sOp (.fieldAddr 32 (.const a0) 2) 0) a1 fun b1 c1 =>
 RR (sOp (.load 9 (.const b1)) 9) c1 fun d1 e1 =>
 RR (sCall (Value.func (.func 120) #[] #[]) [d1]) e1 fun f1 g1 =>
 RR (sOp (.unOp .not 4 (.const f1)) 4) g1 fun h1 i1 =>
 RR (sOp (.pick (.const Z0) (.const h1) (.const (Value.bool false))) 4) i1 fun j1 k1 =>
 GuardV j1 true (
 RR (sOp (.load 32 (.const a0)) 32) k1 fun l1 m1 =>
 RR (sCall (Value.func (.func 121) #[] #[]) [l1]) m1 fun n1 o1 =>
 RR (sOp (.unOp .not 4 (.const n1)) 4) o1 fun q1 s1 =>
 RR (sOp (.pick (.const j1) (.const q1) (.const (Value.bool false))) 4) s1 fun t1 u1 =>
 R (.returned t1) u1) (
 RR (sOp (.pick (.const j1) (.const undef) (.const (Value.bool false))) 4) k1 fun v1 w1 =>
 R (.returned v1) w1)) (
 RR (sOp (.pick (.const Z0) (.const undef) (.const (Value.bool false))) 4) a1 fun x1 y1 =>
 GuardV x1 true (
 RR (sOp (.load 32 (.const a0)) 32) y1 fun z1 A1 =>
 RR (sCall (Value.func (.func 121) #[] #[]) [z1]) A1 fun B1 C1 =>
 RR (sOp (.unOp .not 4 (.const B1)) 4) C1 fun D1 E1 =>
 RR (sOp (.pick (.const x1) (.const D1) (.const (Value.bool false))) 4) E1 fun F1 G1 =>
 R (.returned F1) G1) (
 RR (sOp (.pick (.const x1) (.const undef) (.const (Value.bool false))) 4) y1 fun H1 I1 =>
 R (.returned H1) I1)))
theorem calls_i_isPlain {p0 : Value} {w : World} {R : Ending → World → Prop} (h : sh_i_isPlain p0 w R) : Calls Tryz.prog 67 #[p0] w R :=
  calls_sh .leaf [p0] mixed Tryz.func67 (by kernel_rfl) (by kernel_rfl) h


/- loop.example/prologserver/impl.goalsValid : function 68 -/
def sh_i_goalsValid (p0 : Value) (w : World) (R : Ending → World → Prop) : Prop :=
 RR (sBuiltin .len #[30] 3 [false] [p0]) w fun a0 b0 =>
 RR (sBin .leq 3 false true a0 (Value.int .i64 6)) b0 fun c0 d0 =>
 GuardV c0 true (
 RR (sCall (Value.func (.func 122) #[] #[]) [p0, (Value.func (.func 123) #[] #[])]) d0 fun e0 f0 =>
 RR (sOp (.unOp .not 4 (.const e0)) 4) f0 fun g0 h0 =>
 RR (sOp (.pick (.const c0) (.const g0) (.const (Value.bool false))) 4) h0 fun i0 j0 =>
 R (.returned i0) j0) (
 RR (sOp (.pick (.const c0) (.const undef) (.const (Value.bool false))) 4) d0 fun k0 l0 =>
 R (.returned k0) l0)
theorem calls_i_goalsValid {p0 : Value} {w : World} {R : Ending → World → Prop} (h : sh_i_goalsValid p0 w R) : Calls Tryz.prog 68 #[p0] w R :=
  calls_sh .leaf [p0] mixed Tryz.func68 (by kernel_rfl) (by kernel_rfl) h


/- loop.example/prologserver/spec.l14Of : function 70 -/
def sh_s_l14Of (p0 : Value) (w : World) (R : Ending → World → Prop) : Prop :=
 RR (sOp (.box 32 (.const p0)) 0) w fun a0 b0 =>
 RR (sOp (.alloc 36) 0) b0 fun c0 d0 =>
 RR (sOp (.fieldAddr 32 (.const a0) 2) 0) d0 fun e0 f0 =>
 RR (sOp (.load 9 (.const e0)) 9) f0 fun g0 h0 =>
 RR (sOp (.fieldAddr 32 (.const a0) 3) 0) h0 fun i0 j0 =>
 RR (sOp (.load 30 (.const i0)) 30) j0 fun k0 l0 =>
 RR (sBuiltin .len #[30] 3 [false] [k0]) l0 fun m0 n0 =>
 RR (sBuild 36 [(0, g0), (1, m0)]) n0 fun o0 q0 =>
 RR (sOp (.store 36 (.const c0) (.const o0)) 0) q0 fun _ s0 =>
 (LoadV Tryz.prog 36 c0 s0 fun r0 => R (.returned r0) s0)
theorem calls_s_l14Of {p0 : Value} {w : World} {R : Ending → World → Prop} (h : sh_s_l14Of p0 w R) : Calls Tryz.prog 70 #[p0] w R :=
  calls_sh .leaf [p0] mixed Tryz.func70 (by kernel_rfl) (by kernel_rfl) h


/- loop.example/prologserver/spec.ParseProgram : function 72 -/
def sh_s_ParseProgram (p0 : Value) (w : World) (R : Ending → World → Prop) : Prop :=
 RR (sBuildSlice 23 0 []) w fun a0 b0 =>
 RR (sCall (Value.func (.func 125) #[] #[]) [p0, (Value.int .u8 10)]) b0 fun c0 d0 =>
 (∃ e0 : Value → World → Prop, (
 RR (sBuiltin .len #[82] 3 [false] [c0]) d0 fun f0 g0 =>
 RR (sBin .gtr 3 false true f0 (Value.int .i64 21)) g0 fun h0 i0 =>
 GuardV h0 false (
 RR (sBuiltin .len #[82] 3 [false] [c0]) i0 fun j0 k0 =>
 RR (sBin .sub 3 false true j0 (Value.int .i64 1)) k0 fun l0 m0 =>
 RR (sOp (.indexAddr 82 (.const c0) (.const l0)) 0) m0 fun n0 o0 =>
 RR (sOp (.load 9 (.const n0)) 9) o0 fun q0 s0 =>
 RR (sBin .neq 9 false true q0 (Value.string ⟨#[]⟩)) s0 fun t0 u0 =>
 RR (sOp (.pick (.const h0) (.const (Value.bool true)) (.const t0)) 4) u0 fun v0 w0 =>
 e0 v0 w0) (
 RR (sOp (.pick (.const h0) (.const (Value.bool true)) (.const undef)) 4) i0 fun x0 y0 =>
 e0 x0 y0)) ∧
 ∀ z0 _ _ _ _ _ _ _ _ _ _ _ : Value, ∀ A0 : World, e0 z0 A0 →
 CondV z0 (
 R (.returned (.tuple #[a0, (Value.bool false)])) A0) (
 (∃ (B0 : Value → Value → World → Prop) (C0 : Value → Value → World → Nat), B0 (Value.int .i64 0) a0 A0 ∧
 ∀ D0 _ _ E0 _ _ _ _ _ _ _ _ _ _ _ _ _ _ _ _ _ _ _ _ _ _ _ _ : Value, ∀ F0 : World, B0 D0 E0 F0 →
 RR (sBin .add 3 false true D0 (Value.int .i64 1)) F0 fun G0 H0 =>
 RR (sBuiltin .len #[82] 3 [false] [c0]) H0 fun I0 J0 =>
 RR (sBin .lss 3 false false G0 I0) J0 fun K0 L0 =>
 CondV K0 (
 RR (sOp (.indexAddr 82 (.const c0) (.const D0)) 0) L0 fun M0 N0 =>
 RR (sOp (.load 9 (.const M0)) 9) N0 fun O0 P0 =>
 RR (sCall (Value.func (.func 126) #[] #[]) [O0]) P0 fun Q0 S0 =>
 RR (sOp (.extract (.const Q0) 0) 34) S0 fun T0 U0 =>
 RR (sOp (.extract (.const Q0) 1) 4) U0 fun V0 W0 =>
 RR (sOp (.alloc 34) 0) W0 fun X0 Y0 =>
 RR (sOp (.store 34 (.const X0) (.const T0)) 0) Y0 fun _ Z0 =>
 RR (sOp (.unOp .not 4 (.const V0)) 4) Z0 fun a1 b1 =>
 CondV a1 (
 RR (sBuildSlice 23 0 []) b1 fun c1 d1 =>
 R (.returned (.tuple #[c1, (Value.bool false)])) d1) (
 RR (sOp (.load 34 (.const X0)) 34) b1 fun e1 f1 =>
 RR (sBuildSlice 23 1 [(0, e1)]) f1 fun g1 h1 =>
 RR (sBuiltin .append #[23, 23] 23 [false, false] [E0, g1]) h1 fun i1 j1 =>
 RR (sBin .add 3 false true D0 (Value.int .i64 1)) j1 fun k1 l1 =>
 B0 k1 i1 l1 ∧ C0 k1 i1 l1 < C0 D0 E0 F0)) (
 R (.returned (.tuple #[E0, (Value.bool true)])) L0))))
theorem calls_s_ParseProgram {p0 : Value} {w : World} {R : Ending → World → Prop} (h : sh_s_ParseProgram p0 w R) : Calls Tryz.prog 72 #[p0] w R :=
  calls_sh (.seq none .leaf (.seq none .leaf (.seq none .leaf (.seq none (.seq (some [23]) .leaf .leaf) (.seq none (.seq none .leaf (.one (.loop [6, 4] .leaf))) .leaf))))) [p0] mixed Tryz.func72 (by kernel_rfl) (by kernel_rfl) h


/- slices.Contains[[]loop.example/prologserver/impl.Pred,loop.example/prologserver/impl.Pred] : function 73 -/
def sh_x_Contains_Pred (p0 p1 : Value) (w : World) (R : Ending → World → Prop) : Prop :=
 RR (sOp (.box 36 (.const p1)) 0) w fun a0 b0 =>
 RR (sOp (.load 36 (.const a0)) 36) b0 fun c0 d0 =>
 RR (sCall (Value.func (.func 127) #[] #[]) [p0, c0]) d0 fun e0 f0 =>
 RR (sBin .geq 3 false true e0 (Value.int .i64 0)) f0 fun g0 h0 =>
 R (.returned g0) h0
theorem calls_x_Contains_Pred {p0 p1 : Value} {w : World} {R : Ending → World → Prop} (h : sh_x_Contains_Pred p0 p1 w R) : Calls Tryz.prog 73 #[p0, p1] w R :=
  calls_sh .leaf [p0, p1] mixed Tryz.func73 (by kernel_rfl) (by kernel_rfl) h


/- loop.example/prologserver/impl.reach : function 74 -/
def sh_i_reach (p0 p1 : Value) (w : World) (R : Ending → World → Prop) : Prop :=
 (∃ (a0 : Value → Value → World → Prop) (b0 : Value → Value → World → Nat), a0 (Value.int .i64 0) p1 w ∧
 ∀ c0 _ _ _ d0 _ _ _ _ _ _ _ _ _ _ _ _ _ _ _ _ _ _ _ : Value, ∀ e0 : World, a0 c0 d0 e0 →
 RR (sBuiltin .len #[25] 3 [false] [d0]) e0 fun f0 g0 =>
 RR (sBin .lss 3 false false c0 f0) g0 fun h0 i0 =>
 CondV h0 (
 RR (sOp (.indexAddr 25 (.const d0) (.const c0)) 0) i0 fun j0 k0 =>
 RR (sOp (.load 36 (.const j0)) 36) k0 fun l0 m0 =>
 RR (sCall (Value.func (.func 75) #[] #[]) [p0, l0]) m0 fun n0 o0 =>
 RR (sBuiltin .len #[25] 3 [false] [n0]) o0 fun q0 s0 =>
 (∃ (t0 : Value → Value → World → Prop) (u0 : Value → Value → World → Nat), t0 (Value.int .i64 0) d0 s0 ∧
 ∀ v0 _ w0 _ _ _ _ _ _ _ : Value, ∀ x0 : World, t0 v0 w0 x0 →
 RR (sBin .lss 3 false false v0 q0) x0 fun y0 z0 =>
 CondV y0 (
 RR (sOp (.indexAddr 25 (.const n0) (.const v0)) 0) z0 fun A0 B0 =>
 RR (sOp (.load 36 (.const A0)) 36) B0 fun C0 D0 =>
 RR (sOp (.alloc 36) 0) D0 fun E0 F0 =>
 RR (sOp (.store 36 (.const E0) (.const C0)) 0) F0 fun _ G0 =>
 RR (sOp (.load 36 (.const E0)) 36) G0 fun H0 I0 =>
 RR (sCall (Value.func (.func 53) #[] #[]) [w0, H0]) I0 fun J0 K0 =>
 RR (sBin .add 3 false true v0 (Value.int .i64 1)) K0 fun L0 M0 =>
 t0 L0 J0 M0 ∧ u0 L0 J0 M0 < u0 v0 w0 x0) (
 RR (sBin .add 3 false true c0 (Value.int .i64 1)) z0 fun N0 O0 =>
 a0 N0 w0 O0 ∧ b0 N0 w0 O0 < b0 c0 d0 e0))) (
 R (.returned d0) i0))
theorem calls_i_reach {p0 p1 : Value} {w : World} {R : Ending → World → Prop} (h : sh_i_reach p0 p1 w R) : Calls Tryz.prog 74 #[p0, p1] w R :=
  calls_sh (.seq none .leaf (.seq none (.seq none .leaf (.one (.loop [5, 1] (.seq none .leaf (.seq none (.one (.seq none .leaf (.one (.loop [21, 1] .leaf)))) .leaf))))) .leaf)) [p0, p1] mixed Tryz.func74 (by kernel_rfl) (by kernel_rfl) h


/- loop.example/prologserver/impl.callsOf : function 75 -/
def sh_i_callsOf (p0 p1 : Value) (w : World) (R : Ending → World → Prop) : Prop :=
 RR (sOp (.box 36 (.const p1)) 0) w fun a0 b0 =>
 RR (sOp (.load 36 (.const a0)) 36) b0 fun c0 d0 =>
 RR (sCall (Value.func (.func 88) #[] #[]) [p0, c0]) d0 fun e0 f0 =>
 RR (sBuiltin .len #[63] 3 [false] [e0]) f0 fun g0 h0 =>
 (∃ (i0 : Value → Value → World → Prop) (j0 : Value → Value → World → Nat), i0 (Value.int .i64 0) (Value.slice none 0 0) h0 ∧
 ∀ k0 _ l0 _ _ _ _ _ _ _ _ _ _ _ : Value, ∀ m0 : World, i0 k0 l0 m0 →
 RR (sBin .lss 3 false false k0 g0) m0 fun n0 o0 =>
 CondV n0 (
 RR (sOp (.indexAddr 63 (.const e0) (.const k0)) 0) o0 fun q0 s0 =>
 RR (sOp (.load 3 (.const q0)) 3) s0 fun t0 u0 =>
 RR (sOp (.indexAddr 23 (.const p0) (.const t0)) 0) u0 fun v0 w0 =>
 RR (sOp (.fieldAddr 34 (.const v0) 1) 0) w0 fun x0 y0 =>
 RR (sOp (.load 30 (.const x0)) 30) y0 fun z0 A0 =>
 RR (sCall (Value.func (.func 79) #[] #[]) [z0, l0]) A0 fun B0 C0 =>
 RR (sBin .add 3 false true k0 (Value.int .i64 1)) C0 fun D0 E0 =>
 i0 D0 B0 E0 ∧ j0 D0 B0 E0 < j0 k0 l0 m0) (
 R (.returned l0) o0))
theorem calls_i_callsOf {p0 p1 : Value} {w : World} {R : Ending → World → Prop} (h : sh_i_callsOf p0 p1 w R) : Calls Tryz.prog 75 #[p0, p1] w R :=
  calls_sh (.seq none .leaf (.seq none .leaf (.seq none (.seq none .leaf (.one (.loop [12, 5] .leaf))) .leaf))) [p0, p1] mixed Tryz.func75 (by kernel_rfl) (by kernel_rfl) h


/- loop.example/prologserver/spec.l14Has : function 76 -/
def sh_s_l14Has (p0 p1 : Value) (w : World) (R : Ending → World → Prop) : Prop :=
 RR (sOp (.box 36 (.const p1)) 0) w fun a0 b0 =>
 (∃ (c0 : Value → World → Prop) (d0 : Value → World → Nat), c0 (Value.int .i64 0) b0 ∧
 ∀ e0 _ _ _ f0 g0 h0 i0 j0 k0 _ _ _ _ : Value, ∀ l0 : World, c0 e0 l0 →
 RR (sBuiltin .len #[25] 3 [false] [p0]) l0 fun m0 n0 =>
 RR (sBin .lss 3 false false e0 m0) n0 fun o0 q0 =>
 CondV o0 (
 (∃ s0 : (Nat → Bool) → Value → Value → Value → Value → Value → Value → World → Prop, s0 (fun _ => false) f0 g0 h0 i0 j0 k0 { q0 with drawn := q0.drawn + 1 } ∧ (
 (∀ t0 : Nat → Bool, t0 0 = false → ∀ u0 v0 w0 x0 y0 z0 : Value, ∀ A0 : World, s0 t0 u0 v0 w0 x0 y0 z0 A0 →
 s0 (setD t0 0) u0 v0 w0 x0 y0 p0 A0) ∧
 (∀ t0 : Nat → Bool, t0 1 = false → ∀ u0 v0 w0 x0 y0 z0 : Value, ∀ B0 : World, s0 t0 u0 v0 w0 x0 y0 z0 B0 →
 s0 (setD t0 1) u0 v0 w0 x0 e0 z0 B0) ∧
 (∀ t0 : Nat → Bool, t0 2 = false → t0 0 = true → t0 1 = true → ∀ u0 v0 w0 x0 y0 z0 : Value, ∀ C0 : World, s0 t0 u0 v0 w0 x0 y0 z0 C0 →
 RR (sOp (.indexAddr 25 (.const z0) (.const y0)) 0) C0 fun D0 E0 =>
 s0 (setD t0 2) u0 v0 w0 D0 y0 z0 E0) ∧
 (∀ t0 : Nat → Bool, t0 3 = false → t0 2 = true → ∀ u0 v0 w0 x0 y0 z0 : Value, ∀ F0 : World, s0 t0 u0 v0 w0 x0 y0 z0 F0 →
 RR (sOp (.load 36 (.const x0)) 36) F0 fun G0 H0 =>
 s0 (setD t0 3) u0 v0 G0 x0 y0 z0 H0) ∧
 (∀ t0 : Nat → Bool, t0 4 = false → ∀ u0 v0 w0 x0 y0 z0 : Value, ∀ I0 : World, s0 t0 u0 v0 w0 x0 y0 z0 I0 →
 RR (sOp (.load 36 (.const a0)) 36) I0 fun J0 K0 =>
 s0 (setD t0 4) u0 J0 w0 x0 y0 z0 K0) ∧
 (∀ t0 : Nat → Bool, t0 5 = false → t0 3 = true → t0 4 = true → ∀ u0 v0 w0 x0 y0 z0 : Value, ∀ L0 : World, s0 t0 u0 v0 w0 x0 y0 z0 L0 →
 RR (sBin .eql 36 false false w0 v0) L0 fun M0 N0 =>
 s0 (setD t0 5) M0 v0 w0 x0 y0 z0 N0) ∧
 True) ∧
 ∀ t0 : Nat → Bool, t0 5 = true → t0 4 = true → t0 3 = true → t0 2 = true → t0 1 = true → t0 0 = true → ∀ u0 v0 w0 x0 y0 z0 : Value, ∀ O0 : World, s0 t0 u0 v0 w0 x0 y0 z0 O0 →
 CondV u0 (
 R (.returned (Value.bool true)) O0) (
 RR (sBin .add 3 false true e0 (Value.int .i64 1)) O0 fun P0 Q0 =>
 c0 P0 Q0 ∧ d0 P0 Q0 < d0 e0 l0))) (
 R (.returned (Value.bool false)) q0))
theorem calls_s_l14Has {p0 p1 : Value} {w : World} {R : Ending → World → Prop} (h : sh_s_l14Has p0 p1 w R) : Calls Tryz.prog 76 #[p0, p1] w R :=
  calls_sh (.seq none .leaf (.seq none (.seq none .leaf (.one (.loop [5] .leaf))) .leaf)) [p0, p1] mixed Tryz.func76 (by kernel_rfl) (by kernel_rfl) h


/- loop.example/prologserver/spec.l14Reach : function 77 -/
def sh_s_l14Reach (p0 p1 : Value) (w : World) (R : Ending → World → Prop) : Prop :=
 (∃ (a0 : Value → Value → World → Prop) (b0 : Value → Value → World → Nat), a0 (Value.int .i64 0) p1 w ∧
 ∀ c0 _ _ _ _ d0 _ _ _ _ _ _ _ _ _ _ _ _ _ _ _ _ _ _ _ _ _ _ : Value, ∀ e0 : World, a0 c0 d0 e0 →
 RR (sBuiltin .len #[25] 3 [false] [d0]) e0 fun f0 g0 =>
 RR (sBin .lss 3 false false c0 f0) g0 fun h0 i0 =>
 CondV h0 (
 RR (sOp (.indexAddr 25 (.const d0) (.const c0)) 0) i0 fun j0 k0 =>
 RR (sOp (.load 36 (.const j0)) 36) k0 fun l0 m0 =>
 RR (sCall (Value.func (.func 78) #[] #[]) [p0, l0]) m0 fun n0 o0 =>
 (∃ (q0 : Value → Value → World → Prop) (s0 : Value → Value → World → Nat), q0 (Value.int .i64 0) d0 o0 ∧
 ∀ t0 _ _ u0 _ _ _ _ _ _ _ _ _ _ : Value, ∀ v0 : World, q0 t0 u0 v0 →
 RR (sBuiltin .len #[25] 3 [false] [n0]) v0 fun w0 x0 =>
 RR (sBin .lss 3 false false t0 w0) x0 fun y0 z0 =>
 CondV y0 (
 RR (sOp (.indexAddr 25 (.const n0) (.const t0)) 0) z0 fun A0 B0 =>
 RR (sOp (.load 36 (.const A0)) 36) B0 fun C0 D0 =>
 RR (sCall (Value.func (.func 107) #[] #[]) [u0, C0]) D0 fun E0 F0 =>
 RR (sBin .add 3 false true t0 (Value.int .i64 1)) F0 fun G0 H0 =>
 q0 G0 E0 H0 ∧ s0 G0 E0 H0 < s0 t0 u0 v0) (
 RR (sBin .add 3 false true c0 (Value.int .i64 1)) z0 fun I0 J0 =>
 a0 I0 u0 J0 ∧ b0 I0 u0 J0 < b0 c0 d0 e0))) (
 R (.returned d0) i0))
theorem calls_s_l14Reach {p0 p1 : Value} {w : World} {R : Ending → World → Prop} (h : sh_s_l14Reach p0 p1 w R) : Calls Tryz.prog 77 #[p0, p1] w R :=
  calls_sh (.seq none .leaf (.seq none .leaf (.seq none (.seq none .leaf (.one (.loop [6, 5] (.seq none .leaf (.seq none (.one (.seq none .leaf (.seq none .leaf (.one (.loop [8, 5] .leaf))))) .leaf))))) .leaf))) [p0, p1] mixed Tryz.func77 (by kernel_rfl) (by kernel_rfl) h


/- loop.example/prologserver/spec.l14Calls : function 78 -/
def sh_s_l14Calls (p0 p1 : Value) (w : World) (R : Ending → World → Prop) : Prop :=
 RR (sOp (.box 36 (.const p1)) 0) w fun a0 b0 =>
 RR (sBuildSlice 25 0 []) b0 fun c0 d0 =>
 (∃ (e0 : Value → Value → World → Prop) (f0 : Value → Value → World → Nat), e0 (Value.int .i64 0) c0 d0 ∧
 ∀ g0 _ _ h0 _ _ _ _ _ _ _ i0 j0 k0 l0 m0 n0 o0 q0 _ _ _ _ : Value, ∀ s0 : World, e0 g0 h0 s0 →
 RR (sBuiltin .len #[23] 3 [false] [p0]) s0 fun t0 u0 =>
 RR (sBin .lss 3 false false g0 t0) u0 fun v0 w0 =>
 CondV v0 (
 (∃ x0 : Value → World → Prop, (
 (∃ y0 : (Nat → Bool) → Value → Value → Value → Value → Value → Value → Value → Value → World → Prop, y0 (fun _ => false) i0 j0 k0 l0 m0 n0 o0 q0 { w0 with drawn := w0.drawn + 1 } ∧ (
 (∀ z0 : Nat → Bool, z0 0 = false → ∀ A0 B0 C0 D0 E0 F0 G0 H0 : Value, ∀ I0 : World, y0 z0 A0 B0 C0 D0 E0 F0 G0 H0 I0 →
 y0 (setD z0 0) A0 B0 C0 D0 E0 F0 G0 p0 I0) ∧
 (∀ z0 : Nat → Bool, z0 1 = false → ∀ A0 B0 C0 D0 E0 F0 G0 H0 : Value, ∀ J0 : World, y0 z0 A0 B0 C0 D0 E0 F0 G0 H0 J0 →
 y0 (setD z0 1) A0 B0 C0 D0 E0 F0 g0 H0 J0) ∧
 (∀ z0 : Nat → Bool, z0 2 = false → z0 0 = true → z0 1 = true → ∀ A0 B0 C0 D0 E0 F0 G0 H0 : Value, ∀ K0 : World, y0 z0 A0 B0 C0 D0 E0 F0 G0 H0 K0 →
 RR (sOp (.indexAddr 23 (.const H0) (.const G0)) 0) K0 fun L0 M0 =>
 y0 (setD z0 2) A0 B0 C0 D0 E0 L0 G0 H0 M0) ∧
 (∀ z0 : Nat → Bool, z0 3 = false → z0 2 = true → ∀ A0 B0 C0 D0 E0 F0 G0 H0 : Value, ∀ N0 : World, y0 z0 A0 B0 C0 D0 E0 F0 G0 H0 N0 →
 RR (sOp (.fieldAddr 34 (.const F0) 0) 0) N0 fun O0 P0 =>
 y0 (setD z0 3) A0 B0 C0 D0 O0 F0 G0 H0 P0) ∧
 (∀ z0 : Nat → Bool, z0 4 = false → z0 3 = true → ∀ A0 B0 C0 D0 E0 F0 G0 H0 : Value, ∀ Q0 : World, y0 z0 A0 B0 C0 D0 E0 F0 G0 H0 Q0 →
 RR (sOp (.load 32 (.const E0)) 32) Q0 fun S0 T0 =>
 y0 (setD z0 4) A0 B0 C0 S0 E0 F0 G0 H0 T0) ∧
 (∀ z0 : Nat → Bool, z0 5 = false → z0 4 = true → ∀ A0 B0 C0 D0 E0 F0 G0 H0 : Value, ∀ U0 : World, y0 z0 A0 B0 C0 D0 E0 F0 G0 H0 U0 →
 RR (sCall (Value.func (.func 70) #[] #[]) [D0]) U0 fun V0 W0 =>
 y0 (setD z0 5) A0 B0 V0 D0 E0 F0 G0 H0 W0) ∧
 (∀ z0 : Nat → Bool, z0 6 = false → ∀ A0 B0 C0 D0 E0 F0 G0 H0 : Value, ∀ X0 : World, y0 z0 A0 B0 C0 D0 E0 F0 G0 H0 X0 →
 RR (sOp (.load 36 (.const a0)) 36) X0 fun Y0 Z0 =>
 y0 (setD z0 6) A0 Y0 C0 D0 E0 F0 G0 H0 Z0) ∧
 (∀ z0 : Nat → Bool, z0 7 = false → z0 5 = true → z0 6 = true → ∀ A0 B0 C0 D0 E0 F0 G0 H0 : Value, ∀ a1 : World, y0 z0 A0 B0 C0 D0 E0 F0 G0 H0 a1 →
 RR (sBin .eql 36 false false C0 B0) a1 fun b1 c1 =>
 y0 (setD z0 7) b1 B0 C0 D0 E0 F0 G0 H0 c1) ∧
 True) ∧
 ∀ z0 : Nat → Bool, z0 7 = true → z0 6 = true → z0 5 = true → z0 4 = true → z0 3 = true → z0 2 = true → z0 1 = true → z0 0 = true → ∀ A0 B0 C0 D0 E0 F0 G0 H0 : Value, ∀ d1 : World, y0 z0 A0 B0 C0 D0 E0 F0 G0 H0 d1 →
 CondV A0 (
 RR (sOp (.indexAddr 23 (.const p0) (.const g0)) 0) d1 fun e1 f1 =>
 RR (sOp (.fieldAddr 34 (.const e1) 1) 0) f1 fun g1 h1 =>
 RR (sOp (.load 30 (.const g1)) 30) h1 fun i1 j1 =>
 RR (sCall (Value.func (.func 94) #[] #[]) [h0, i1]) j1 fun k1 l1 =>
 x0 k1 l1) (
 x0 h0 d1))) ∧
 ∀ m1 _ _ _ _ _ _ _ _ _ _ _ _ _ _ _ : Value, ∀ n1 : World, x0 m1 n1 →
 RR (sBin .add 3 false true g0 (Value.int .i64 1)) n1 fun o1 q1 =>
 e0 o1 m1 q1 ∧ f0 o1 m1 q1 < f0 g0 h0 s0)) (
 R (.returned h0) w0))
theorem calls_s_l14Calls {p0 p1 : Value} {w : World} {R : Ending → World → Prop} (h : sh_s_l14Calls p0 p1 w R) : Calls Tryz.prog 78 #[p0, p1] w R :=
  calls_sh (.seq none .leaf (.seq none .leaf (.seq none (.seq none .leaf (.one (.loop [6, 5] (.seq none .leaf (.seq (some [5]) .leaf .leaf))))) .leaf))) [p0, p1] mixed Tryz.func78 (by kernel_rfl) (by kernel_rfl) h


/- loop.example/prologserver/impl.called : function 79 -/
def sh_i_called (p0 p1 : Value) (w : World) (R : Ending → World → Prop) : Prop :=
 RR (sBuiltin .len #[30] 3 [false] [p0]) w fun a0 b0 =>
 (∃ (c0 : Value → Value → World → Prop) (d0 : Value → Value → World → Nat), c0 (Value.int .i64 0) p1 b0 ∧
 ∀ e0 _ f0 _ _ _ _ _ _ _ _ _ _ : Value, ∀ g0 : World, c0 e0 f0 g0 →
 RR (sBin .lss 3 false false e0 a0) g0 fun h0 i0 =>
 CondV h0 (
 (∃ j0 : Value → World → Prop, (
 RR (sOp (.indexAddr 30 (.const p0) (.const e0)) 0) i0 fun k0 l0 =>
 RR (sOp (.load 32 (.const k0)) 32) l0 fun m0 n0 =>
 RR (sOp (.alloc 32) 0) n0 fun o0 q0 =>
 RR (sOp (.store 32 (.const o0) (.const m0)) 0) q0 fun _ s0 =>
 RR (sOp (.load 32 (.const o0)) 32) s0 fun t0 u0 =>
 RR (sCall (Value.func (.func 67) #[] #[]) [t0]) u0 fun v0 w0 =>
 CondV v0 (
 RR (sOp (.load 32 (.const o0)) 32) w0 fun x0 y0 =>
 RR (sCall (Value.func (.func 54) #[] #[]) [x0]) y0 fun z0 A0 =>
 RR (sCall (Value.func (.func 53) #[] #[]) [f0, z0]) A0 fun B0 C0 =>
 j0 B0 C0) (
 j0 f0 w0)) ∧
 ∀ D0 _ _ _ _ _ _ _ _ _ : Value, ∀ E0 : World, j0 D0 E0 →
 RR (sBin .add 3 false true e0 (Value.int .i64 1)) E0 fun F0 G0 =>
 c0 F0 D0 G0 ∧ d0 F0 D0 G0 < d0 e0 f0 g0)) (
 R (.returned f0) i0))
theorem calls_i_called {p0 p1 : Value} {w : World} {R : Ending → World → Prop} (h : sh_i_called p0 p1 w R) : Calls Tryz.prog 79 #[p0, p1] w R :=
  calls_sh (.seq none .leaf (.seq none (.seq none .leaf (.one (.loop [9, 1] (.seq none .leaf (.seq none .leaf (.seq (some [1]) .leaf .leaf)))))) .leaf)) [p0, p1] mixed Tryz.func79 (by kernel_rfl) (by kernel_rfl) h


/- loop.example/prologserver/spec.l14Pred : function 87 -/
def sh_s_l14Pred (p0 p1 : Value) (w : World) (R : Ending → World → Prop) : Prop :=
 RR (sOp (.alloc 36) 0) w fun a0 b0 =>
 RR (sCall (Value.func (.func 56) #[] #[]) [p1]) b0 fun c0 d0 =>
 (∃ e0 : Value → World → Prop, (
 RR (sBuiltin .len #[25] 3 [false] [c0]) d0 fun f0 g0 =>
 RR (sBin .eql 3 false true f0 (Value.int .i64 0)) g0 fun h0 i0 =>
 GuardV h0 false (
 RR (sCall (Value.func (.func 61) #[] #[]) [p0, (Value.int .i64 6)]) i0 fun j0 k0 =>
 RR (sBin .eql 3 false true j0 (Value.int .i64 0)) k0 fun l0 m0 =>
 RR (sOp (.pick (.const h0) (.const (Value.bool true)) (.const l0)) 4) m0 fun n0 o0 =>
 e0 n0 o0) (
 RR (sOp (.pick (.const h0) (.const (Value.bool true)) (.const undef)) 4) i0 fun q0 s0 =>
 e0 q0 s0)) ∧
 ∀ t0 _ _ _ _ _ _ _ : Value, ∀ u0 : World, e0 t0 u0 →
 CondV t0 (
 RR (sBuildSlice 82 3 [(0, (Value.string ⟨#[112]⟩)), (1, (Value.string ⟨#[110, 111, 115, 117, 99, 104]⟩)), (2, (Value.string ⟨#[97, 112, 112]⟩))]) u0 fun v0 w0 =>
 RR (sCall (Value.func (.func 109) #[] #[]) [p0, v0]) w0 fun x0 y0 =>
 RR (sCall (Value.func (.func 61) #[] #[]) [p0, (Value.int .i64 4)]) y0 fun z0 A0 =>
 RR (sBuild 36 [(0, x0), (1, z0)]) A0 fun B0 C0 =>
 RR (sOp (.store 36 (.const a0) (.const B0)) 0) C0 fun _u D0 =>
 (LoadV Tryz.prog 36 a0 D0 fun r0 => R (.returned r0) D0)) (
 RR (sBuiltin .len #[25] 3 [false] [c0]) u0 fun E0 F0 =>
 RR (sCall (Value.func (.func 61) #[] #[]) [p0, E0]) F0 fun G0 H0 =>
 RR (sOp (.indexAddr 25 (.const c0) (.const G0)) 0) H0 fun I0 J0 =>
 RR (sOp (.load 36 (.const I0)) 36) J0 fun K0 L0 =>
 RR (sOp (.store 36 (.const a0) (.const K0)) 0) L0 fun _ M0 =>
 (LoadV Tryz.prog 36 a0 M0 fun r0 => R (.returned r0) M0)))
theorem calls_s_l14Pred {p0 p1 : Value} {w : World} {R : Ending → World → Prop} (h : sh_s_l14Pred p0 p1 w R) : Calls Tryz.prog 87 #[p0, p1] w R :=
  calls_sh (.seq none .leaf (.seq none .leaf (.seq none (.seq (some [15]) .leaf .leaf) .leaf))) [p0, p1] mixed Tryz.func87 (by kernel_rfl) (by kernel_rfl) h


/- loop.example/prologserver/impl.clausesFor : function 88 -/
def sh_i_clausesFor (p0 p1 : Value) (w : World) (R : Ending → World → Prop) : Prop :=
 RR (sOp (.box 36 (.const p1)) 0) w fun a0 b0 =>
 RR (sBuiltin .len #[23] 3 [false] [p0]) b0 fun c0 d0 =>
 (∃ (e0 : Value → Value → World → Prop) (f0 : Value → Value → World → Nat), e0 (Value.int .i64 0) (Value.slice none 0 0) d0 ∧
 ∀ g0 _ h0 _ _ _ _ i0 j0 k0 l0 m0 _ _ _ _ _ _ : Value, ∀ n0 : World, e0 g0 h0 n0 →
 RR (sBin .lss 3 false false g0 c0) n0 fun o0 q0 =>
 CondV o0 (
 (∃ s0 : Value → World → Prop, (
 RR (sOp (.indexAddr 23 (.const p0) (.const g0)) 0) q0 fun t0 u0 =>
 RR (sOp (.load 34 (.const t0)) 34) u0 fun v0 w0 =>
 RR (sOp (.alloc 34) 0) w0 fun x0 y0 =>
 RR (sOp (.store 34 (.const x0) (.const v0)) 0) y0 fun _ z0 =>
 (∃ A0 : (Nat → Bool) → Value → Value → Value → Value → Value → World → Prop, A0 (fun _ => false) i0 j0 k0 l0 m0 { z0 with drawn := z0.drawn + 1 } ∧ (
 (∀ B0 : Nat → Bool, B0 0 = false → ∀ C0 D0 E0 F0 G0 : Value, ∀ H0 : World, A0 B0 C0 D0 E0 F0 G0 H0 →
 RR (sOp (.fieldAddr 34 (.const x0) 0) 0) H0 fun I0 J0 =>
 A0 (setD B0 0) C0 D0 E0 F0 I0 J0) ∧
 (∀ B0 : Nat → Bool, B0 1 = false → B0 0 = true → ∀ C0 D0 E0 F0 G0 : Value, ∀ K0 : World, A0 B0 C0 D0 E0 F0 G0 K0 →
 RR (sOp (.load 32 (.const G0)) 32) K0 fun L0 M0 =>
 A0 (setD B0 1) C0 D0 E0 L0 G0 M0) ∧
 (∀ B0 : Nat → Bool, B0 2 = false → B0 1 = true → ∀ C0 D0 E0 F0 G0 : Value, ∀ N0 : World, A0 B0 C0 D0 E0 F0 G0 N0 →
 RR (sCall (Value.func (.func 54) #[] #[]) [F0]) N0 fun O0 P0 =>
 A0 (setD B0 2) C0 D0 O0 F0 G0 P0) ∧
 (∀ B0 : Nat → Bool, B0 3 = false → ∀ C0 D0 E0 F0 G0 : Value, ∀ Q0 : World, A0 B0 C0 D0 E0 F0 G0 Q0 →
 RR (sOp (.load 36 (.const a0)) 36) Q0 fun S0 T0 =>
 A0 (setD B0 3) C0 S0 E0 F0 G0 T0) ∧
 (∀ B0 : Nat → Bool, B0 4 = false → B0 2 = true → B0 3 = true → ∀ C0 D0 E0 F0 G0 : Value, ∀ U0 : World, A0 B0 C0 D0 E0 F0 G0 U0 →
 RR (sBin .eql 36 false false E0 D0) U0 fun V0 W0 =>
 A0 (setD B0 4) V0 D0 E0 F0 G0 W0) ∧
 True) ∧
 ∀ B0 : Nat → Bool, B0 4 = true → B0 3 = true → B0 2 = true → B0 1 = true → B0 0 = true → ∀ C0 D0 E0 F0 G0 : Value, ∀ X0 : World, A0 B0 C0 D0 E0 F0 G0 X0 →
 CondV C0 (
 RR (sBuildSlice 63 1 [(0, g0)]) X0 fun Y0 Z0 =>
 RR (sBuiltin .append #[63, 63] 63 [false, false] [h0, Y0]) Z0 fun a1 b1 =>
 s0 a1 b1) (
 s0 h0 X0))) ∧
 ∀ c1 _ _ _ _ _ _ _ _ _ _ _ _ _ _ : Value, ∀ d1 : World, s0 c1 d1 →
 RR (sBin .add 3 false true g0 (Value.int .i64 1)) d1 fun e1 f1 =>
 e0 e1 c1 f1 ∧ f0 e1 c1 f1 < f0 g0 h0 n0)) (
 R (.returned h0) q0))
theorem calls_i_clausesFor {p0 p1 : Value} {w : World} {R : Ending → World → Prop} (h : sh_i_clausesFor p0 p1 w R) : Calls Tryz.prog 88 #[p0, p1] w R :=
  calls_sh (.seq none .leaf (.seq none .leaf (.seq none (.seq none .leaf (.one (.loop [10, 5] (.seq none .leaf (.seq none .leaf (.seq (some [5]) .leaf .leaf)))))) .leaf))) [p0, p1] mixed Tryz.func88 (by kernel_rfl) (by kernel_rfl) h


/- loop.example/prologserver/spec.l4Program : function 91 -/
def sh_s_l4Program (p0 : Value) (w : World) (R : Ending → World → Prop) : Prop :=
 RR (sCall (Value.func (.func 136) #[] #[]) []) w fun a0 b0 =>
 RR (sBuiltin .len #[82] 3 [false] [a0]) b0 fun c0 d0 =>
 RR (sCall (Value.func (.func 61) #[] #[]) [p0, c0]) d0 fun e0 f0 =>
 RR (sOp (.indexAddr 82 (.const a0) (.const e0)) 0) f0 fun g0 h0 =>
 RR (sOp (.load 9 (.const g0)) 9) h0 fun i0 j0 =>
 RR (sCall (Value.func (.func 72) #[] #[]) [i0]) j0 fun k0 l0 =>
 RR (sOp (.extract (.const k0) 0) 23) l0 fun m0 n0 =>
 RR (sOp (.extract (.const k0) 1) 4) n0 fun _ o0 =>
 R (.returned m0) o0
theorem calls_s_l4Program {p0 : Value} {w : World} {R : Ending → World → Prop} (h : sh_s_l4Program p0 w R) : Calls Tryz.prog 91 #[p0] w R :=
  calls_sh .leaf [p0] mixed Tryz.func91 (by kernel_rfl) (by kernel_rfl) h


/- loop.example/prologserver/spec.l14Goals : function 94 -/
def sh_s_l14Goals (p0 p1 : Value) (w : World) (R : Ending → World → Prop) : Prop :=
 (∃ (a0 : Value → Value → World → Prop) (b0 : Value → Value → World → Nat), a0 (Value.int .i64 0) p0 w ∧
 ∀ c0 _ _ d0 _ _ _ _ _ _ _ _ _ _ _ _ _ _ _ _ : Value, ∀ e0 : World, a0 c0 d0 e0 →
 RR (sBuiltin .len #[30] 3 [false] [p1]) e0 fun f0 g0 =>
 RR (sBin .lss 3 false false c0 f0) g0 fun h0 i0 =>
 CondV h0 (
 (∃ j0 : Value → World → Prop, (
 RR (sOp (.indexAddr 30 (.const p1) (.const c0)) 0) i0 fun k0 l0 =>
 RR (sOp (.load 32 (.const k0)) 32) l0 fun m0 n0 =>
 RR (sCall (Value.func (.func 116) #[] #[]) [m0]) n0 fun o0 q0 =>
 CondV o0 (
 RR (sOp (.indexAddr 30 (.const p1) (.const c0)) 0) q0 fun s0 t0 =>
 RR (sOp (.load 32 (.const s0)) 32) t0 fun u0 v0 =>
 RR (sCall (Value.func (.func 70) #[] #[]) [u0]) v0 fun w0 x0 =>
 RR (sCall (Value.func (.func 107) #[] #[]) [d0, w0]) x0 fun y0 z0 =>
 j0 y0 z0) (
 j0 d0 q0)) ∧
 ∀ A0 _ _ _ _ _ _ _ _ _ _ _ _ : Value, ∀ B0 : World, j0 A0 B0 →
 RR (sBin .add 3 false true c0 (Value.int .i64 1)) B0 fun C0 D0 =>
 a0 C0 A0 D0 ∧ b0 C0 A0 D0 < b0 c0 d0 e0)) (
 R (.returned d0) i0))
theorem calls_s_l14Goals {p0 p1 : Value} {w : World} {R : Ending → World → Prop} (h : sh_s_l14Goals p0 p1 w R) : Calls Tryz.prog 94 #[p0, p1] w R :=
  calls_sh (.seq none .leaf (.seq none (.seq none .leaf (.one (.loop [5, 0] (.seq none .leaf (.seq (some [0]) .leaf .leaf))))) .leaf)) [p0, p1] mixed Tryz.func94 (by kernel_rfl) (by kernel_rfl) h


/- loop.example/prologserver/impl.within : function 96 -/
def sh_i_within (p0 p1 p2 : Value) (w : World) (R : Ending → World → Prop) : Prop :=
 RR (sBin .leq 3 false false p1 p0) w fun a0 b0 =>
 GuardV a0 true (
 RR (sBin .leq 3 false false p0 p2) b0 fun c0 d0 =>
 RR (sOp (.pick (.const a0) (.const c0) (.const (Value.bool false))) 4) d0 fun e0 f0 =>
 R (.returned e0) f0) (
 RR (sOp (.pick (.const a0) (.const undef) (.const (Value.bool false))) 4) b0 fun g0 h0 =>
 R (.returned g0) h0)
theorem calls_i_within {p0 p1 p2 : Value} {w : World} {R : Ending → World → Prop} (h : sh_i_within p0 p1 p2 w R) : Calls Tryz.prog 96 #[p0, p1, p2] w R :=
  calls_sh .leaf [p0, p1, p2] mixed Tryz.func96 (by kernel_rfl) (by kernel_rfl) h


/- loop.example/prologserver/spec.l1Struct : function 106 -/
def sh_s_l1Struct (p0 p1 : Value) (w : World) (R : Ending → World → Prop) : Prop :=
 RR (sOp (.alloc 32) 0) w fun a0 b0 =>
 RR (sBuildSlice 30 0 []) b0 fun c0 d0 =>
 RR (sBuiltin .append #[30, 30] 30 [false, false] [c0, p1]) d0 fun e0 f0 =>
 RR (sBuild 32 [(0, (Value.int .i64 3)), (2, p0), (3, e0)]) f0 fun g0 h0 =>
 RR (sOp (.store 32 (.const a0) (.const g0)) 0) h0 fun _ i0 =>
 (LoadV Tryz.prog 32 a0 i0 fun r0 => R (.returned r0) i0)
theorem calls_s_l1Struct {p0 p1 : Value} {w : World} {R : Ending → World → Prop} (h : sh_s_l1Struct p0 p1 w R) : Calls Tryz.prog 106 #[p0, p1] w R :=
  calls_sh .leaf [p0, p1] mixed Tryz.func106 (by kernel_rfl) (by kernel_rfl) h


/- loop.example/prologserver/spec.l14Add : function 107 -/
def sh_s_l14Add (p0 p1 : Value) (w : World) (R : Ending → World → Prop) : Prop :=
 RR (sOp (.box 36 (.const p1)) 0) w fun a0 b0 =>
 RR (sOp (.load 36 (.const a0)) 36) b0 fun c0 d0 =>
 RR (sCall (Value.func (.func 76) #[] #[]) [p0, c0]) d0 fun e0 f0 =>
 CondV e0 (
 R (.returned p0) f0) (
 (∃ g0 : (Nat → Bool) → Value → Value → Value → Value → Value → Value → Value → World → Prop, g0 (fun _ => false) (Value.slice none 0 0) undef undef undef undef undef undef { f0 with drawn := f0.drawn + 1 } ∧ (
 (∀ h0 : Nat → Bool, h0 0 = false → ∀ i0 j0 k0 l0 m0 n0 o0 : Value, ∀ q0 : World, g0 h0 i0 j0 k0 l0 m0 n0 o0 q0 →
 RR (sBuildSlice 25 0 []) q0 fun s0 t0 =>
 g0 (setD h0 0) i0 j0 k0 l0 m0 n0 s0 t0) ∧
 (∀ h0 : Nat → Bool, h0 1 = false → ∀ i0 j0 k0 l0 m0 n0 o0 : Value, ∀ u0 : World, g0 h0 i0 j0 k0 l0 m0 n0 o0 u0 →
 g0 (setD h0 1) i0 j0 k0 l0 m0 p0 o0 u0) ∧
 (∀ h0 : Nat → Bool, h0 2 = false → h0 0 = true → h0 1 = true → ∀ i0 j0 k0 l0 m0 n0 o0 : Value, ∀ v0 : World, g0 h0 i0 j0 k0 l0 m0 n0 o0 v0 →
 RR (sBuiltin .append #[25, 25] 25 [false, false] [o0, n0]) v0 fun w0 x0 =>
 g0 (setD h0 2) i0 j0 k0 l0 w0 n0 o0 x0) ∧
 (∀ h0 : Nat → Bool, h0 3 = false → ∀ i0 j0 k0 l0 m0 n0 o0 : Value, ∀ y0 : World, g0 h0 i0 j0 k0 l0 m0 n0 o0 y0 →
 RR (sOp (.load 36 (.const a0)) 36) y0 fun z0 A0 =>
 g0 (setD h0 3) i0 j0 k0 z0 m0 n0 o0 A0) ∧
 (∀ h0 : Nat → Bool, h0 4 = false → h0 3 = true → ∀ i0 j0 k0 l0 m0 n0 o0 : Value, ∀ B0 : World, g0 h0 i0 j0 k0 l0 m0 n0 o0 B0 →
 RR (sBuildSlice 25 1 [(0, l0)]) B0 fun C0 D0 =>
 g0 (setD h0 4) i0 j0 C0 l0 m0 n0 o0 D0) ∧
 (∀ h0 : Nat → Bool, h0 5 = false → h0 2 = true → h0 4 = true → h0 2 = true → ∀ i0 j0 k0 l0 m0 n0 o0 : Value, ∀ E0 : World, g0 h0 i0 j0 k0 l0 m0 n0 o0 E0 →
 RR (sBuiltin .append #[25, 25] 25 [false, false] [m0, k0]) E0 fun F0 G0 =>
 g0 (setD h0 5) i0 F0 k0 l0 m0 n0 o0 G0) ∧
 (∀ h0 : Nat → Bool, h0 6 = false → h0 5 = true → h0 5 = true → h0 0 = true → h0 1 = true → h0 2 = true → h0 3 = true → h0 4 = true → h0 5 = true → ∀ i0 j0 k0 l0 m0 n0 o0 : Value, ∀ H0 : World, g0 h0 i0 j0 k0 l0 m0 n0 o0 H0 →
 g0 (setD h0 6) j0 j0 k0 l0 m0 n0 o0 H0) ∧
 True) ∧
 ∀ h0 : Nat → Bool, h0 6 = true → h0 5 = true → h0 4 = true → h0 3 = true → h0 2 = true → h0 1 = true → h0 0 = true → ∀ i0 j0 k0 l0 m0 n0 o0 : Value, ∀ I0 : World, g0 h0 i0 j0 k0 l0 m0 n0 o0 I0 →
 R (.returned i0) I0))
theorem calls_s_l14Add {p0 p1 : Value} {w : World} {R : Ending → World → Prop} (h : sh_s_l14Add p0 p1 w R) : Calls Tryz.prog 107 #[p0, p1] w R :=
  calls_sh .leaf [p0, p1] mixed Tryz.func107 (by kernel_rfl) (by kernel_rfl) h


/- slices.IndexFunc[[]loop.example/prologserver/impl.Clause,loop.example/prologserver/impl.Clause] : function 108 -/
def sh_x_IndexFunc_Clause (p0 p1 : Value) (w : World) (R : Ending → World → Prop) : Prop :=
 RR (sBuiltin .len #[23] 3 [false] [p0]) w fun a0 b0 =>
 (∃ (c0 : Value → World → Prop) (d0 : Value → World → Nat), c0 (Value.int .i64 0) b0 ∧
 ∀ e0 _ _ _ _ _ _ _ _ _ _ _ _ : Value, ∀ f0 : World, c0 e0 f0 →
 RR (sBin .lss 3 false false e0 a0) f0 fun g0 h0 =>
 CondV g0 (
 RR (sOp (.indexAddr 23 (.const p0) (.const e0)) 0) h0 fun i0 j0 =>
 RR (sOp (.load 34 (.const i0)) 34) j0 fun k0 l0 =>
 RR (sCall p1 [k0]) l0 fun m0 n0 =>
 CondV m0 (
 R (.returned e0) n0) (
 RR (sBin .add 3 false true e0 (Value.int .i64 1)) n0 fun o0 q0 =>
 c0 o0 q0 ∧ d0 o0 q0 < d0 e0 f0)) (
 R (.returned (Value.int .i64 (-1))) h0))
theorem calls_x_IndexFunc_Clause {p0 p1 : Value} {w : World} {R : Ending → World → Prop} (h : sh_x_IndexFunc_Clause p0 p1 w R) : Calls Tryz.prog 108 #[p0, p1] w R :=
  calls_sh (.seq none .leaf (.seq none (.seq none .leaf (.one (.loop [8] .leaf))) .leaf)) [p0, p1] mixed Tryz.func108 (by kernel_rfl) (by kernel_rfl) h


/- (*loop.example/prologserver/spec.l18Rd).of : function 109 -/
def sh_s_l18Rd_of (p0 p1 : Value) (w : World) (R : Ending → World → Prop) : Prop :=
 RR (sBuiltin .len #[82] 3 [false] [p1]) w fun a0 b0 =>
 RR (sCall (Value.func (.func 61) #[] #[]) [p0, a0]) b0 fun c0 d0 =>
 RR (sOp (.indexAddr 82 (.const p1) (.const c0)) 0) d0 fun e0 f0 =>
 RR (sOp (.load 9 (.const e0)) 9) f0 fun g0 h0 =>
 R (.returned g0) h0
theorem calls_s_l18Rd_of {p0 p1 : Value} {w : World} {R : Ending → World → Prop} (h : sh_s_l18Rd_of p0 p1 w R) : Calls Tryz.prog 109 #[p0, p1] w R :=
  calls_sh .leaf [p0, p1] mixed Tryz.func109 (by kernel_rfl) (by kernel_rfl) h


/- loop.example/prologserver/spec.l1Draw : function 110 -/
def sh_s_l1Draw (p0 p1 : Value) (w : World) (R : Ending → World → Prop) : Prop :=
 RR (sOp (.alloc 32) 0) w fun a0 b0 =>
 (∃ c0 : Value → World → Prop, (
 RR (sBin .lss 3 false true p1 (Value.int .i64 2)) b0 fun d0 e0 =>
 GuardV d0 false (
 RR (sCall (Value.func (.func 61) #[] #[]) [p0, (Value.int .i64 4)]) e0 fun f0 g0 =>
 RR (sBin .eql 3 false true f0 (Value.int .i64 0)) g0 fun h0 i0 =>
 RR (sOp (.pick (.const d0) (.const (Value.bool true)) (.const h0)) 4) i0 fun j0 k0 =>
 c0 j0 k0) (
 RR (sOp (.pick (.const d0) (.const (Value.bool true)) (.const undef)) 4) e0 fun l0 m0 =>
 c0 l0 m0)) ∧
 ∀ n0 _ _ _ _ _ _ : Value, ∀ o0 : World, c0 n0 o0 →
 CondV n0 (
 RR (sCall (Value.func (.func 61) #[] #[]) [p0, (Value.int .i64 4)]) o0 fun q0 s0 =>
 RR (sBin .eql 3 false true q0 (Value.int .i64 0)) s0 fun t0 u0 =>
 CondV t0 (
 RR (sCall (Value.func (.func 61) #[] #[]) [p0, (Value.int .i64 4)]) u0 fun v0 w0 =>
 RR (sCall (Value.func (.func 148) #[] #[]) [v0]) w0 fun x0 y0 =>
 RR (sOp (.store 32 (.const a0) (.const x0)) 0) y0 fun _u z0 =>
 (LoadV Tryz.prog 32 a0 z0 fun r0 => R (.returned r0) z0)) (
 RR (sBin .eql 3 false true q0 (Value.int .i64 1)) u0 fun A0 B0 =>
 CondV A0 (
 RR (sBuildSlice 63 6 [(0, (Value.int .i64 0)), (1, (Value.int .i64 1)), (2, (Value.int .i64 7)), (3, (Value.int .i64 (-3))), (4, (Value.int .i64 999)), (5, (Value.int .i64 (-999)))]) B0 fun C0 D0 =>
 RR (sCall (Value.func (.func 140) #[] #[]) [p0, C0]) D0 fun E0 F0 =>
 RR (sCall (Value.func (.func 149) #[] #[]) [E0]) F0 fun G0 H0 =>
 RR (sOp (.store 32 (.const a0) (.const G0)) 0) H0 fun _u I0 =>
 (LoadV Tryz.prog 32 a0 I0 fun r0 => R (.returned r0) I0)) (
 RR (sBuildSlice 82 6 [(0, (Value.string ⟨#[97]⟩)), (1, (Value.string ⟨#[98]⟩)), (2, (Value.string ⟨#[110, 105, 108]⟩)), (3, (Value.string ⟨#[91, 93]⟩)), (4, (Value.string ⟨#[102, 111, 111]⟩)), (5, (Value.string ⟨#[43]⟩))]) B0 fun J0 K0 =>
 RR (sCall (Value.func (.func 109) #[] #[]) [p0, J0]) K0 fun L0 M0 =>
 RR (sCall (Value.func (.func 106) #[] #[]) [L0, (Value.slice none 0 0)]) M0 fun N0 O0 =>
 RR (sOp (.store 32 (.const a0) (.const N0)) 0) O0 fun _u P0 =>
 (LoadV Tryz.prog 32 a0 P0 fun r0 => R (.returned r0) P0)))) (
 RR (sCall (Value.func (.func 61) #[] #[]) [p0, (Value.int .i64 3)]) o0 fun Q0 S0 =>
 RR (sBin .eql 3 false true Q0 (Value.int .i64 0)) S0 fun T0 U0 =>
 CondV T0 (
 RR (sBin .sub 3 false true p1 (Value.int .i64 1)) U0 fun V0 W0 =>
 RR (sCall (Value.func (.func 110) #[] #[]) [p0, V0]) W0 fun X0 Y0 =>
 RR (sBin .sub 3 false true p1 (Value.int .i64 1)) Y0 fun Z0 a1 =>
 RR (sCall (Value.func (.func 110) #[] #[]) [p0, Z0]) a1 fun b1 c1 =>
 RR (sBuildSlice 30 2 [(0, X0), (1, b1)]) c1 fun d1 e1 =>
 RR (sCall (Value.func (.func 106) #[] #[]) [(Value.string ⟨#[46]⟩), d1]) e1 fun f1 g1 =>
 RR (sOp (.store 32 (.const a0) (.const f1)) 0) g1 fun _u h1 =>
 (LoadV Tryz.prog 32 a0 h1 fun r0 => R (.returned r0) h1)) (
 RR (sBuildSlice 82 7 [(0, (Value.string ⟨#[102]⟩)), (1, (Value.string ⟨#[103]⟩)), (2, (Value.string ⟨#[115]⟩)), (3, (Value.string ⟨#[43]⟩)), (4, (Value.string ⟨#[61]⟩)), (5, (Value.string ⟨#[105, 115]⟩)), (6, (Value.string ⟨#[102, 111, 111]⟩))]) U0 fun i1 j1 =>
 RR (sCall (Value.func (.func 109) #[] #[]) [p0, i1]) j1 fun k1 l1 =>
 RR (sCall (Value.func (.func 106) #[] #[]) [k1, (Value.slice none 0 0)]) l1 fun m1 n1 =>
 RR (sOp (.alloc 32) 0) n1 fun o1 q1 =>
 RR (sOp (.store 32 (.const o1) (.const m1)) 0) q1 fun _u s1 =>
 RR (sBuildSlice 63 4 [(0, (Value.int .i64 2)), (1, (Value.int .i64 1)), (2, (Value.int .i64 3)), (3, (Value.int .i64 2))]) s1 fun t1 u1 =>
 RR (sCall (Value.func (.func 140) #[] #[]) [p0, t1]) u1 fun v1 w1 =>
 (∃ (x1 : Value → World → Prop) (y1 : Value → World → Nat), x1 v1 w1 ∧
 ∀ z1 _ _ A1 B1 C1 D1 E1 F1 G1 H1 I1 _ _ : Value, ∀ J1 : World, x1 z1 J1 →
 RR (sBin .gtr 3 false true z1 (Value.int .i64 0)) J1 fun K1 L1 =>
 CondV K1 (
 (∃ M1 : (Nat → Bool) → Value → Value → Value → Value → Value → Value → Value → Value → Value → World → Prop, M1 (fun _ => false) A1 B1 C1 D1 E1 F1 G1 H1 I1 { L1 with drawn := L1.drawn + 1 } ∧ (
 (∀ N1 : Nat → Bool, N1 0 = false → ∀ O1 P1 Q1 S1 T1 U1 V1 W1 X1 : Value, ∀ Y1 : World, M1 N1 O1 P1 Q1 S1 T1 U1 V1 W1 X1 Y1 →
 RR (sOp (.fieldAddr 32 (.const o1) 3) 0) Y1 fun Z1 a2 =>
 M1 (setD N1 0) O1 P1 Q1 S1 T1 U1 V1 W1 Z1 a2) ∧
 (∀ N1 : Nat → Bool, N1 1 = false → N1 0 = true → ∀ O1 P1 Q1 S1 T1 U1 V1 W1 X1 : Value, ∀ b2 : World, M1 N1 O1 P1 Q1 S1 T1 U1 V1 W1 X1 b2 →
 RR (sOp (.load 30 (.const X1)) 30) b2 fun c2 d2 =>
 M1 (setD N1 1) O1 P1 Q1 S1 T1 U1 V1 c2 X1 d2) ∧
 (∀ N1 : Nat → Bool, N1 2 = false → ∀ O1 P1 Q1 S1 T1 U1 V1 W1 X1 : Value, ∀ e2 : World, M1 N1 O1 P1 Q1 S1 T1 U1 V1 W1 X1 e2 →
 M1 (setD N1 2) O1 P1 Q1 S1 T1 U1 p0 W1 X1 e2) ∧
 (∀ N1 : Nat → Bool, N1 3 = false → ∀ O1 P1 Q1 S1 T1 U1 V1 W1 X1 : Value, ∀ f2 : World, M1 N1 O1 P1 Q1 S1 T1 U1 V1 W1 X1 f2 →
 M1 (setD N1 3) O1 P1 Q1 S1 T1 p1 V1 W1 X1 f2) ∧
 (∀ N1 : Nat → Bool, N1 4 = false → N1 3 = true → ∀ O1 P1 Q1 S1 T1 U1 V1 W1 X1 : Value, ∀ g2 : World, M1 N1 O1 P1 Q1 S1 T1 U1 V1 W1 X1 g2 →
 RR (sBin .sub 3 false true U1 (Value.int .i64 1)) g2 fun h2 i2 =>
 M1 (setD N1 4) O1 P1 Q1 S1 h2 U1 V1 W1 X1 i2) ∧
 (∀ N1 : Nat → Bool, N1 5 = false → N1 2 = true → N1 4 = true → ∀ O1 P1 Q1 S1 T1 U1 V1 W1 X1 : Value, ∀ j2 : World, M1 N1 O1 P1 Q1 S1 T1 U1 V1 W1 X1 j2 →
 RR (sCall (Value.func (.func 110) #[] #[]) [V1, T1]) j2 fun k2 l2 =>
 M1 (setD N1 5) O1 P1 Q1 k2 T1 U1 V1 W1 X1 l2) ∧
 (∀ N1 : Nat → Bool, N1 6 = false → N1 5 = true → ∀ O1 P1 Q1 S1 T1 U1 V1 W1 X1 : Value, ∀ m2 : World, M1 N1 O1 P1 Q1 S1 T1 U1 V1 W1 X1 m2 →
 RR (sBuildSlice 30 1 [(0, S1)]) m2 fun n2 o2 =>
 M1 (setD N1 6) O1 P1 n2 S1 T1 U1 V1 W1 X1 o2) ∧
 (∀ N1 : Nat → Bool, N1 7 = false → N1 1 = true → N1 6 = true → N1 5 = true → ∀ O1 P1 Q1 S1 T1 U1 V1 W1 X1 : Value, ∀ q2 : World, M1 N1 O1 P1 Q1 S1 T1 U1 V1 W1 X1 q2 →
 RR (sBuiltin .append #[30, 30] 30 [false, false] [W1, Q1]) q2 fun s2 t2 =>
 M1 (setD N1 7) O1 s2 Q1 S1 T1 U1 V1 W1 X1 t2) ∧
 (∀ N1 : Nat → Bool, N1 8 = false → N1 0 = true → N1 1 = true → N1 2 = true → N1 3 = true → N1 4 = true → N1 5 = true → N1 6 = true → N1 7 = true → ∀ O1 P1 Q1 S1 T1 U1 V1 W1 X1 : Value, ∀ u2 : World, M1 N1 O1 P1 Q1 S1 T1 U1 V1 W1 X1 u2 →
 RR (sOp (.fieldAddr 32 (.const o1) 3) 0) u2 fun v2 w2 =>
 M1 (setD N1 8) v2 P1 Q1 S1 T1 U1 V1 W1 X1 w2) ∧
 (∀ N1 : Nat → Bool, N1 9 = false → N1 8 = true → N1 7 = true → N1 7 = true → N1 0 = true → N1 1 = true → N1 2 = true → N1 3 = true → N1 4 = true → N1 5 = true → N1 6 = true → N1 7 = true → ∀ O1 P1 Q1 S1 T1 U1 V1 W1 X1 : Value, ∀ x2 : World, M1 N1 O1 P1 Q1 S1 T1 U1 V1 W1 X1 x2 →
 RR (sOp (.store 30 (.const O1) (.const P1)) 0) x2 fun _u y2 =>
 M1 (setD N1 9) O1 P1 Q1 S1 T1 U1 V1 W1 X1 y2) ∧
 True) ∧
 ∀ N1 : Nat → Bool, N1 9 = true → N1 8 = true → N1 7 = true → N1 6 = true → N1 5 = true → N1 4 = true → N1 3 = true → N1 2 = true → N1 1 = true → N1 0 = true → ∀ O1 P1 Q1 S1 T1 U1 V1 W1 X1 : Value, ∀ z2 : World, M1 N1 O1 P1 Q1 S1 T1 U1 V1 W1 X1 z2 →
 RR (sBin .sub 3 false true z1 (Value.int .i64 1)) z2 fun A2 B2 =>
 x1 A2 B2 ∧ y1 A2 B2 < y1 z1 J1)) (
 RR (sOp (.load 32 (.const o1)) 32) L1 fun C2 D2 =>
 RR (sOp (.store 32 (.const a0) (.const C2)) 0) D2 fun _ E2 =>
 (LoadV Tryz.prog 32 a0 E2 fun r0 => R (.returned r0) E2))))))
theorem calls_s_l1Draw {p0 p1 : Value} {w : World} {R : Ending → World → Prop} (h : sh_s_l1Draw p0 p1 w R) : Calls Tryz.prog 110 #[p0, p1] w R :=
  calls_sh (.seq none .leaf (.seq none (.seq (some [13]) .leaf .leaf) (.seq none .leaf (.seq none .leaf (.seq none (.seq none .leaf (.one (.loop [6] .leaf))) .leaf))))) [p0, p1] mixed Tryz.func110 (by kernel_rfl) (by kernel_rfl) h


/- loop.example/prologserver/spec.l4Copy : function 111 -/
def sh_s_l4Copy (p0 : Value) (w : World) (R : Ending → World → Prop) : Prop :=
 RR (sOp (.box 34 (.const p0)) 0) w fun a0 b0 =>
 RR (sOp (.alloc 34) 0) b0 fun c0 d0 =>
 RR (sOp (.fieldAddr 34 (.const a0) 0) 0) d0 fun e0 f0 =>
 RR (sOp (.load 32 (.const e0)) 32) f0 fun g0 h0 =>
 RR (sCall (Value.func (.func 150) #[] #[]) [g0]) h0 fun i0 j0 =>
 RR (sBuild 34 [(0, i0)]) j0 fun k0 l0 =>
 RR (sOp (.alloc 34) 0) l0 fun m0 n0 =>
 RR (sOp (.store 34 (.const m0) (.const k0)) 0) n0 fun _u o0 =>
 (∃ (q0 : Value → World → Prop) (s0 : Value → World → Nat), q0 (Value.int .i64 0) o0 ∧
 ∀ t0 _ _ u0 v0 w0 x0 y0 z0 A0 B0 C0 D0 E0 _ _ _ _ _ : Value, ∀ F0 : World, q0 t0 F0 →
 RR (sOp (.fieldAddr 34 (.const a0) 1) 0) F0 fun G0 H0 =>
 RR (sOp (.load 30 (.const G0)) 30) H0 fun I0 J0 =>
 RR (sBuiltin .len #[30] 3 [false] [I0]) J0 fun K0 L0 =>
 RR (sBin .lss 3 false false t0 K0) L0 fun M0 N0 =>
 CondV M0 (
 (∃ O0 : (Nat → Bool) → Value → Value → Value → Value → Value → Value → Value → Value → Value → Value → Value → World → Prop, O0 (fun _ => false) u0 v0 w0 x0 y0 z0 A0 B0 C0 D0 E0 { N0 with drawn := N0.drawn + 1 } ∧ (
 (∀ P0 : Nat → Bool, P0 0 = false → ∀ Q0 S0 T0 U0 V0 W0 X0 Y0 Z0 a1 b1 : Value, ∀ c1 : World, O0 P0 Q0 S0 T0 U0 V0 W0 X0 Y0 Z0 a1 b1 c1 →
 RR (sOp (.fieldAddr 34 (.const m0) 1) 0) c1 fun d1 e1 =>
 O0 (setD P0 0) Q0 S0 T0 U0 V0 W0 X0 Y0 Z0 a1 d1 e1) ∧
 (∀ P0 : Nat → Bool, P0 1 = false → P0 0 = true → ∀ Q0 S0 T0 U0 V0 W0 X0 Y0 Z0 a1 b1 : Value, ∀ f1 : World, O0 P0 Q0 S0 T0 U0 V0 W0 X0 Y0 Z0 a1 b1 f1 →
 RR (sOp (.load 30 (.const b1)) 30) f1 fun g1 h1 =>
 O0 (setD P0 1) Q0 S0 T0 U0 V0 W0 X0 Y0 Z0 g1 b1 h1) ∧
 (∀ P0 : Nat → Bool, P0 2 = false → ∀ Q0 S0 T0 U0 V0 W0 X0 Y0 Z0 a1 b1 : Value, ∀ i1 : World, O0 P0 Q0 S0 T0 U0 V0 W0 X0 Y0 Z0 a1 b1 i1 →
 RR (sOp (.fieldAddr 34 (.const a0) 1) 0) i1 fun j1 k1 =>
 O0 (setD P0 2) Q0 S0 T0 U0 V0 W0 X0 Y0 j1 a1 b1 k1) ∧
 (∀ P0 : Nat → Bool, P0 3 = false → P0 2 = true → ∀ Q0 S0 T0 U0 V0 W0 X0 Y0 Z0 a1 b1 : Value, ∀ l1 : World, O0 P0 Q0 S0 T0 U0 V0 W0 X0 Y0 Z0 a1 b1 l1 →
 RR (sOp (.load 30 (.const Z0)) 30) l1 fun m1 n1 =>
 O0 (setD P0 3) Q0 S0 T0 U0 V0 W0 X0 m1 Z0 a1 b1 n1) ∧
 (∀ P0 : Nat → Bool, P0 4 = false → ∀ Q0 S0 T0 U0 V0 W0 X0 Y0 Z0 a1 b1 : Value, ∀ o1 : World, O0 P0 Q0 S0 T0 U0 V0 W0 X0 Y0 Z0 a1 b1 o1 →
 O0 (setD P0 4) Q0 S0 T0 U0 V0 W0 t0 Y0 Z0 a1 b1 o1) ∧
 (∀ P0 : Nat → Bool, P0 5 = false → P0 3 = true → P0 4 = true → ∀ Q0 S0 T0 U0 V0 W0 X0 Y0 Z0 a1 b1 : Value, ∀ q1 : World, O0 P0 Q0 S0 T0 U0 V0 W0 X0 Y0 Z0 a1 b1 q1 →
 RR (sOp (.indexAddr 30 (.const Y0) (.const X0)) 0) q1 fun s1 t1 =>
 O0 (setD P0 5) Q0 S0 T0 U0 V0 s1 X0 Y0 Z0 a1 b1 t1) ∧
 (∀ P0 : Nat → Bool, P0 6 = false → P0 5 = true → ∀ Q0 S0 T0 U0 V0 W0 X0 Y0 Z0 a1 b1 : Value, ∀ u1 : World, O0 P0 Q0 S0 T0 U0 V0 W0 X0 Y0 Z0 a1 b1 u1 →
 RR (sOp (.load 32 (.const W0)) 32) u1 fun v1 w1 =>
 O0 (setD P0 6) Q0 S0 T0 U0 v1 W0 X0 Y0 Z0 a1 b1 w1) ∧
 (∀ P0 : Nat → Bool, P0 7 = false → P0 6 = true → ∀ Q0 S0 T0 U0 V0 W0 X0 Y0 Z0 a1 b1 : Value, ∀ x1 : World, O0 P0 Q0 S0 T0 U0 V0 W0 X0 Y0 Z0 a1 b1 x1 →
 RR (sCall (Value.func (.func 150) #[] #[]) [V0]) x1 fun y1 z1 =>
 O0 (setD P0 7) Q0 S0 T0 y1 V0 W0 X0 Y0 Z0 a1 b1 z1) ∧
 (∀ P0 : Nat → Bool, P0 8 = false → P0 7 = true → ∀ Q0 S0 T0 U0 V0 W0 X0 Y0 Z0 a1 b1 : Value, ∀ A1 : World, O0 P0 Q0 S0 T0 U0 V0 W0 X0 Y0 Z0 a1 b1 A1 →
 RR (sBuildSlice 30 1 [(0, U0)]) A1 fun B1 C1 =>
 O0 (setD P0 8) Q0 S0 B1 U0 V0 W0 X0 Y0 Z0 a1 b1 C1) ∧
 (∀ P0 : Nat → Bool, P0 9 = false → P0 1 = true → P0 8 = true → P0 7 = true → ∀ Q0 S0 T0 U0 V0 W0 X0 Y0 Z0 a1 b1 : Value, ∀ D1 : World, O0 P0 Q0 S0 T0 U0 V0 W0 X0 Y0 Z0 a1 b1 D1 →
 RR (sBuiltin .append #[30, 30] 30 [false, false] [a1, T0]) D1 fun E1 F1 =>
 O0 (setD P0 9) Q0 E1 T0 U0 V0 W0 X0 Y0 Z0 a1 b1 F1) ∧
 (∀ P0 : Nat → Bool, P0 10 = false → P0 0 = true → P0 1 = true → P0 2 = true → P0 3 = true → P0 4 = true → P0 5 = true → P0 6 = true → P0 7 = true → P0 8 = true → P0 9 = true → ∀ Q0 S0 T0 U0 V0 W0 X0 Y0 Z0 a1 b1 : Value, ∀ G1 : World, O0 P0 Q0 S0 T0 U0 V0 W0 X0 Y0 Z0 a1 b1 G1 →
 RR (sOp (.fieldAddr 34 (.const m0) 1) 0) G1 fun H1 I1 =>
 O0 (setD P0 10) H1 S0 T0 U0 V0 W0 X0 Y0 Z0 a1 b1 I1) ∧
 (∀ P0 : Nat → Bool, P0 11 = false → P0 10 = true → P0 9 = true → P0 9 = true → P0 0 = true → P0 1 = true → P0 2 = true → P0 3 = true → P0 4 = true → P0 5 = true → P0 6 = true → P0 7 = true → P0 8 = true → P0 9 = true → ∀ Q0 S0 T0 U0 V0 W0 X0 Y0 Z0 a1 b1 : Value, ∀ J1 : World, O0 P0 Q0 S0 T0 U0 V0 W0 X0 Y0 Z0 a1 b1 J1 →
 RR (sOp (.store 30 (.const Q0) (.const S0)) 0) J1 fun _u K1 =>
 O0 (setD P0 11) Q0 S0 T0 U0 V0 W0 X0 Y0 Z0 a1 b1 K1) ∧
 True) ∧
 ∀ P0 : Nat → Bool, P0 11 = true → P0 10 = true → P0 9 = true → P0 8 = true → P0 7 = true → P0 6 = true → P0 5 = true → P0 4 = true → P0 3 = true → P0 2 = true → P0 1 = true → P0 0 = true → ∀ Q0 S0 T0 U0 V0 W0 X0 Y0 Z0 a1 b1 : Value, ∀ L1 : World, O0 P0 Q0 S0 T0 U0 V0 W0 X0 Y0 Z0 a1 b1 L1 →
 RR (sBin .add 3 false true t0 (Value.int .i64 1)) L1 fun M1 N1 =>
 q0 M1 N1 ∧ s0 M1 N1 < s0 t0 F0)) (
 RR (sOp (.load 34 (.const m0)) 34) N0 fun O1 P1 =>
 RR (sOp (.store 34 (.const c0) (.const O1)) 0) P1 fun _ Q1 =>
 (LoadV Tryz.prog 34 c0 Q1 fun r0 => R (.returned r0) Q1)))
theorem calls_s_l4Copy {p0 : Value} {w : World} {R : Ending → World → Prop} (h : sh_s_l4Copy p0 w R) : Calls Tryz.prog 111 #[p0] w R :=
  calls_sh (.seq none .leaf (.seq none .leaf (.seq none (.seq none .leaf (.one (.loop [4] .leaf))) .leaf))) [p0] mixed Tryz.func111 (by kernel_rfl) (by kernel_rfl) h


/- loop.example/prologserver/spec.l1Mutate : function 112 -/
def sh_s_l1Mutate (p0 p1 : Value) (w : World) (R : Ending → World → Prop) : Prop :=
 RR (sOp (.box 32 (.const p1)) 0) w fun a0 b0 =>
 RR (sOp (.alloc 32) 0) b0 fun c0 d0 =>
 RR (sOp (.load 32 (.const a0)) 32) d0 fun e0 f0 =>
 RR (sCall (Value.func (.func 150) #[] #[]) [e0]) f0 fun g0 h0 =>
 RR (sOp (.alloc 32) 0) h0 fun i0 j0 =>
 RR (sOp (.store 32 (.const i0) (.const g0)) 0) j0 fun _u k0 =>
 (∃ l0 : World → Prop, (
 RR (sCall (Value.func (.func 61) #[] #[]) [p0, (Value.int .i64 50)]) k0 fun m0 n0 =>
 RR (sBin .eql 3 false true m0 (Value.int .i64 0)) n0 fun o0 q0 =>
 CondV o0 (
 RR (sBuildSlice 63 5 [(0, (Value.int .i64 0)), (1, (Value.int .i64 4)), (2, (Value.int .i64 1)), (3, (Value.int .i64 2)), (4, (Value.int .i64 3))]) q0 fun s0 t0 =>
 RR (sCall (Value.func (.func 140) #[] #[]) [p0, s0]) t0 fun u0 v0 =>
 RR (sOp (.fieldAddr 32 (.const i0) 0) 0) v0 fun w0 x0 =>
 RR (sOp (.store 3 (.const w0) (.const u0)) 0) x0 fun _u y0 =>
 l0 y0) (
 RR (sBin .eql 3 false true m0 (Value.int .i64 1)) q0 fun z0 A0 =>
 CondV z0 (
 RR (sBuildSlice 63 5 [(0, (Value.int .i64 26)), (1, (Value.int .i64 1000)), (2, (Value.int .i64 (-1000))), (3, (Value.int .i64 (-1))), (4, (Value.int .i64 1))]) A0 fun B0 C0 =>
 RR (sCall (Value.func (.func 140) #[] #[]) [p0, B0]) C0 fun D0 E0 =>
 RR (sOp (.fieldAddr 32 (.const i0) 1) 0) E0 fun F0 G0 =>
 RR (sOp (.store 3 (.const F0) (.const D0)) 0) G0 fun _u H0 =>
 l0 H0) (
 RR (sBin .eql 3 false true m0 (Value.int .i64 2)) A0 fun I0 J0 =>
 CondV I0 (
 RR (sBuildSlice 82 5 [(0, (Value.string ⟨#[]⟩)), (1, (Value.string ⟨#[88]⟩)), (2, (Value.string ⟨#[116, 111, 111, 108, 111, 110, 103]⟩)), (3, (Value.string ⟨#[195, 169]⟩)), (4, (Value.string ⟨#[97]⟩))]) J0 fun K0 L0 =>
 RR (sCall (Value.func (.func 109) #[] #[]) [p0, K0]) L0 fun M0 N0 =>
 RR (sOp (.fieldAddr 32 (.const i0) 2) 0) N0 fun O0 P0 =>
 RR (sOp (.store 9 (.const O0) (.const M0)) 0) P0 fun _u Q0 =>
 l0 Q0) (
 RR (sBin .eql 3 false true m0 (Value.int .i64 3)) J0 fun S0 T0 =>
 CondV S0 (
 (∃ (U0 : World → Prop) (V0 : World → Nat), U0 T0 ∧
 ∀ W0 X0 Y0 Z0 a1 b1 _ _ _ _ : Value, ∀ c1 : World, U0 c1 →
 RR (sOp (.fieldAddr 32 (.const i0) 3) 0) c1 fun d1 e1 =>
 RR (sOp (.load 30 (.const d1)) 30) e1 fun f1 g1 =>
 RR (sBuiltin .len #[30] 3 [false] [f1]) g1 fun h1 i1 =>
 RR (sBin .leq 3 false true h1 (Value.int .i64 4)) i1 fun j1 k1 =>
 CondV j1 (
 (∃ l1 : (Nat → Bool) → Value → Value → Value → Value → Value → Value → World → Prop, l1 (fun _ => false) W0 X0 Y0 Z0 a1 b1 { k1 with drawn := k1.drawn + 1 } ∧ (
 (∀ m1 : Nat → Bool, m1 0 = false → ∀ n1 o1 q1 s1 t1 u1 : Value, ∀ v1 : World, l1 m1 n1 o1 q1 s1 t1 u1 v1 →
 RR (sOp (.fieldAddr 32 (.const i0) 3) 0) v1 fun w1 x1 =>
 l1 (setD m1 0) n1 o1 q1 s1 t1 w1 x1) ∧
 (∀ m1 : Nat → Bool, m1 1 = false → m1 0 = true → ∀ n1 o1 q1 s1 t1 u1 : Value, ∀ y1 : World, l1 m1 n1 o1 q1 s1 t1 u1 y1 →
 RR (sOp (.load 30 (.const u1)) 30) y1 fun z1 A1 =>
 l1 (setD m1 1) n1 o1 q1 s1 z1 u1 A1) ∧
 (∀ m1 : Nat → Bool, m1 2 = false → ∀ n1 o1 q1 s1 t1 u1 : Value, ∀ B1 : World, l1 m1 n1 o1 q1 s1 t1 u1 B1 →
 RR (sCall (Value.func (.func 149) #[] #[]) [(Value.int .i64 1)]) B1 fun C1 D1 =>
 l1 (setD m1 2) n1 o1 q1 C1 t1 u1 D1) ∧
 (∀ m1 : Nat → Bool, m1 3 = false → m1 2 = true → ∀ n1 o1 q1 s1 t1 u1 : Value, ∀ E1 : World, l1 m1 n1 o1 q1 s1 t1 u1 E1 →
 RR (sBuildSlice 30 1 [(0, s1)]) E1 fun F1 G1 =>
 l1 (setD m1 3) n1 o1 F1 s1 t1 u1 G1) ∧
 (∀ m1 : Nat → Bool, m1 4 = false → m1 1 = true → m1 3 = true → m1 2 = true → ∀ n1 o1 q1 s1 t1 u1 : Value, ∀ H1 : World, l1 m1 n1 o1 q1 s1 t1 u1 H1 →
 RR (sBuiltin .append #[30, 30] 30 [false, false] [t1, q1]) H1 fun I1 J1 =>
 l1 (setD m1 4) n1 I1 q1 s1 t1 u1 J1) ∧
 (∀ m1 : Nat → Bool, m1 5 = false → m1 0 = true → m1 1 = true → m1 2 = true → m1 3 = true → m1 4 = true → ∀ n1 o1 q1 s1 t1 u1 : Value, ∀ K1 : World, l1 m1 n1 o1 q1 s1 t1 u1 K1 →
 RR (sOp (.fieldAddr 32 (.const i0) 3) 0) K1 fun L1 M1 =>
 l1 (setD m1 5) L1 o1 q1 s1 t1 u1 M1) ∧
 (∀ m1 : Nat → Bool, m1 6 = false → m1 5 = true → m1 4 = true → m1 4 = true → m1 0 = true → m1 1 = true → m1 2 = true → m1 3 = true → m1 4 = true → ∀ n1 o1 q1 s1 t1 u1 : Value, ∀ N1 : World, l1 m1 n1 o1 q1 s1 t1 u1 N1 →
 RR (sOp (.store 30 (.const n1) (.const o1)) 0) N1 fun _u O1 =>
 l1 (setD m1 6) n1 o1 q1 s1 t1 u1 O1) ∧
 True) ∧
 ∀ m1 : Nat → Bool, m1 6 = true → m1 5 = true → m1 4 = true → m1 3 = true → m1 2 = true → m1 1 = true → m1 0 = true → ∀ n1 o1 q1 s1 t1 u1 : Value, ∀ P1 : World, l1 m1 n1 o1 q1 s1 t1 u1 P1 →
 U0 P1 ∧ V0 P1 < V0 c1)) (
 l0 k1))) (
 RR (sBin .eql 3 false true m0 (Value.int .i64 4)) T0 fun Q1 S1 =>
 CondV Q1 (
 (∃ (T1 : Value → World → Prop) (U1 : Value → World → Nat), T1 (Value.int .i64 0) S1 ∧
 ∀ V1 _ _ _ _ _ _ _ : Value, ∀ W1 : World, T1 V1 W1 →
 RR (sBin .lss 3 false true V1 (Value.int .i64 30)) W1 fun X1 Y1 =>
 CondV X1 (
 RR (sOp (.load 32 (.const i0)) 32) Y1 fun Z1 a2 =>
 RR (sBuildSlice 30 1 [(0, Z1)]) a2 fun b2 c2 =>
 RR (sCall (Value.func (.func 106) #[] #[]) [(Value.string ⟨#[115]⟩), b2]) c2 fun d2 e2 =>
 RR (sOp (.store 32 (.const i0) (.const d2)) 0) e2 fun _u f2 =>
 RR (sBin .add 3 false true V1 (Value.int .i64 1)) f2 fun g2 h2 =>
 T1 g2 h2 ∧ U1 g2 h2 < U1 V1 W1) (
 l0 Y1))) (
 l0 S1)))))) ∧
 ∀ _ _ _ _ _ _ _ _ _ _ _ _ _ _ _ _ _ _ _ _ _ _ _ _ _ _ _ _ _ _ _ _ _ _ _ _ _ _ _ _ _ _ : Value, ∀ i2 : World, l0 i2 →
 RR (sOp (.load 32 (.const i0)) 32) i2 fun j2 k2 =>
 RR (sOp (.store 32 (.const c0) (.const j2)) 0) k2 fun _ l2 =>
 (LoadV Tryz.prog 32 c0 l2 fun r0 => R (.returned r0) l2))
theorem calls_s_l1Mutate {p0 p1 : Value} {w : World} {R : Ending → World → Prop} (h : sh_s_l1Mutate p0 p1 w R) : Calls Tryz.prog 112 #[p0, p1] w R :=
  calls_sh (.seq none .leaf (.seq none .leaf (.seq (some []) (.seq none .leaf (.one (.seq none .leaf (.two .leaf (.seq none .leaf (.two .leaf (.seq none .leaf (.two .leaf (.seq none .leaf (.two (.one (.loop [] .leaf)) (.seq none .leaf (.two (.seq none .leaf (.one (.loop [6] .leaf))) .leaf)))))))))))) .leaf))) [p0, p1] mixed Tryz.func112 (by kernel_rfl) (by kernel_rfl) h


/- loop.example/prologserver/spec.l1Some : function 113 -/
def sh_s_l1Some (p0 : Value) (w : World) (R : Ending → World → Prop) : Prop :=
 RR (sOp (.alloc 32) 0) w fun a0 b0 =>
 RR (sBuildSlice 63 4 [(0, (Value.int .i64 3)), (1, (Value.int .i64 2)), (2, (Value.int .i64 4)), (3, (Value.int .i64 1))]) b0 fun c0 d0 =>
 RR (sCall (Value.func (.func 140) #[] #[]) [p0, c0]) d0 fun e0 f0 =>
 RR (sCall (Value.func (.func 110) #[] #[]) [p0, e0]) f0 fun g0 h0 =>
 RR (sOp (.store 32 (.const a0) (.const g0)) 0) h0 fun _ i0 =>
 (LoadV Tryz.prog 32 a0 i0 fun r0 => R (.returned r0) i0)
theorem calls_s_l1Some {p0 : Value} {w : World} {R : Ending → World → Prop} (h : sh_s_l1Some p0 w R) : Calls Tryz.prog 113 #[p0] w R :=
  calls_sh .leaf [p0] mixed Tryz.func113 (by kernel_rfl) (by kernel_rfl) h


/- loop.example/prologserver/spec.GoalValid : function 114 -/
def sh_s_GoalValid (p0 : Value) (w : World) (R : Ending → World → Prop) : Prop :=
 RR (sOp (.box 32 (.const p0)) 0) w fun a0 b0 =>
 RR (sOp (.load 32 (.const a0)) 32) b0 fun c0 d0 =>
 RR (sCall (Value.func (.func 115) #[] #[]) [c0]) d0 fun e0 f0 =>
 GuardV e0 true (
 RR (sOp (.load 32 (.const a0)) 32) f0 fun g0 h0 =>
 RR (sCall (Value.func (.func 151) #[] #[]) [g0]) h0 fun i0 j0 =>
 RR (sOp (.pick (.const e0) (.const i0) (.const (Value.bool false))) 4) j0 fun k0 l0 =>
 R (.returned k0) l0) (
 RR (sOp (.pick (.const e0) (.const undef) (.const (Value.bool false))) 4) f0 fun m0 n0 =>
 R (.returned m0) n0)
theorem calls_s_GoalValid {p0 : Value} {w : World} {R : Ending → World → Prop} (h : sh_s_GoalValid p0 w R) : Calls Tryz.prog 114 #[p0] w R :=
  calls_sh .leaf [p0] mixed Tryz.func114 (by kernel_rfl) (by kernel_rfl) h


/- loop.example/prologserver/spec.TermValid : function 115 -/
def sh_s_TermValid (p0 : Value) (w : World) (R : Ending → World → Prop) : Prop :=
 RR (sOp (.box 32 (.const p0)) 0) w fun a0 b0 =>
 RR (sOp (.load 32 (.const a0)) 32) b0 fun c0 d0 =>
 RR (sCall (Value.func (.func 152) #[] #[]) [c0, (Value.int .i64 30)]) d0 fun e0 f0 =>
 GuardV e0 true (
 RR (sOp (.load 32 (.const a0)) 32) f0 fun g0 h0 =>
 RR (sCall (Value.func (.func 153) #[] #[]) [g0, (Value.int .i64 120)]) h0 fun i0 j0 =>
 RR (sBin .leq 3 false true i0 (Value.int .i64 120)) j0 fun k0 l0 =>
 RR (sOp (.pick (.const e0) (.const k0) (.const (Value.bool false))) 4) l0 fun m0 n0 =>
 R (.returned m0) n0) (
 RR (sOp (.pick (.const e0) (.const undef) (.const (Value.bool false))) 4) f0 fun o0 q0 =>
 R (.returned o0) q0)
theorem calls_s_TermValid {p0 : Value} {w : World} {R : Ending → World → Prop} (h : sh_s_TermValid p0 w R) : Calls Tryz.prog 115 #[p0] w R :=
  calls_sh .leaf [p0] mixed Tryz.func115 (by kernel_rfl) (by kernel_rfl) h


/- loop.example/prologserver/spec.l4Plain : function 116 -/
def sh_s_l4Plain (p0 : Value) (w : World) (R : Ending → World → Prop) : Prop :=
 RR (sOp (.box 32 (.const p0)) 0) w fun a0 b0 =>
 RR (sOp (.fieldAddr 32 (.const a0) 0) 0) b0 fun c0 d0 =>
 RR (sOp (.load 3 (.const c0)) 3) d0 fun e0 f0 =>
 RR (sBin .eql 3 false true e0 (Value.int .i64 3)) f0 fun g0 h0 =>
 GuardV g0 true (
 RR (sOp (.fieldAddr 32 (.const a0) 2) 0) h0 fun i0 j0 =>
 RR (sOp (.load 9 (.const i0)) 9) j0 fun k0 l0 =>
 RR (sCall (Value.func (.func 154) #[] #[]) [k0]) l0 fun m0 n0 =>
 RR (sOp (.pick (.const g0) (.const m0) (.const (Value.bool false))) 4) n0 fun o0 q0 =>
 GuardV o0 true (
 RR (sOp (.fieldAddr 32 (.const a0) 2) 0) q0 fun s0 t0 =>
 RR (sOp (.load 9 (.const s0)) 9) t0 fun u0 v0 =>
 RR (sOp (.fieldAddr 32 (.const a0) 3) 0) v0 fun w0 x0 =>
 RR (sOp (.load 30 (.const w0)) 30) x0 fun y0 z0 =>
 RR (sBuiltin .len #[30] 3 [false] [y0]) z0 fun A0 B0 =>
 RR (sCall (Value.func (.func 155) #[] #[]) [u0, A0]) B0 fun C0 D0 =>
 RR (sOp (.unOp .not 4 (.const C0)) 4) D0 fun E0 F0 =>
 RR (sOp (.pick (.const o0) (.const E0) (.const (Value.bool false))) 4) F0 fun G0 H0 =>
 GuardV G0 true (
 RR (sOp (.fieldAddr 32 (.const a0) 2) 0) H0 fun I0 J0 =>
 RR (sOp (.load 9 (.const I0)) 9) J0 fun K0 L0 =>
 RR (sCall (Value.func (.func 156) #[] #[]) [K0]) L0 fun M0 N0 =>
 RR (sBin .eql 3 false true M0 (Value.int .i64 0)) N0 fun O0 P0 =>
 RR (sOp (.pick (.const G0) (.const O0) (.const (Value.bool false))) 4) P0 fun Q0 S0 =>
 R (.returned Q0) S0) (
 RR (sOp (.pick (.const G0) (.const undef) (.const (Value.bool false))) 4) H0 fun T0 U0 =>
 R (.returned T0) U0)) (
 RR (sOp (.pick (.const o0) (.const undef) (.const (Value.bool false))) 4) q0 fun V0 W0 =>
 GuardV V0 true (
 RR (sOp (.fieldAddr 32 (.const a0) 2) 0) W0 fun X0 Y0 =>
 RR (sOp (.load 9 (.const X0)) 9) Y0 fun Z0 a1 =>
 RR (sCall (Value.func (.func 156) #[] #[]) [Z0]) a1 fun b1 c1 =>
 RR (sBin .eql 3 false true b1 (Value.int .i64 0)) c1 fun d1 e1 =>
 RR (sOp (.pick (.const V0) (.const d1) (.const (Value.bool false))) 4) e1 fun f1 g1 =>
 R (.returned f1) g1) (
 RR (sOp (.pick (.const V0) (.const undef) (.const (Value.bool false))) 4) W0 fun h1 i1 =>
 R (.returned h1) i1))) (
 RR (sOp (.pick (.const g0) (.const undef) (.const (Value.bool false))) 4) h0 fun j1 k1 =>
 GuardV j1 true (
 RR (sOp (.fieldAddr 32 (.const a0) 2) 0) k1 fun l1 m1 =>
 RR (sOp (.load 9 (.const l1)) 9) m1 fun n1 o1 =>
 RR (sOp (.fieldAddr 32 (.const a0) 3) 0) o1 fun q1 s1 =>
 RR (sOp (.load 30 (.const q1)) 30) s1 fun t1 u1 =>
 RR (sBuiltin .len #[30] 3 [false] [t1]) u1 fun v1 w1 =>
 RR (sCall (Value.func (.func 155) #[] #[]) [n1, v1]) w1 fun x1 y1 =>
 RR (sOp (.unOp .not 4 (.const x1)) 4) y1 fun z1 A1 =>
 RR (sOp (.pick (.const j1) (.const z1) (.const (Value.bool false))) 4) A1 fun B1 C1 =>
 GuardV B1 true (
 RR (sOp (.fieldAddr 32 (.const a0) 2) 0) C1 fun D1 E1 =>
 RR (sOp (.load 9 (.const D1)) 9) E1 fun F1 G1 =>
 RR (sCall (Value.func (.func 156) #[] #[]) [F1]) G1 fun H1 I1 =>
 RR (sBin .eql 3 false true H1 (Value.int .i64 0)) I1 fun J1 K1 =>
 RR (sOp (.pick (.const B1) (.const J1) (.const (Value.bool false))) 4) K1 fun L1 M1 =>
 R (.returned L1) M1) (
 RR (sOp (.pick (.const B1) (.const undef) (.const (Value.bool false))) 4) C1 fun N1 O1 =>
 R (.returned N1) O1)) (
 RR (sOp (.pick (.const j1) (.const undef) (.const (Value.bool false))) 4) k1 fun P1 Q1 =>
 GuardV P1 true (
 RR (sOp (.fieldAddr 32 (.const a0) 2) 0) Q1 fun S1 T1 =>
 RR (sOp (.load 9 (.const S1)) 9) T1 fun U1 V1 =>
 RR (sCall (Value.func (.func 156) #[] #[]) [U1]) V1 fun W1 X1 =>
 RR (sBin .eql 3 false true W1 (Value.int .i64 0)) X1 fun Y1 Z1 =>
 RR (sOp (.pick (.const P1) (.const Y1) (.const (Value.bool false))) 4) Z1 fun a2 b2 =>
 R (.returned a2) b2) (
 RR (sOp (.pick (.const P1) (.const undef) (.const (Value.bool false))) 4) Q1 fun c2 d2 =>
 R (.returned c2) d2)))
theorem calls_s_l4Plain {p0 : Value} {w : World} {R : Ending → World → Prop} (h : sh_s_l4Plain p0 w R) : Calls Tryz.prog 116 #[p0] w R :=
  calls_sh .leaf [p0] mixed Tryz.func116 (by kernel_rfl) (by kernel_rfl) h


/- loop.example/prologserver/impl.scan : function 118 -/
def sh_i_scan (p0 p1 p2 : Value) (w : World) (R : Ending → World → Prop) : Prop :=
 RR (sOp (.box 32 (.const p0)) 0) w fun a0 b0 =>
 RR (sOp (.box 3 (.const p1)) 0) b0 fun c0 d0 =>
 RR (sOp (.box 111 (.const p2)) 0) d0 fun e0 f0 =>
 RR (sOp (.load 111 (.const e0)) 111) f0 fun g0 h0 =>
 RR (sOp (.nilCheck (.const g0)) 0) h0 fun i0 j0 =>
 RR (sOp (.load 3 (.const i0)) 3) j0 fun k0 l0 =>
 RR (sBin .add 3 false true k0 (Value.int .i64 1)) l0 fun m0 n0 =>
 RR (sOp (.nilCheck (.const g0)) 0) n0 fun o0 q0 =>
 RR (sOp (.store 3 (.const o0) (.const m0)) 0) q0 fun _ s0 =>
 (∃ t0 : Value → World → Prop, (
 RR (sOp (.load 111 (.const e0)) 111) s0 fun u0 v0 =>
 RR (sOp (.nilCheck (.const u0)) 0) v0 fun w0 x0 =>
 RR (sOp (.load 3 (.const w0)) 3) x0 fun y0 z0 =>
 RR (sBin .gtr 3 false true y0 (Value.int .i64 120)) z0 fun A0 B0 =>
 GuardV A0 false (
 RR (sOp (.load 3 (.const c0)) 3) B0 fun C0 D0 =>
 RR (sBin .gtr 3 false true C0 (Value.int .i64 30)) D0 fun E0 F0 =>
 RR (sOp (.pick (.const A0) (.const (Value.bool true)) (.const E0)) 4) F0 fun G0 H0 =>
 t0 G0 H0) (
 RR (sOp (.pick (.const A0) (.const (Value.bool true)) (.const undef)) 4) B0 fun I0 J0 =>
 t0 I0 J0)) ∧
 ∀ K0 _ _ _ _ _ _ _ : Value, ∀ L0 : World, t0 K0 L0 →
 CondV K0 (
 R (.returned (Value.bool false)) L0) (
 RR (sOp (.fieldAddr 32 (.const a0) 0) 0) L0 fun M0 N0 =>
 RR (sOp (.load 3 (.const M0)) 3) N0 fun O0 P0 =>
 RR (sBin .eql 3 false true O0 (Value.int .i64 1)) P0 fun Q0 S0 =>
 CondV Q0 (
 RR (sOp (.fieldAddr 32 (.const a0) 1) 0) S0 fun T0 U0 =>
 RR (sOp (.load 3 (.const T0)) 3) U0 fun V0 W0 =>
 RR (sCall (Value.func (.func 96) #[] #[]) [V0, (Value.int .i64 0), (Value.int .i64 25)]) W0 fun X0 Y0 =>
 GuardV X0 true (
 RR (sOp (.fieldAddr 32 (.const a0) 2) 0) Y0 fun Z0 a1 =>
 RR (sOp (.load 9 (.const Z0)) 9) a1 fun b1 c1 =>
 RR (sBin .eql 9 false true b1 (Value.string ⟨#[]⟩)) c1 fun d1 e1 =>
 RR (sOp (.pick (.const X0) (.const d1) (.const (Value.bool false))) 4) e1 fun f1 g1 =>
 GuardV f1 true (
 RR (sOp (.fieldAddr 32 (.const a0) 3) 0) g1 fun h1 i1 =>
 RR (sOp (.load 30 (.const h1)) 30) i1 fun j1 k1 =>
 RR (sBuiltin .len #[30] 3 [false] [j1]) k1 fun l1 m1 =>
 RR (sBin .eql 3 false true l1 (Value.int .i64 0)) m1 fun n1 o1 =>
 RR (sOp (.pick (.const f1) (.const n1) (.const (Value.bool false))) 4) o1 fun q1 s1 =>
 R (.returned q1) s1) (
 RR (sOp (.pick (.const f1) (.const undef) (.const (Value.bool false))) 4) g1 fun t1 u1 =>
 R (.returned t1) u1)) (
 RR (sOp (.pick (.const X0) (.const undef) (.const (Value.bool false))) 4) Y0 fun v1 w1 =>
 GuardV v1 true (
 RR (sOp (.fieldAddr 32 (.const a0) 3) 0) w1 fun x1 y1 =>
 RR (sOp (.load 30 (.const x1)) 30) y1 fun z1 A1 =>
 RR (sBuiltin .len #[30] 3 [false] [z1]) A1 fun B1 C1 =>
 RR (sBin .eql 3 false true B1 (Value.int .i64 0)) C1 fun D1 E1 =>
 RR (sOp (.pick (.const v1) (.const D1) (.const (Value.bool false))) 4) E1 fun F1 G1 =>
 R (.returned F1) G1) (
 RR (sOp (.pick (.const v1) (.const undef) (.const (Value.bool false))) 4) w1 fun H1 I1 =>
 R (.returned H1) I1))) (
 RR (sBin .eql 3 false true O0 (Value.int .i64 2)) S0 fun J1 K1 =>
 CondV J1 (
 RR (sOp (.fieldAddr 32 (.const a0) 1) 0) K1 fun L1 M1 =>
 RR (sOp (.load 3 (.const L1)) 3) M1 fun N1 O1 =>
 RR (sCall (Value.func (.func 96) #[] #[]) [N1, (Value.int .i64 (-999)), (Value.int .i64 999)]) O1 fun P1 Q1 =>
 GuardV P1 true (
 RR (sOp (.fieldAddr 32 (.const a0) 2) 0) Q1 fun S1 T1 =>
 RR (sOp (.load 9 (.const S1)) 9) T1 fun U1 V1 =>
 RR (sBin .eql 9 false true U1 (Value.string ⟨#[]⟩)) V1 fun W1 X1 =>
 RR (sOp (.pick (.const P1) (.const W1) (.const (Value.bool false))) 4) X1 fun Y1 Z1 =>
 GuardV Y1 true (
 RR (sOp (.fieldAddr 32 (.const a0) 3) 0) Z1 fun a2 b2 =>
 RR (sOp (.load 30 (.const a2)) 30) b2 fun c2 d2 =>
 RR (sBuiltin .len #[30] 3 [false] [c2]) d2 fun e2 f2 =>
 RR (sBin .eql 3 false true e2 (Value.int .i64 0)) f2 fun g2 h2 =>
 RR (sOp (.pick (.const Y1) (.const g2) (.const (Value.bool false))) 4) h2 fun i2 j2 =>
 R (.returned i2) j2) (
 RR (sOp (.pick (.const Y1) (.const undef) (.const (Value.bool false))) 4) Z1 fun k2 l2 =>
 R (.returned k2) l2)) (
 RR (sOp (.pick (.const P1) (.const undef) (.const (Value.bool false))) 4) Q1 fun m2 n2 =>
 GuardV m2 true (
 RR (sOp (.fieldAddr 32 (.const a0) 3) 0) n2 fun o2 q2 =>
 RR (sOp (.load 30 (.const o2)) 30) q2 fun s2 t2 =>
 RR (sBuiltin .len #[30] 3 [false] [s2]) t2 fun u2 v2 =>
 RR (sBin .eql 3 false true u2 (Value.int .i64 0)) v2 fun w2 x2 =>
 RR (sOp (.pick (.const m2) (.const w2) (.const (Value.bool false))) 4) x2 fun y2 z2 =>
 R (.returned y2) z2) (
 RR (sOp (.pick (.const m2) (.const undef) (.const (Value.bool false))) 4) n2 fun A2 B2 =>
 R (.returned A2) B2))) (
 RR (sBin .eql 3 false true O0 (Value.int .i64 3)) K1 fun C2 D2 =>
 CondV C2 (
 (∃ E2 : Value → World → Prop, (
 RR (sOp (.fieldAddr 32 (.const a0) 1) 0) D2 fun F2 G2 =>
 RR (sOp (.load 3 (.const F2)) 3) G2 fun H2 I2 =>
 RR (sBin .neq 3 false true H2 (Value.int .i64 0)) I2 fun J2 K2 =>
 GuardV J2 false (
 RR (sOp (.fieldAddr 32 (.const a0) 2) 0) K2 fun L2 M2 =>
 RR (sOp (.load 9 (.const L2)) 9) M2 fun N2 O2 =>
 RR (sCall (Value.func (.func 157) #[] #[]) [N2]) O2 fun P2 Q2 =>
 RR (sOp (.unOp .not 4 (.const P2)) 4) Q2 fun S2 T2 =>
 RR (sOp (.pick (.const J2) (.const (Value.bool true)) (.const S2)) 4) T2 fun U2 V2 =>
 GuardV U2 false (
 RR (sOp (.fieldAddr 32 (.const a0) 3) 0) V2 fun W2 X2 =>
 RR (sOp (.load 30 (.const W2)) 30) X2 fun Y2 Z2 =>
 RR (sBuiltin .len #[30] 3 [false] [Y2]) Z2 fun a3 b3 =>
 RR (sBin .gtr 3 false true a3 (Value.int .i64 4)) b3 fun c3 d3 =>
 RR (sOp (.pick (.const U2) (.const (Value.bool true)) (.const c3)) 4) d3 fun e3 f3 =>
 E2 e3 f3) (
 RR (sOp (.pick (.const U2) (.const (Value.bool true)) (.const undef)) 4) V2 fun g3 h3 =>
 E2 g3 h3)) (
 RR (sOp (.pick (.const J2) (.const (Value.bool true)) (.const undef)) 4) K2 fun i3 j3 =>
 GuardV i3 false (
 RR (sOp (.fieldAddr 32 (.const a0) 3) 0) j3 fun k3 l3 =>
 RR (sOp (.load 30 (.const k3)) 30) l3 fun m3 n3 =>
 RR (sBuiltin .len #[30] 3 [false] [m3]) n3 fun o3 q3 =>
 RR (sBin .gtr 3 false true o3 (Value.int .i64 4)) q3 fun s3 t3 =>
 RR (sOp (.pick (.const i3) (.const (Value.bool true)) (.const s3)) 4) t3 fun u3 v3 =>
 E2 u3 v3) (
 RR (sOp (.pick (.const i3) (.const (Value.bool true)) (.const undef)) 4) j3 fun w3 x3 =>
 E2 w3 x3))) ∧
 ∀ y3 _ _ _ _ _ _ _ _ _ _ _ _ _ _ : Value, ∀ z3 : World, E2 y3 z3 →
 CondV y3 (
 R (.returned (Value.bool false)) z3) (
 RR (sOp (.fieldAddr 32 (.const a0) 3) 0) z3 fun A3 B3 =>
 RR (sOp (.load 30 (.const A3)) 30) B3 fun C3 D3 =>
 RR (sMakeFunc (.func 158) [] [c0, e0]) D3 fun E3 F3 =>
 RR (sCall (Value.func (.func 122) #[] #[]) [C3, E3]) F3 fun G3 H3 =>
 RR (sOp (.unOp .not 4 (.const G3)) 4) H3 fun I3 J3 =>
 R (.returned I3) J3))) (
 R (.returned (Value.bool false)) D2)))))
theorem calls_i_scan {p0 p1 p2 : Value} {w : World} {R : Ending → World → Prop} (h : sh_i_scan p0 p1 p2 w R) : Calls Tryz.prog 118 #[p0, p1, p2] w R :=
  calls_sh (.seq none .leaf (.seq none .leaf (.seq none (.seq (some [19]) .leaf .leaf) (.seq none (.seq none .leaf (.one (.seq none .leaf (.two .leaf (.seq none .leaf (.two .leaf (.seq none .leaf (.two (.seq none (.seq (some [70]) .leaf .leaf) .leaf) .leaf)))))))) .leaf)))) [p0, p1, p2] mixed Tryz.func118 (by kernel_rfl) (by kernel_rfl) h


/- loop.example/prologserver/impl.isLetters : function 119 -/
def sh_i_isLetters (p0 : Value) (w : World) (R : Ending → World → Prop) : Prop :=
 RR (sBuiltin .len #[9] 3 [false] [p0]) w fun a0 b0 =>
 (∃ (c0 : Value → World → Prop) (d0 : Value → World → Nat), c0 (Value.int .i64 0) b0 ∧
 ∀ e0 _ _ _ _ _ _ _ _ _ _ _ _ _ _ _ : Value, ∀ f0 : World, c0 e0 f0 →
 RR (sBin .lss 3 false false e0 a0) f0 fun g0 h0 =>
 CondV g0 (
 (∃ i0 : Value → World → Prop, (
 RR (sOp (.index 9 (.const p0) (.const e0)) 5) h0 fun j0 k0 =>
 RR (sBin .lss 5 false true j0 (Value.int .u8 97)) k0 fun l0 m0 =>
 GuardV l0 false (
 RR (sOp (.index 9 (.const p0) (.const e0)) 5) m0 fun n0 o0 =>
 RR (sBin .gtr 5 false true n0 (Value.int .u8 122)) o0 fun q0 s0 =>
 RR (sOp (.pick (.const l0) (.const (Value.bool true)) (.const q0)) 4) s0 fun t0 u0 =>
 i0 t0 u0) (
 RR (sOp (.pick (.const l0) (.const (Value.bool true)) (.const undef)) 4) m0 fun v0 w0 =>
 i0 v0 w0)) ∧
 ∀ x0 _ _ _ _ _ _ _ _ _ : Value, ∀ y0 : World, i0 x0 y0 →
 CondV x0 (
 R (.returned (Value.bool false)) y0) (
 RR (sBin .add 3 false true e0 (Value.int .i64 1)) y0 fun z0 A0 =>
 c0 z0 A0 ∧ d0 z0 A0 < d0 e0 f0))) (
 RR (sBuiltin .len #[9] 3 [false] [p0]) h0 fun B0 C0 =>
 RR (sCall (Value.func (.func 96) #[] #[]) [B0, (Value.int .i64 1), (Value.int .i64 6)]) C0 fun D0 E0 =>
 R (.returned D0) E0))
theorem calls_i_isLetters {p0 : Value} {w : World} {R : Ending → World → Prop} (h : sh_i_isLetters p0 w R) : Calls Tryz.prog 119 #[p0] w R :=
  calls_sh (.seq none .leaf (.seq none (.seq none .leaf (.one (.loop [6] (.seq none .leaf (.seq none .leaf (.seq none (.one (.seq none .leaf (.seq (some [18]) .leaf .leaf))) .leaf)))))) .leaf)) [p0] mixed Tryz.func119 (by kernel_rfl) (by kernel_rfl) h


/- loop.example/prologserver/impl.isOp : function 120 -/
def sh_i_isOp (p0 : Value) (w : World) (R : Ending → World → Prop) : Prop :=
 RR (sCall (Value.func (.func 159) #[] #[]) [p0]) w fun a0 b0 =>
 RR (sOp (.extract (.const a0) 0) 3) b0 fun c0 d0 =>
 RR (sOp (.extract (.const a0) 1) 4) d0 fun _ e0 =>
 RR (sBin .gtr 3 false true c0 (Value.int .i64 0)) e0 fun f0 g0 =>
 R (.returned f0) g0
theorem calls_i_isOp {p0 : Value} {w : World} {R : Ending → World → Prop} (h : sh_i_isOp p0 w R) : Calls Tryz.prog 120 #[p0] w R :=
  calls_sh .leaf [p0] mixed Tryz.func120 (by kernel_rfl) (by kernel_rfl) h


/- loop.example/prologserver/impl.isBuilt : function 121 -/
def sh_i_isBuilt (p0 : Value) (w : World) (R : Ending → World → Prop) : Prop :=
 RR (sOp (.box 32 (.const p0)) 0) w fun a0 b0 =>
 RR (sOp (.fieldAddr 32 (.const a0) 0) 0) b0 fun c0 d0 =>
 RR (sOp (.load 3 (.const c0)) 3) d0 fun e0 f0 =>
 RR (sBin .eql 3 false true e0 (Value.int .i64 3)) f0 fun g0 h0 =>
 GuardV g0 true (
 RR (sOp (.fieldAddr 32 (.const a0) 2) 0) h0 fun i0 j0 =>
 RR (sOp (.load 9 (.const i0)) 9) j0 fun k0 l0 =>
 RR (sOp (.fieldAddr 32 (.const a0) 3) 0) l0 fun m0 n0 =>
 RR (sOp (.load 30 (.const m0)) 30) n0 fun o0 q0 =>
 RR (sBuiltin .len #[30] 3 [false] [o0]) q0 fun s0 t0 =>
 RR (sCall (Value.func (.func 160) #[] #[]) [k0, s0]) t0 fun u0 v0 =>
 RR (sOp (.pick (.const g0) (.const u0) (.const (Value.bool false))) 4) v0 fun w0 x0 =>
 R (.returned w0) x0) (
 RR (sOp (.pick (.const g0) (.const undef) (.const (Value.bool false))) 4) h0 fun y0 z0 =>
 R (.returned y0) z0)
theorem calls_i_isBuilt {p0 : Value} {w : World} {R : Ending → World → Prop} (h : sh_i_isBuilt p0 w R) : Calls Tryz.prog 121 #[p0] w R :=
  calls_sh .leaf [p0] mixed Tryz.func121 (by kernel_rfl) (by kernel_rfl) h


/- slices.ContainsFunc[[]loop.example/prologserver/impl.Term,loop.example/prologserver/impl.Term] : function 122 -/
def sh_x_ContainsFunc_Term (p0 p1 : Value) (w : World) (R : Ending → World → Prop) : Prop :=
 RR (sCall (Value.func (.func 161) #[] #[]) [p0, p1]) w fun a0 b0 =>
 RR (sBin .geq 3 false true a0 (Value.int .i64 0)) b0 fun c0 d0 =>
 R (.returned c0) d0
theorem calls_x_ContainsFunc_Term {p0 p1 : Value} {w : World} {R : Ending → World → Prop} (h : sh_x_ContainsFunc_Term p0 p1 w R) : Calls Tryz.prog 122 #[p0, p1] w R :=
  calls_sh .leaf [p0, p1] mixed Tryz.func122 (by kernel_rfl) (by kernel_rfl) h


/- loop.example/prologserver/impl.goalsValid$1 : function 123 -/
def sh_i_goalsValid_1 (p0 : Value) (w : World) (R : Ending → World → Prop) : Prop :=
 RR (sOp (.box 32 (.const p0)) 0) w fun a0 b0 =>
 RR (sOp (.load 32 (.const a0)) 32) b0 fun c0 d0 =>
 RR (sCall (Value.func (.func 124) #[] #[]) [c0]) d0 fun e0 f0 =>
 RR (sOp (.unOp .not 4 (.const e0)) 4) f0 fun g0 h0 =>
 R (.returned g0) h0
theorem calls_i_goalsValid_1 {p0 : Value} {w : World} {R : Ending → World → Prop} (h : sh_i_goalsValid_1 p0 w R) : Calls Tryz.prog 123 #[p0] w R :=
  calls_sh .leaf [p0] mixed Tryz.func123 (by kernel_rfl) (by kernel_rfl) h


/- loop.example/prologserver/impl.GoalValid : function 124 -/
def sh_i_GoalValid (p0 : Value) (w : World) (R : Ending → World → Prop) : Prop :=
 RR (sOp (.box 32 (.const p0)) 0) w fun a0 b0 =>
 RR (sOp (.load 32 (.const a0)) 32) b0 fun c0 d0 =>
 RR (sCall (Value.func (.func 66) #[] #[]) [c0]) d0 fun e0 f0 =>
 GuardV e0 true (
 RR (sOp (.load 32 (.const a0)) 32) f0 fun g0 h0 =>
 RR (sCall (Value.func (.func 67) #[] #[]) [g0]) h0 fun i0 j0 =>
 GuardV i0 false (
 RR (sOp (.load 32 (.const a0)) 32) j0 fun k0 l0 =>
 RR (sCall (Value.func (.func 121) #[] #[]) [k0]) l0 fun m0 n0 =>
 GuardV e0 true (
 RR (sOp (.pick (.const i0) (.const (Value.bool true)) (.const m0)) 4) n0 fun o0 q0 =>
 GuardV o0 false (
 RR (sOp (.load 32 (.const a0)) 32) q0 fun s0 t0 =>
 RR (sCall (Value.func (.func 141) #[] #[]) [s0]) t0 fun u0 v0 =>
 GuardV e0 true (
 RR (sOp (.pick (.const o0) (.const (Value.bool true)) (.const u0)) 4) v0 fun w0 x0 =>
 RR (sOp (.pick (.const e0) (.const w0) (.const (Value.bool false))) 4) x0 fun y0 z0 =>
 R (.returned y0) z0) (
 RR (sOp (.pick (.const e0) (.const undef) (.const (Value.bool false))) 4) v0 fun A0 B0 =>
 R (.returned A0) B0)) (
 GuardV e0 true (
 RR (sOp (.pick (.const o0) (.const (Value.bool true)) (.const undef)) 4) q0 fun C0 D0 =>
 RR (sOp (.pick (.const e0) (.const C0) (.const (Value.bool false))) 4) D0 fun E0 F0 =>
 R (.returned E0) F0) (
 RR (sOp (.pick (.const e0) (.const undef) (.const (Value.bool false))) 4) q0 fun G0 H0 =>
 R (.returned G0) H0))) (
 GuardV undef false (
 RR (sOp (.load 32 (.const a0)) 32) n0 fun I0 J0 =>
 RR (sCall (Value.func (.func 141) #[] #[]) [I0]) J0 fun K0 L0 =>
 GuardV e0 true (
 RR (sOp (.pick (.const undef) (.const (Value.bool true)) (.const K0)) 4) L0 fun M0 N0 =>
 RR (sOp (.pick (.const e0) (.const M0) (.const (Value.bool false))) 4) N0 fun O0 P0 =>
 R (.returned O0) P0) (
 RR (sOp (.pick (.const e0) (.const undef) (.const (Value.bool false))) 4) L0 fun Q0 S0 =>
 R (.returned Q0) S0)) (
 GuardV e0 true (
 RR (sOp (.pick (.const undef) (.const (Value.bool true)) (.const undef)) 4) n0 fun T0 U0 =>
 RR (sOp (.pick (.const e0) (.const T0) (.const (Value.bool false))) 4) U0 fun V0 W0 =>
 R (.returned V0) W0) (
 RR (sOp (.pick (.const e0) (.const undef) (.const (Value.bool false))) 4) n0 fun X0 Y0 =>
 R (.returned X0) Y0)))) (
 GuardV e0 true (
 RR (sOp (.pick (.const i0) (.const (Value.bool true)) (.const undef)) 4) j0 fun Z0 a1 =>
 GuardV Z0 false (
 RR (sOp (.load 32 (.const a0)) 32) a1 fun b1 c1 =>
 RR (sCall (Value.func (.func 141) #[] #[]) [b1]) c1 fun d1 e1 =>
 GuardV e0 true (
 RR (sOp (.pick (.const Z0) (.const (Value.bool true)) (.const d1)) 4) e1 fun f1 g1 =>
 RR (sOp (.pick (.const e0) (.const f1) (.const (Value.bool false))) 4) g1 fun h1 i1 =>
 R (.returned h1) i1) (
 RR (sOp (.pick (.const e0) (.const undef) (.const (Value.bool false))) 4) e1 fun j1 k1 =>
 R (.returned j1) k1)) (
 GuardV e0 true (
 RR (sOp (.pick (.const Z0) (.const (Value.bool true)) (.const undef)) 4) a1 fun l1 m1 =>
 RR (sOp (.pick (.const e0) (.const l1) (.const (Value.bool false))) 4) m1 fun n1 o1 =>
 R (.returned n1) o1) (
 RR (sOp (.pick (.const e0) (.const undef) (.const (Value.bool false))) 4) a1 fun q1 s1 =>
 R (.returned q1) s1))) (
 GuardV undef false (
 RR (sOp (.load 32 (.const a0)) 32) j0 fun t1 u1 =>
 RR (sCall (Value.func (.func 141) #[] #[]) [t1]) u1 fun v1 w1 =>
 GuardV e0 true (
 RR (sOp (.pick (.const undef) (.const (Value.bool true)) (.const v1)) 4) w1 fun x1 y1 =>
 RR (sOp (.pick (.const e0) (.const x1) (.const (Value.bool false))) 4) y1 fun z1 A1 =>
 R (.returned z1) A1) (
 RR (sOp (.pick (.const e0) (.const undef) (.const (Value.bool false))) 4) w1 fun B1 C1 =>
 R (.returned B1) C1)) (
 GuardV e0 true (
 RR (sOp (.pick (.const undef) (.const (Value.bool true)) (.const undef)) 4) j0 fun D1 E1 =>
 RR (sOp (.pick (.const e0) (.const D1) (.const (Value.bool false))) 4) E1 fun F1 G1 =>
 R (.returned F1) G1) (
 RR (sOp (.pick (.const e0) (.const undef) (.const (Value.bool false))) 4) j0 fun H1 I1 =>
 R (.returned H1) I1))))) (
 GuardV undef false (
 RR (sOp (.load 32 (.const a0)) 32) f0 fun J1 K1 =>
 RR (sCall (Value.func (.func 121) #[] #[]) [J1]) K1 fun L1 M1 =>
 GuardV e0 true (
 RR (sOp (.pick (.const undef) (.const (Value.bool true)) (.const L1)) 4) M1 fun N1 O1 =>
 GuardV N1 false (
 RR (sOp (.load 32 (.const a0)) 32) O1 fun P1 Q1 =>
 RR (sCall (Value.func (.func 141) #[] #[]) [P1]) Q1 fun S1 T1 =>
 GuardV e0 true (
 RR (sOp (.pick (.const N1) (.const (Value.bool true)) (.const S1)) 4) T1 fun U1 V1 =>
 RR (sOp (.pick (.const e0) (.const U1) (.const (Value.bool false))) 4) V1 fun W1 X1 =>
 R (.returned W1) X1) (
 RR (sOp (.pick (.const e0) (.const undef) (.const (Value.bool false))) 4) T1 fun Y1 Z1 =>
 R (.returned Y1) Z1)) (
 GuardV e0 true (
 RR (sOp (.pick (.const N1) (.const (Value.bool true)) (.const undef)) 4) O1 fun a2 b2 =>
 RR (sOp (.pick (.const e0) (.const a2) (.const (Value.bool false))) 4) b2 fun c2 d2 =>
 R (.returned c2) d2) (
 RR (sOp (.pick (.const e0) (.const undef) (.const (Value.bool false))) 4) O1 fun e2 f2 =>
 R (.returned e2) f2))) (
 GuardV undef false (
 RR (sOp (.load 32 (.const a0)) 32) M1 fun g2 h2 =>
 RR (sCall (Value.func (.func 141) #[] #[]) [g2]) h2 fun i2 j2 =>
 GuardV e0 true (
 RR (sOp (.pick (.const undef) (.const (Value.bool true)) (.const i2)) 4) j2 fun k2 l2 =>
 RR (sOp (.pick (.const e0) (.const k2) (.const (Value.bool false))) 4) l2 fun m2 n2 =>
 R (.returned m2) n2) (
 RR (sOp (.pick (.const e0) (.const undef) (.const (Value.bool false))) 4) j2 fun o2 q2 =>
 R (.returned o2) q2)) (
 GuardV e0 true (
 RR (sOp (.pick (.const undef) (.const (Value.bool true)) (.const undef)) 4) M1 fun s2 t2 =>
 RR (sOp (.pick (.const e0) (.const s2) (.const (Value.bool false))) 4) t2 fun u2 v2 =>
 R (.returned u2) v2) (
 RR (sOp (.pick (.const e0) (.const undef) (.const (Value.bool false))) 4) M1 fun w2 x2 =>
 R (.returned w2) x2)))) (
 GuardV e0 true (
 RR (sOp (.pick (.const undef) (.const (Value.bool true)) (.const undef)) 4) f0 fun y2 z2 =>
 GuardV y2 false (
 RR (sOp (.load 32 (.const a0)) 32) z2 fun A2 B2 =>
 RR (sCall (Value.func (.func 141) #[] #[]) [A2]) B2 fun C2 D2 =>
 GuardV e0 true (
 RR (sOp (.pick (.const y2) (.const (Value.bool true)) (.const C2)) 4) D2 fun E2 F2 =>
 RR (sOp (.pick (.const e0) (.const E2) (.const (Value.bool false))) 4) F2 fun G2 H2 =>
 R (.returned G2) H2) (
 RR (sOp (.pick (.const e0) (.const undef) (.const (Value.bool false))) 4) D2 fun I2 J2 =>
 R (.returned I2) J2)) (
 GuardV e0 true (
 RR (sOp (.pick (.const y2) (.const (Value.bool true)) (.const undef)) 4) z2 fun K2 L2 =>
 RR (sOp (.pick (.const e0) (.const K2) (.const (Value.bool false))) 4) L2 fun M2 N2 =>
 R (.returned M2) N2) (
 RR (sOp (.pick (.const e0) (.const undef) (.const (Value.bool false))) 4) z2 fun O2 P2 =>
 R (.returned O2) P2))) (
 GuardV undef false (
 RR (sOp (.load 32 (.const a0)) 32) f0 fun Q2 S2 =>
 RR (sCall (Value.func (.func 141) #[] #[]) [Q2]) S2 fun T2 U2 =>
 GuardV e0 true (
 RR (sOp (.pick (.const undef) (.const (Value.bool true)) (.const T2)) 4) U2 fun V2 W2 =>
 RR (sOp (.pick (.const e0) (.const V2) (.const (Value.bool false))) 4) W2 fun X2 Y2 =>
 R (.returned X2) Y2) (
 RR (sOp (.pick (.const e0) (.const undef) (.const (Value.bool false))) 4) U2 fun Z2 a3 =>
 R (.returned Z2) a3)) (
 GuardV e0 true (
 RR (sOp (.pick (.const undef) (.const (Value.bool true)) (.const undef)) 4) f0 fun b3 c3 =>
 RR (sOp (.pick (.const e0) (.const b3) (.const (Value.bool false))) 4) c3 fun d3 e3 =>
 R (.returned d3) e3) (
 RR (sOp (.pick (.const e0) (.const undef) (.const (Value.bool false))) 4) f0 fun f3 g3 =>
 R (.returned f3) g3)))))
theorem calls_i_GoalValid {p0 : Value} {w : World} {R : Ending → World → Prop} (h : sh_i_GoalValid p0 w R) : Calls Tryz.prog 124 #[p0] w R :=
  calls_sh .leaf [p0] mixed Tryz.func124 (by kernel_rfl) (by kernel_rfl) h


/- loop.example/prologserver/spec.l18Cut : function 125 -/
def sh_s_l18Cut (p0 p1 : Value) (w : World) (R : Ending → World → Prop) : Prop :=
 RR (sBuildSlice 82 0 []) w fun a0 b0 =>
 (∃ (c0 : Value → Value → Value → World → Prop) (d0 : Value → Value → Value → World → Nat), c0 (Value.int .i64 0) (Value.int .i64 0) a0 b0 ∧
 ∀ e0 _ _ f0 _ _ g0 _ _ _ _ _ _ _ _ _ _ _ _ _ _ _ _ _ _ _ _ _ _ : Value, ∀ h0 : World, c0 e0 f0 g0 h0 →
 RR (sBuiltin .len #[9] 3 [false] [p0]) h0 fun i0 j0 =>
 RR (sBin .leq 3 false false e0 i0) j0 fun k0 l0 =>
 CondV k0 (
 (∃ m0 : Value → Value → World → Prop, (
 (∃ n0 : Value → World → Prop, (
 RR (sBuiltin .len #[9] 3 [false] [p0]) l0 fun o0 q0 =>
 RR (sBin .eql 3 false false e0 o0) q0 fun s0 t0 =>
 GuardV s0 false (
 RR (sOp (.index 9 (.const p0) (.const e0)) 5) t0 fun u0 v0 =>
 RR (sBin .eql 5 false false u0 p1) v0 fun w0 x0 =>
 RR (sOp (.pick (.const s0) (.const (Value.bool true)) (.const w0)) 4) x0 fun y0 z0 =>
 n0 y0 z0) (
 RR (sOp (.pick (.const s0) (.const (Value.bool true)) (.const undef)) 4) t0 fun A0 B0 =>
 n0 A0 B0)) ∧
 ∀ C0 _ _ _ _ _ _ _ _ _ _ : Value, ∀ D0 : World, n0 C0 D0 →
 CondV C0 (
 RR (sOp (.slice 9 (.const p0) (some (.const f0)) (some (.const e0)) none) 9) D0 fun E0 F0 =>
 RR (sBuildSlice 82 1 [(0, E0)]) F0 fun G0 H0 =>
 RR (sBuiltin .append #[82, 82] 82 [false, false] [g0, G0]) H0 fun I0 J0 =>
 RR (sBin .add 3 false true e0 (Value.int .i64 1)) J0 fun K0 L0 =>
 m0 K0 I0 L0) (
 m0 f0 g0 D0))) ∧
 ∀ M0 _ _ N0 _ _ _ _ _ _ _ _ _ _ _ _ _ _ _ _ _ _ : Value, ∀ O0 : World, m0 M0 N0 O0 →
 RR (sBin .add 3 false true e0 (Value.int .i64 1)) O0 fun P0 Q0 =>
 c0 P0 M0 N0 Q0 ∧ d0 P0 M0 N0 Q0 < d0 e0 f0 g0 h0)) (
 R (.returned g0) l0))
theorem calls_s_l18Cut {p0 p1 : Value} {w : World} {R : Ending → World → Prop} (h : sh_s_l18Cut p0 p1 w R) : Calls Tryz.prog 125 #[p0, p1] w R :=
  calls_sh (.seq none .leaf (.seq none .leaf (.seq none .leaf (.seq none (.seq none .leaf (.one (.loop [7, 6, 5] (.seq none .leaf (.seq (some [6, 5]) (.one (.seq (some [25]) .leaf .leaf)) .leaf))))) .leaf)))) [p0, p1] mixed Tryz.func125 (by kernel_rfl) (by kernel_rfl) h


/- loop.example/prologserver/spec.ParseClause : function 126 -/
def sh_s_ParseClause (p0 : Value) (w : World) (R : Ending → World → Prop) : Prop :=
 RR (sOp (.alloc 34) 0) w fun a0 b0 =>
 RR (sBuiltin .len #[9] 3 [false] [p0]) b0 fun c0 d0 =>
 RR (sBin .gtr 3 false true c0 (Value.int .i64 1000)) d0 fun e0 f0 =>
 CondV e0 (
 RR (sBuild 34 []) f0 fun g0 h0 =>
 RR (sOp (.store 34 (.const a0) (.const g0)) 0) h0 fun _u i0 =>
 (LoadV Tryz.prog 34 a0 i0 fun r0 => R (.returned (.tuple #[r0, (Value.bool false)])) i0)) (
 RR (sCall (Value.func (.func 162) #[] #[]) [p0, (Value.int .i64 0), (Value.int .i64 30), (Value.int .i64 3)]) f0 fun j0 k0 =>
 RR (sOp (.extract (.const j0) 0) 32) k0 fun l0 m0 =>
 RR (sOp (.extract (.const j0) 1) 3) m0 fun n0 o0 =>
 RR (sOp (.alloc 32) 0) o0 fun q0 s0 =>
 RR (sOp (.store 32 (.const q0) (.const l0)) 0) s0 fun _u t0 =>
 RR (sBin .lss 3 false true n0 (Value.int .i64 0)) t0 fun u0 v0 =>
 CondV u0 (
 RR (sBuild 34 []) v0 fun w0 x0 =>
 RR (sOp (.store 34 (.const a0) (.const w0)) 0) x0 fun _u y0 =>
 (LoadV Tryz.prog 34 a0 y0 fun r0 => R (.returned (.tuple #[r0, (Value.bool false)])) y0)) (
 RR (sOp (.load 32 (.const q0)) 32) v0 fun z0 A0 =>
 RR (sBuild 34 [(0, z0)]) A0 fun B0 C0 =>
 RR (sOp (.alloc 34) 0) C0 fun D0 E0 =>
 RR (sOp (.store 34 (.const D0) (.const B0)) 0) E0 fun _u F0 =>
 (∃ G0 : Value → World → Prop, (
 (∃ H0 : Value → World → Prop, (
 RR (sCall (Value.func (.func 163) #[] #[]) [p0, n0, (Value.int .u8 58)]) F0 fun I0 J0 =>
 GuardV I0 true (
 RR (sBin .add 3 false true n0 (Value.int .i64 1)) J0 fun K0 L0 =>
 RR (sCall (Value.func (.func 163) #[] #[]) [p0, K0, (Value.int .u8 45)]) L0 fun M0 N0 =>
 RR (sOp (.pick (.const I0) (.const M0) (.const (Value.bool false))) 4) N0 fun O0 P0 =>
 H0 O0 P0) (
 RR (sOp (.pick (.const I0) (.const undef) (.const (Value.bool false))) 4) J0 fun Q0 S0 =>
 H0 Q0 S0)) ∧
 ∀ T0 _ _ _ _ _ _ _ _ : Value, ∀ U0 : World, H0 T0 U0 →
 CondV T0 (
 RR (sBin .add 3 false true n0 (Value.int .i64 2)) U0 fun V0 W0 =>
 RR (sCall (Value.func (.func 164) #[] #[]) [p0, V0]) W0 fun X0 Y0 =>
 RR (sOp (.extract (.const X0) 0) 30) Y0 fun Z0 a1 =>
 RR (sOp (.extract (.const X0) 1) 3) a1 fun b1 c1 =>
 RR (sOp (.fieldAddr 34 (.const D0) 1) 0) c1 fun d1 e1 =>
 RR (sOp (.store 30 (.const d1) (.const Z0)) 0) e1 fun _u f1 =>
 G0 b1 f1) (
 G0 n0 U0))) ∧
 ∀ g1 _ _ _ _ _ _ _ _ _ _ _ _ _ _ _ _ _ : Value, ∀ h1 : World, G0 g1 h1 →
 (∃ i1 : Value → World → Prop, (
 RR (sBuiltin .len #[9] 3 [false] [p0]) h1 fun j1 k1 =>
 RR (sBin .sub 3 false true j1 (Value.int .i64 1)) k1 fun l1 m1 =>
 RR (sBin .neq 3 false false g1 l1) m1 fun n1 o1 =>
 GuardV n1 false (
 RR (sCall (Value.func (.func 163) #[] #[]) [p0, g1, (Value.int .u8 46)]) o1 fun q1 s1 =>
 RR (sOp (.unOp .not 4 (.const q1)) 4) s1 fun t1 u1 =>
 RR (sOp (.pick (.const n1) (.const (Value.bool true)) (.const t1)) 4) u1 fun v1 w1 =>
 GuardV v1 false (
 RR (sOp (.load 34 (.const D0)) 34) w1 fun x1 y1 =>
 RR (sCall (Value.func (.func 165) #[] #[]) [x1]) y1 fun z1 A1 =>
 RR (sBin .neq 9 false false z1 p0) A1 fun B1 C1 =>
 RR (sOp (.pick (.const v1) (.const (Value.bool true)) (.const B1)) 4) C1 fun D1 E1 =>
 i1 D1 E1) (
 RR (sOp (.pick (.const v1) (.const (Value.bool true)) (.const undef)) 4) w1 fun F1 G1 =>
 i1 F1 G1)) (
 RR (sOp (.pick (.const n1) (.const (Value.bool true)) (.const undef)) 4) o1 fun H1 I1 =>
 GuardV H1 false (
 RR (sOp (.load 34 (.const D0)) 34) I1 fun J1 K1 =>
 RR (sCall (Value.func (.func 165) #[] #[]) [J1]) K1 fun L1 M1 =>
 RR (sBin .neq 9 false false L1 p0) M1 fun N1 O1 =>
 RR (sOp (.pick (.const H1) (.const (Value.bool true)) (.const N1)) 4) O1 fun P1 Q1 =>
 i1 P1 Q1) (
 RR (sOp (.pick (.const H1) (.const (Value.bool true)) (.const undef)) 4) I1 fun S1 T1 =>
 i1 S1 T1))) ∧
 ∀ U1 _ _ _ _ _ _ _ _ _ _ _ _ _ _ _ _ : Value, ∀ V1 : World, i1 U1 V1 →
 CondV U1 (
 RR (sBuild 34 []) V1 fun W1 X1 =>
 RR (sOp (.store 34 (.const a0) (.const W1)) 0) X1 fun _u Y1 =>
 (LoadV Tryz.prog 34 a0 Y1 fun r0 => R (.returned (.tuple #[r0, (Value.bool false)])) Y1)) (
 RR (sOp (.load 34 (.const D0)) 34) V1 fun Z1 a2 =>
 RR (sCall (Value.func (.func 111) #[] #[]) [Z1]) a2 fun b2 c2 =>
 RR (sOp (.store 34 (.const a0) (.const b2)) 0) c2 fun _ d2 =>
 (LoadV Tryz.prog 34 a0 d2 fun r0 => R (.returned (.tuple #[r0, (Value.bool true)])) d2))))))
theorem calls_s_ParseClause {p0 : Value} {w : World} {R : Ending → World → Prop} (h : sh_s_ParseClause p0 w R) : Calls Tryz.prog 126 #[p0] w R :=
  calls_sh (.seq none .leaf (.seq none .leaf (.seq none .leaf (.seq none .leaf (.seq none .leaf (.seq (some [5]) (.seq (some [29]) .leaf .leaf) (.seq none (.seq (some [54]) .leaf .leaf) .leaf))))))) [p0] mixed Tryz.func126 (by kernel_rfl) (by kernel_rfl) h


/- slices.Index[[]loop.example/prologserver/impl.Pred,loop.example/prologserver/impl.Pred] : function 127 -/
def sh_x_Index_Pred (p0 p1 : Value) (w : World) (R : Ending → World → Prop) : Prop :=
 RR (sOp (.box 36 (.const p1)) 0) w fun a0 b0 =>
 RR (sBuiltin .len #[25] 3 [false] [p0]) b0 fun c0 d0 =>
 (∃ (e0 : Value → World → Prop) (f0 : Value → World → Nat), e0 (Value.int .i64 0) d0 ∧
 ∀ g0 _ _ _ h0 i0 j0 k0 l0 m0 _ _ _ : Value, ∀ n0 : World, e0 g0 n0 →
 RR (sBin .lss 3 false false g0 c0) n0 fun o0 q0 =>
 CondV o0 (
 (∃ s0 : (Nat → Bool) → Value → Value → Value → Value → Value → Value → World → Prop, s0 (fun _ => false) h0 i0 j0 k0 l0 m0 { q0 with drawn := q0.drawn + 1 } ∧ (
 (∀ t0 : Nat → Bool, t0 0 = false → ∀ u0 v0 w0 x0 y0 z0 : Value, ∀ A0 : World, s0 t0 u0 v0 w0 x0 y0 z0 A0 →
 RR (sOp (.load 36 (.const a0)) 36) A0 fun B0 C0 =>
 s0 (setD t0 0) u0 v0 w0 x0 y0 B0 C0) ∧
 (∀ t0 : Nat → Bool, t0 1 = false → ∀ u0 v0 w0 x0 y0 z0 : Value, ∀ D0 : World, s0 t0 u0 v0 w0 x0 y0 z0 D0 →
 s0 (setD t0 1) u0 v0 w0 x0 p0 z0 D0) ∧
 (∀ t0 : Nat → Bool, t0 2 = false → ∀ u0 v0 w0 x0 y0 z0 : Value, ∀ E0 : World, s0 t0 u0 v0 w0 x0 y0 z0 E0 →
 s0 (setD t0 2) u0 v0 w0 g0 y0 z0 E0) ∧
 (∀ t0 : Nat → Bool, t0 3 = false → t0 1 = true → t0 2 = true → ∀ u0 v0 w0 x0 y0 z0 : Value, ∀ F0 : World, s0 t0 u0 v0 w0 x0 y0 z0 F0 →
 RR (sOp (.indexAddr 25 (.const y0) (.const x0)) 0) F0 fun G0 H0 =>
 s0 (setD t0 3) u0 v0 G0 x0 y0 z0 H0) ∧
 (∀ t0 : Nat → Bool, t0 4 = false → t0 3 = true → ∀ u0 v0 w0 x0 y0 z0 : Value, ∀ I0 : World, s0 t0 u0 v0 w0 x0 y0 z0 I0 →
 RR (sOp (.load 36 (.const w0)) 36) I0 fun J0 K0 =>
 s0 (setD t0 4) u0 J0 w0 x0 y0 z0 K0) ∧
 (∀ t0 : Nat → Bool, t0 5 = false → t0 0 = true → t0 4 = true → ∀ u0 v0 w0 x0 y0 z0 : Value, ∀ L0 : World, s0 t0 u0 v0 w0 x0 y0 z0 L0 →
 RR (sBin .eql 36 false false z0 v0) L0 fun M0 N0 =>
 s0 (setD t0 5) M0 v0 w0 x0 y0 z0 N0) ∧
 True) ∧
 ∀ t0 : Nat → Bool, t0 5 = true → t0 4 = true → t0 3 = true → t0 2 = true → t0 1 = true → t0 0 = true → ∀ u0 v0 w0 x0 y0 z0 : Value, ∀ O0 : World, s0 t0 u0 v0 w0 x0 y0 z0 O0 →
 CondV u0 (
 R (.returned g0) O0) (
 RR (sBin .add 3 false true g0 (Value.int .i64 1)) O0 fun P0 Q0 =>
 e0 P0 Q0 ∧ f0 P0 Q0 < f0 g0 n0))) (
 R (.returned (Value.int .i64 (-1))) q0))
theorem calls_x_Index_Pred {p0 p1 : Value} {w : World} {R : Ending → World → Prop} (h : sh_x_Index_Pred p0 p1 w R) : Calls Tryz.prog 127 #[p0, p1] w R :=
  calls_sh (.seq none .leaf (.seq none (.seq none .leaf (.one (.loop [8] .leaf))) .leaf)) [p0, p1] mixed Tryz.func127 (by kernel_rfl) (by kernel_rfl) h


/- loop.example/prologserver/spec.l4Texts : function 136 -/
def sh_s_l4Texts (w : World) (R : Ending → World → Prop) : Prop :=
 RR (sBuildSlice 82 11 [(0, (Value.string ⟨#[97, 112, 112, 40, 91, 93, 44, 65, 44, 65, 41, 46, 10, 97, 112, 112, 40, 91, 65, 124, 66, 93, 44, 67, 44, 91, 65, 124, 68, 93, 41, 58, 45, 97, 112, 112, 40, 66, 44, 67, 44, 68, 41, 46, 10]⟩)), (1, (Value.string ⟨#[109, 101, 109, 40, 65, 44, 91, 65, 124, 66, 93, 41, 46, 10, 109, 101, 109, 40, 65, 44, 91, 66, 124, 67, 93, 41, 58, 45, 109, 101, 109, 40, 65, 44, 67, 41, 46, 10]⟩)), (2, (Value.string ⟨#[112, 40, 49, 41, 46, 10, 112, 40, 50, 41, 46, 10, 112, 40, 51, 41, 46, 10, 113, 40, 65, 41, 58, 45, 112, 40, 65, 41, 44, 65, 62, 49, 44, 33, 46, 10, 114, 40, 65, 44, 66, 41, 58, 45, 112, 40, 65, 41, 44, 112, 40, 66, 41, 46, 10]⟩)), (3, (Value.string ⟨#[108, 101, 110, 40, 91, 93, 44, 48, 41, 46, 10, 108, 101, 110, 40, 91, 65, 124, 66, 93, 44, 67, 41, 58, 45, 108, 101, 110, 40, 66, 44, 68, 41, 44, 67, 32, 105, 115, 32, 68, 43, 49, 46, 10]⟩)), (4, (Value.string ⟨#[109, 97, 120, 40, 65, 44, 66, 44, 65, 41, 58, 45, 65, 62, 61, 66, 44, 33, 46, 10, 109, 97, 120, 40, 65, 44, 66, 44, 66, 41, 46, 10]⟩)), (5, (Value.string ⟨#[101, 40, 97, 44, 98, 41, 46, 10, 101, 40, 98, 44, 99, 41, 46, 10, 101, 40, 99, 44, 100, 41, 46, 10, 116, 40, 65, 44, 66, 41, 58, 45, 101, 40, 65, 44, 66, 41, 46, 10, 116, 40, 65, 44, 66, 41, 58, 45, 101, 40, 65, 44, 67, 41, 44, 116, 40, 67, 44, 66, 41, 46, 10]⟩)), (6, (Value.string ⟨#[108, 111, 111, 112, 58, 45, 108, 111, 111, 112, 46, 10, 111, 107, 46, 10]⟩)), (7, (Value.string ⟨#[102, 97, 99, 40, 48, 44, 49, 41, 58, 45, 33, 46, 10, 102, 97, 99, 40, 65, 44, 66, 41, 58, 45, 65, 62, 48, 44, 67, 32, 105, 115, 32, 65, 45, 49, 44, 102, 97, 99, 40, 67, 44, 68, 41, 44, 66, 32, 105, 115, 32, 65, 42, 68, 46, 10]⟩)), (8, (Value.string ⟨#[115, 40, 65, 41, 58, 45, 65, 61, 102, 40, 66, 41, 44, 97, 114, 103, 40, 49, 44, 65, 44, 66, 41, 44, 66, 61, 49, 46, 10, 115, 40, 65, 41, 58, 45, 118, 97, 114, 40, 65, 41, 44, 65, 61, 110, 111, 110, 101, 46, 10]⟩)), (9, (Value.string ⟨#[114, 101, 118, 40, 91, 93, 44, 65, 44, 65, 41, 46, 10, 114, 101, 118, 40, 91, 65, 124, 66, 93, 44, 67, 44, 68, 41, 58, 45, 114, 101, 118, 40, 66, 44, 91, 65, 124, 67, 93, 44, 68, 41, 46, 10]⟩)), (10, (Value.string ⟨#[98, 97, 100, 40, 65, 41, 58, 45, 66, 32, 105, 115, 32, 65, 43, 102, 111, 111, 44, 67, 61, 66, 46, 10, 98, 105, 103, 40, 65, 41, 58, 45, 65, 32, 105, 115, 32, 57, 57, 57, 43, 49, 46, 10, 117, 110, 40, 65, 41, 58, 45, 110, 111, 115, 117, 99, 104, 40, 65, 41, 46, 10]⟩))]) w fun a0 b0 =>
 R (.returned a0) b0
theorem calls_s_l4Texts {w : World} {R : Ending → World → Prop} (h : sh_s_l4Texts w R) : Calls Tryz.prog 136 #[] w R :=
  calls_sh .leaf [] mixed Tryz.func136 (by kernel_rfl) (by kernel_rfl) h


/- (*loop.example/prologserver/spec.l18Rd).num : function 140 -/
def sh_s_l18Rd_num (p0 p1 : Value) (w : World) (R : Ending → World → Prop) : Prop :=
 RR (sBuiltin .len #[63] 3 [false] [p1]) w fun a0 b0 =>
 RR (sCall (Value.func (.func 61) #[] #[]) [p0, a0]) b0 fun c0 d0 =>
 RR (sOp (.indexAddr 63 (.const p1) (.const c0)) 0) d0 fun e0 f0 =>
 RR (sOp (.load 3 (.const e0)) 3) f0 fun g0 h0 =>
 R (.returned g0) h0
theorem calls_s_l18Rd_num {p0 p1 : Value} {w : World} {R : Ending → World → Prop} (h : sh_s_l18Rd_num p0 p1 w R) : Calls Tryz.prog 140 #[p0, p1] w R :=
  calls_sh .leaf [p0, p1] mixed Tryz.func140 (by kernel_rfl) (by kernel_rfl) h


/- loop.example/prologserver/impl.isCut : function 141 -/
def sh_i_isCut (p0 : Value) (w : World) (R : Ending → World → Prop) : Prop :=
 RR (sOp (.box 32 (.const p0)) 0) w fun a0 b0 =>
 RR (sOp (.load 32 (.const a0)) 32) b0 fun c0 d0 =>
 RR (sCall (Value.func (.func 172) #[] #[]) [c0]) d0 fun e0 f0 =>
 GuardV e0 true (
 RR (sOp (.fieldAddr 32 (.const a0) 2) 0) f0 fun g0 h0 =>
 RR (sOp (.load 9 (.const g0)) 9) h0 fun i0 j0 =>
 RR (sBin .eql 9 false true i0 (Value.string ⟨#[33]⟩)) j0 fun k0 l0 =>
 RR (sOp (.pick (.const e0) (.const k0) (.const (Value.bool false))) 4) l0 fun m0 n0 =>
 R (.returned m0) n0) (
 RR (sOp (.pick (.const e0) (.const undef) (.const (Value.bool false))) 4) f0 fun o0 q0 =>
 R (.returned o0) q0)
theorem calls_i_isCut {p0 : Value} {w : World} {R : Ending → World → Prop} (h : sh_i_isCut p0 w R) : Calls Tryz.prog 141 #[p0] w R :=
  calls_sh .leaf [p0] mixed Tryz.func141 (by kernel_rfl) (by kernel_rfl) h


/- loop.example/prologserver/spec.l4Cut : function 147 -/
def sh_s_l4Cut (p0 : Value) (w : World) (R : Ending → World → Prop) : Prop :=
 RR (sOp (.box 32 (.const p0)) 0) w fun a0 b0 =>
 RR (sOp (.fieldAddr 32 (.const a0) 0) 0) b0 fun c0 d0 =>
 RR (sOp (.load 3 (.const c0)) 3) d0 fun e0 f0 =>
 RR (sBin .eql 3 false true e0 (Value.int .i64 3)) f0 fun g0 h0 =>
 GuardV g0 true (
 RR (sOp (.fieldAddr 32 (.const a0) 2) 0) h0 fun i0 j0 =>
 RR (sOp (.load 9 (.const i0)) 9) j0 fun k0 l0 =>
 RR (sBin .eql 9 false true k0 (Value.string ⟨#[33]⟩)) l0 fun m0 n0 =>
 RR (sOp (.pick (.const g0) (.const m0) (.const (Value.bool false))) 4) n0 fun o0 q0 =>
 GuardV o0 true (
 RR (sOp (.fieldAddr 32 (.const a0) 3) 0) q0 fun s0 t0 =>
 RR (sOp (.load 30 (.const s0)) 30) t0 fun u0 v0 =>
 RR (sBuiltin .len #[30] 3 [false] [u0]) v0 fun w0 x0 =>
 RR (sBin .eql 3 false true w0 (Value.int .i64 0)) x0 fun y0 z0 =>
 RR (sOp (.pick (.const o0) (.const y0) (.const (Value.bool false))) 4) z0 fun A0 B0 =>
 R (.returned A0) B0) (
 RR (sOp (.pick (.const o0) (.const undef) (.const (Value.bool false))) 4) q0 fun C0 D0 =>
 R (.returned C0) D0)) (
 RR (sOp (.pick (.const g0) (.const undef) (.const (Value.bool false))) 4) h0 fun E0 F0 =>
 GuardV E0 true (
 RR (sOp (.fieldAddr 32 (.const a0) 3) 0) F0 fun G0 H0 =>
 RR (sOp (.load 30 (.const G0)) 30) H0 fun I0 J0 =>
 RR (sBuiltin .len #[30] 3 [false] [I0]) J0 fun K0 L0 =>
 RR (sBin .eql 3 false true K0 (Value.int .i64 0)) L0 fun M0 N0 =>
 RR (sOp (.pick (.const E0) (.const M0) (.const (Value.bool false))) 4) N0 fun O0 P0 =>
 R (.returned O0) P0) (
 RR (sOp (.pick (.const E0) (.const undef) (.const (Value.bool false))) 4) F0 fun Q0 S0 =>
 R (.returned Q0) S0))
theorem calls_s_l4Cut {p0 : Value} {w : World} {R : Ending → World → Prop} (h : sh_s_l4Cut p0 w R) : Calls Tryz.prog 147 #[p0] w R :=
  calls_sh .leaf [p0] mixed Tryz.func147 (by kernel_rfl) (by kernel_rfl) h


/- loop.example/prologserver/spec.l1Var : function 148 -/
def sh_s_l1Var (p0 : Value) (w : World) (R : Ending → World → Prop) : Prop :=
 RR (sOp (.alloc 32) 0) w fun a0 b0 =>
 RR (sBuild 32 [(0, (Value.int .i64 1)), (1, p0)]) b0 fun c0 d0 =>
 RR (sOp (.store 32 (.const a0) (.const c0)) 0) d0 fun _ e0 =>
 (LoadV Tryz.prog 32 a0 e0 fun r0 => R (.returned r0) e0)
theorem calls_s_l1Var {p0 : Value} {w : World} {R : Ending → World → Prop} (h : sh_s_l1Var p0 w R) : Calls Tryz.prog 148 #[p0] w R :=
  calls_sh .leaf [p0] mixed Tryz.func148 (by kernel_rfl) (by kernel_rfl) h


/- loop.example/prologserver/spec.l1Int : function 149 -/
def sh_s_l1Int (p0 : Value) (w : World) (R : Ending → World → Prop) : Prop :=
 RR (sOp (.alloc 32) 0) w fun a0 b0 =>
 RR (sBuild 32 [(0, (Value.int .i64 2)), (1, p0)]) b0 fun c0 d0 =>
 RR (sOp (.store 32 (.const a0) (.const c0)) 0) d0 fun _ e0 =>
 (LoadV Tryz.prog 32 a0 e0 fun r0 => R (.returned r0) e0)
theorem calls_s_l1Int {p0 : Value} {w : World} {R : Ending → World → Prop} (h : sh_s_l1Int p0 w R) : Calls Tryz.prog 149 #[p0] w R :=
  calls_sh .leaf [p0] mixed Tryz.func149 (by kernel_rfl) (by kernel_rfl) h


/- loop.example/prologserver/spec.l1Copy : function 150 -/
def sh_s_l1Copy (p0 : Value) (w : World) (R : Ending → World → Prop) : Prop :=
 RR (sOp (.box 32 (.const p0)) 0) w fun a0 b0 =>
 RR (sOp (.alloc 32) 0) b0 fun c0 d0 =>
 RR (sOp (.fieldAddr 32 (.const a0) 0) 0) d0 fun e0 f0 =>
 RR (sOp (.load 3 (.const e0)) 3) f0 fun g0 h0 =>
 RR (sOp (.fieldAddr 32 (.const a0) 1) 0) h0 fun i0 j0 =>
 RR (sOp (.load 3 (.const i0)) 3) j0 fun k0 l0 =>
 RR (sOp (.fieldAddr 32 (.const a0) 2) 0) l0 fun m0 n0 =>
 RR (sOp (.load 9 (.const m0)) 9) n0 fun o0 q0 =>
 RR (sBuild 32 [(0, g0), (1, k0), (2, o0)]) q0 fun s0 t0 =>
 RR (sOp (.alloc 32) 0) t0 fun u0 v0 =>
 RR (sOp (.store 32 (.const u0) (.const s0)) 0) v0 fun _u w0 =>
 (∃ (x0 : Value → World → Prop) (y0 : Value → World → Nat), x0 (Value.int .i64 0) w0 ∧
 ∀ z0 _ _ A0 B0 C0 D0 E0 F0 G0 H0 I0 J0 K0 _ _ _ _ _ : Value, ∀ L0 : World, x0 z0 L0 →
 RR (sOp (.fieldAddr 32 (.const a0) 3) 0) L0 fun M0 N0 =>
 RR (sOp (.load 30 (.const M0)) 30) N0 fun O0 P0 =>
 RR (sBuiltin .len #[30] 3 [false] [O0]) P0 fun Q0 S0 =>
 RR (sBin .lss 3 false false z0 Q0) S0 fun T0 U0 =>
 CondV T0 (
 (∃ V0 : (Nat → Bool) → Value → Value → Value → Value → Value → Value → Value → Value → Value → Value → Value → World → Prop, V0 (fun _ => false) A0 B0 C0 D0 E0 F0 G0 H0 I0 J0 K0 { U0 with drawn := U0.drawn + 1 } ∧ (
 (∀ W0 : Nat → Bool, W0 0 = false → ∀ X0 Y0 Z0 a1 b1 c1 d1 e1 f1 g1 h1 : Value, ∀ i1 : World, V0 W0 X0 Y0 Z0 a1 b1 c1 d1 e1 f1 g1 h1 i1 →
 RR (sOp (.fieldAddr 32 (.const u0) 3) 0) i1 fun j1 k1 =>
 V0 (setD W0 0) X0 Y0 Z0 a1 b1 c1 d1 e1 f1 g1 j1 k1) ∧
 (∀ W0 : Nat → Bool, W0 1 = false → W0 0 = true → ∀ X0 Y0 Z0 a1 b1 c1 d1 e1 f1 g1 h1 : Value, ∀ l1 : World, V0 W0 X0 Y0 Z0 a1 b1 c1 d1 e1 f1 g1 h1 l1 →
 RR (sOp (.load 30 (.const h1)) 30) l1 fun m1 n1 =>
 V0 (setD W0 1) X0 Y0 Z0 a1 b1 c1 d1 e1 f1 m1 h1 n1) ∧
 (∀ W0 : Nat → Bool, W0 2 = false → ∀ X0 Y0 Z0 a1 b1 c1 d1 e1 f1 g1 h1 : Value, ∀ o1 : World, V0 W0 X0 Y0 Z0 a1 b1 c1 d1 e1 f1 g1 h1 o1 →
 RR (sOp (.fieldAddr 32 (.const a0) 3) 0) o1 fun q1 s1 =>
 V0 (setD W0 2) X0 Y0 Z0 a1 b1 c1 d1 e1 q1 g1 h1 s1) ∧
 (∀ W0 : Nat → Bool, W0 3 = false → W0 2 = true → ∀ X0 Y0 Z0 a1 b1 c1 d1 e1 f1 g1 h1 : Value, ∀ t1 : World, V0 W0 X0 Y0 Z0 a1 b1 c1 d1 e1 f1 g1 h1 t1 →
 RR (sOp (.load 30 (.const f1)) 30) t1 fun u1 v1 =>
 V0 (setD W0 3) X0 Y0 Z0 a1 b1 c1 d1 u1 f1 g1 h1 v1) ∧
 (∀ W0 : Nat → Bool, W0 4 = false → ∀ X0 Y0 Z0 a1 b1 c1 d1 e1 f1 g1 h1 : Value, ∀ w1 : World, V0 W0 X0 Y0 Z0 a1 b1 c1 d1 e1 f1 g1 h1 w1 →
 V0 (setD W0 4) X0 Y0 Z0 a1 b1 c1 z0 e1 f1 g1 h1 w1) ∧
 (∀ W0 : Nat → Bool, W0 5 = false → W0 3 = true → W0 4 = true → ∀ X0 Y0 Z0 a1 b1 c1 d1 e1 f1 g1 h1 : Value, ∀ x1 : World, V0 W0 X0 Y0 Z0 a1 b1 c1 d1 e1 f1 g1 h1 x1 →
 RR (sOp (.indexAddr 30 (.const e1) (.const d1)) 0) x1 fun y1 z1 =>
 V0 (setD W0 5) X0 Y0 Z0 a1 b1 y1 d1 e1 f1 g1 h1 z1) ∧
 (∀ W0 : Nat → Bool, W0 6 = false → W0 5 = true → ∀ X0 Y0 Z0 a1 b1 c1 d1 e1 f1 g1 h1 : Value, ∀ A1 : World, V0 W0 X0 Y0 Z0 a1 b1 c1 d1 e1 f1 g1 h1 A1 →
 RR (sOp (.load 32 (.const c1)) 32) A1 fun B1 C1 =>
 V0 (setD W0 6) X0 Y0 Z0 a1 B1 c1 d1 e1 f1 g1 h1 C1) ∧
 (∀ W0 : Nat → Bool, W0 7 = false → W0 6 = true → ∀ X0 Y0 Z0 a1 b1 c1 d1 e1 f1 g1 h1 : Value, ∀ D1 : World, V0 W0 X0 Y0 Z0 a1 b1 c1 d1 e1 f1 g1 h1 D1 →
 RR (sCall (Value.func (.func 150) #[] #[]) [b1]) D1 fun E1 F1 =>
 V0 (setD W0 7) X0 Y0 Z0 E1 b1 c1 d1 e1 f1 g1 h1 F1) ∧
 (∀ W0 : Nat → Bool, W0 8 = false → W0 7 = true → ∀ X0 Y0 Z0 a1 b1 c1 d1 e1 f1 g1 h1 : Value, ∀ G1 : World, V0 W0 X0 Y0 Z0 a1 b1 c1 d1 e1 f1 g1 h1 G1 →
 RR (sBuildSlice 30 1 [(0, a1)]) G1 fun H1 I1 =>
 V0 (setD W0 8) X0 Y0 H1 a1 b1 c1 d1 e1 f1 g1 h1 I1) ∧
 (∀ W0 : Nat → Bool, W0 9 = false → W0 1 = true → W0 8 = true → W0 7 = true → ∀ X0 Y0 Z0 a1 b1 c1 d1 e1 f1 g1 h1 : Value, ∀ J1 : World, V0 W0 X0 Y0 Z0 a1 b1 c1 d1 e1 f1 g1 h1 J1 →
 RR (sBuiltin .append #[30, 30] 30 [false, false] [g1, Z0]) J1 fun K1 L1 =>
 V0 (setD W0 9) X0 K1 Z0 a1 b1 c1 d1 e1 f1 g1 h1 L1) ∧
 (∀ W0 : Nat → Bool, W0 10 = false → W0 0 = true → W0 1 = true → W0 2 = true → W0 3 = true → W0 4 = true → W0 5 = true → W0 6 = true → W0 7 = true → W0 8 = true → W0 9 = true → ∀ X0 Y0 Z0 a1 b1 c1 d1 e1 f1 g1 h1 : Value, ∀ M1 : World, V0 W0 X0 Y0 Z0 a1 b1 c1 d1 e1 f1 g1 h1 M1 →
 RR (sOp (.fieldAddr 32 (.const u0) 3) 0) M1 fun N1 O1 =>
 V0 (setD W0 10) N1 Y0 Z0 a1 b1 c1 d1 e1 f1 g1 h1 O1) ∧
 (∀ W0 : Nat → Bool, W0 11 = false → W0 10 = true → W0 9 = true → W0 9 = true → W0 0 = true → W0 1 = true → W0 2 = true → W0 3 = true → W0 4 = true → W0 5 = true → W0 6 = true → W0 7 = true → W0 8 = true → W0 9 = true → ∀ X0 Y0 Z0 a1 b1 c1 d1 e1 f1 g1 h1 : Value, ∀ P1 : World, V0 W0 X0 Y0 Z0 a1 b1 c1 d1 e1 f1 g1 h1 P1 →
 RR (sOp (.store 30 (.const X0) (.const Y0)) 0) P1 fun _u Q1 =>
 V0 (setD W0 11) X0 Y0 Z0 a1 b1 c1 d1 e1 f1 g1 h1 Q1) ∧
 True) ∧
 ∀ W0 : Nat → Bool, W0 11 = true → W0 10 = true → W0 9 = true → W0 8 = true → W0 7 = true → W0 6 = true → W0 5 = true → W0 4 = true → W0 3 = true → W0 2 = true → W0 1 = true → W0 0 = true → ∀ X0 Y0 Z0 a1 b1 c1 d1 e1 f1 g1 h1 : Value, ∀ S1 : World, V0 W0 X0 Y0 Z0 a1 b1 c1 d1 e1 f1 g1 h1 S1 →
 RR (sBin .add 3 false true z0 (Value.int .i64 1)) S1 fun T1 U1 =>
 x0 T1 U1 ∧ y0 T1 U1 < y0 z0 L0)) (
 RR (sOp (.load 32 (.const u0)) 32) U0 fun V1 W1 =>
 RR (sOp (.store 32 (.const c0) (.const V1)) 0) W1 fun _ X1 =>
 (LoadV Tryz.prog 32 c0 X1 fun r0 => R (.returned r0) X1)))
theorem calls_s_l1Copy {p0 : Value} {w : World} {R : Ending → World → Prop} (h : sh_s_l1Copy p0 w R) : Calls Tryz.prog 150 #[p0] w R :=
  calls_sh (.seq none .leaf (.seq none .leaf (.seq none (.seq none .leaf (.one (.loop [4] .leaf))) .leaf))) [p0] mixed Tryz.func150 (by kernel_rfl) (by kernel_rfl) h


/- loop.example/prologserver/spec.l4Goal : function 151 -/
def sh_s_l4Goal (p0 : Value) (w : World) (R : Ending → World → Prop) : Prop :=
 RR (sOp (.box 32 (.const p0)) 0) w fun a0 b0 =>
 RR (sOp (.load 32 (.const a0)) 32) b0 fun c0 d0 =>
 RR (sCall (Value.func (.func 147) #[] #[]) [c0]) d0 fun e0 f0 =>
 GuardV e0 false (
 RR (sOp (.load 32 (.const a0)) 32) f0 fun g0 h0 =>
 RR (sCall (Value.func (.func 116) #[] #[]) [g0]) h0 fun i0 j0 =>
 RR (sOp (.pick (.const e0) (.const (Value.bool true)) (.const i0)) 4) j0 fun k0 l0 =>
 GuardV k0 false (
 RR (sOp (.fieldAddr 32 (.const a0) 0) 0) l0 fun m0 n0 =>
 RR (sOp (.load 3 (.const m0)) 3) n0 fun o0 q0 =>
 RR (sBin .eql 3 false true o0 (Value.int .i64 3)) q0 fun s0 t0 =>
 GuardV s0 true (
 RR (sOp (.fieldAddr 32 (.const a0) 2) 0) t0 fun u0 v0 =>
 RR (sOp (.load 9 (.const u0)) 9) v0 fun w0 x0 =>
 RR (sOp (.fieldAddr 32 (.const a0) 3) 0) x0 fun y0 z0 =>
 RR (sOp (.load 30 (.const y0)) 30) z0 fun A0 B0 =>
 RR (sBuiltin .len #[30] 3 [false] [A0]) B0 fun C0 D0 =>
 RR (sCall (Value.func (.func 155) #[] #[]) [w0, C0]) D0 fun E0 F0 =>
 GuardV k0 false (
 RR (sOp (.pick (.const s0) (.const E0) (.const (Value.bool false))) 4) F0 fun G0 H0 =>
 RR (sOp (.pick (.const k0) (.const (Value.bool true)) (.const G0)) 4) H0 fun I0 J0 =>
 R (.returned I0) J0) (
 RR (sOp (.pick (.const k0) (.const (Value.bool true)) (.const undef)) 4) F0 fun K0 L0 =>
 R (.returned K0) L0)) (
 GuardV k0 false (
 RR (sOp (.pick (.const s0) (.const undef) (.const (Value.bool false))) 4) t0 fun M0 N0 =>
 RR (sOp (.pick (.const k0) (.const (Value.bool true)) (.const M0)) 4) N0 fun O0 P0 =>
 R (.returned O0) P0) (
 RR (sOp (.pick (.const k0) (.const (Value.bool true)) (.const undef)) 4) t0 fun Q0 S0 =>
 R (.returned Q0) S0))) (
 GuardV undef true (
 RR (sOp (.fieldAddr 32 (.const a0) 2) 0) l0 fun T0 U0 =>
 RR (sOp (.load 9 (.const T0)) 9) U0 fun V0 W0 =>
 RR (sOp (.fieldAddr 32 (.const a0) 3) 0) W0 fun X0 Y0 =>
 RR (sOp (.load 30 (.const X0)) 30) Y0 fun Z0 a1 =>
 RR (sBuiltin .len #[30] 3 [false] [Z0]) a1 fun b1 c1 =>
 RR (sCall (Value.func (.func 155) #[] #[]) [V0, b1]) c1 fun d1 e1 =>
 GuardV k0 false (
 RR (sOp (.pick (.const undef) (.const d1) (.const (Value.bool false))) 4) e1 fun f1 g1 =>
 RR (sOp (.pick (.const k0) (.const (Value.bool true)) (.const f1)) 4) g1 fun h1 i1 =>
 R (.returned h1) i1) (
 RR (sOp (.pick (.const k0) (.const (Value.bool true)) (.const undef)) 4) e1 fun j1 k1 =>
 R (.returned j1) k1)) (
 GuardV k0 false (
 RR (sOp (.pick (.const undef) (.const undef) (.const (Value.bool false))) 4) l0 fun l1 m1 =>
 RR (sOp (.pick (.const k0) (.const (Value.bool true)) (.const l1)) 4) m1 fun n1 o1 =>
 R (.returned n1) o1) (
 RR (sOp (.pick (.const k0) (.const (Value.bool true)) (.const undef)) 4) l0 fun q1 s1 =>
 R (.returned q1) s1)))) (
 RR (sOp (.pick (.const e0) (.const (Value.bool true)) (.const undef)) 4) f0 fun t1 u1 =>
 GuardV t1 false (
 RR (sOp (.fieldAddr 32 (.const a0) 0) 0) u1 fun v1 w1 =>
 RR (sOp (.load 3 (.const v1)) 3) w1 fun x1 y1 =>
 RR (sBin .eql 3 false true x1 (Value.int .i64 3)) y1 fun z1 A1 =>
 GuardV z1 true (
 RR (sOp (.fieldAddr 32 (.const a0) 2) 0) A1 fun B1 C1 =>
 RR (sOp (.load 9 (.const B1)) 9) C1 fun D1 E1 =>
 RR (sOp (.fieldAddr 32 (.const a0) 3) 0) E1 fun F1 G1 =>
 RR (sOp (.load 30 (.const F1)) 30) G1 fun H1 I1 =>
 RR (sBuiltin .len #[30] 3 [false] [H1]) I1 fun J1 K1 =>
 RR (sCall (Value.func (.func 155) #[] #[]) [D1, J1]) K1 fun L1 M1 =>
 GuardV t1 false (
 RR (sOp (.pick (.const z1) (.const L1) (.const (Value.bool false))) 4) M1 fun N1 O1 =>
 RR (sOp (.pick (.const t1) (.const (Value.bool true)) (.const N1)) 4) O1 fun P1 Q1 =>
 R (.returned P1) Q1) (
 RR (sOp (.pick (.const t1) (.const (Value.bool true)) (.const undef)) 4) M1 fun S1 T1 =>
 R (.returned S1) T1)) (
 GuardV t1 false (
 RR (sOp (.pick (.const z1) (.const undef) (.const (Value.bool false))) 4) A1 fun U1 V1 =>
 RR (sOp (.pick (.const t1) (.const (Value.bool true)) (.const U1)) 4) V1 fun W1 X1 =>
 R (.returned W1) X1) (
 RR (sOp (.pick (.const t1) (.const (Value.bool true)) (.const undef)) 4) A1 fun Y1 Z1 =>
 R (.returned Y1) Z1))) (
 GuardV undef true (
 RR (sOp (.fieldAddr 32 (.const a0) 2) 0) u1 fun a2 b2 =>
 RR (sOp (.load 9 (.const a2)) 9) b2 fun c2 d2 =>
 RR (sOp (.fieldAddr 32 (.const a0) 3) 0) d2 fun e2 f2 =>
 RR (sOp (.load 30 (.const e2)) 30) f2 fun g2 h2 =>
 RR (sBuiltin .len #[30] 3 [false] [g2]) h2 fun i2 j2 =>
 RR (sCall (Value.func (.func 155) #[] #[]) [c2, i2]) j2 fun k2 l2 =>
 GuardV t1 false (
 RR (sOp (.pick (.const undef) (.const k2) (.const (Value.bool false))) 4) l2 fun m2 n2 =>
 RR (sOp (.pick (.const t1) (.const (Value.bool true)) (.const m2)) 4) n2 fun o2 q2 =>
 R (.returned o2) q2) (
 RR (sOp (.pick (.const t1) (.const (Value.bool true)) (.const undef)) 4) l2 fun s2 t2 =>
 R (.returned s2) t2)) (
 GuardV t1 false (
 RR (sOp (.pick (.const undef) (.const undef) (.const (Value.bool false))) 4) u1 fun u2 v2 =>
 RR (sOp (.pick (.const t1) (.const (Value.bool true)) (.const u2)) 4) v2 fun w2 x2 =>
 R (.returned w2) x2) (
 RR (sOp (.pick (.const t1) (.const (Value.bool true)) (.const undef)) 4) u1 fun y2 z2 =>
 R (.returned y2) z2))))
theorem calls_s_l4Goal {p0 : Value} {w : World} {R : Ending → World → Prop} (h : sh_s_l4Goal p0 w R) : Calls Tryz.prog 151 #[p0] w R :=
  calls_sh .leaf [p0] mixed Tryz.func151 (by kernel_rfl) (by kernel_rfl) h


/- loop.example/prologserver/spec.l1Shape : function 152 -/
def sh_s_l1Shape (p0 p1 : Value) (w : World) (R : Ending → World → Prop) : Prop :=
 RR (sOp (.box 32 (.const p0)) 0) w fun a0 b0 =>
 (∃ c0 : Value → World → Prop, (
 RR (sBin .lss 3 false true p1 (Value.int .i64 1)) b0 fun d0 e0 =>
 GuardV d0 false (
 RR (sOp (.load 32 (.const a0)) 32) e0 fun f0 g0 =>
 RR (sCall (Value.func (.func 176) #[] #[]) [f0]) g0 fun h0 i0 =>
 RR (sOp (.unOp .not 4 (.const h0)) 4) i0 fun j0 k0 =>
 RR (sOp (.pick (.const d0) (.const (Value.bool true)) (.const j0)) 4) k0 fun l0 m0 =>
 c0 l0 m0) (
 RR (sOp (.pick (.const d0) (.const (Value.bool true)) (.const undef)) 4) e0 fun n0 o0 =>
 c0 n0 o0)) ∧
 ∀ q0 _ _ _ _ _ _ : Value, ∀ s0 : World, c0 q0 s0 →
 CondV q0 (
 R (.returned (Value.bool false)) s0) (
 (∃ (t0 : Value → World → Prop) (u0 : Value → World → Nat), t0 (Value.int .i64 0) s0 ∧
 ∀ v0 _ _ _ _ _ _ _ _ _ _ _ _ _ _ _ _ _ : Value, ∀ w0 : World, t0 v0 w0 →
 RR (sOp (.fieldAddr 32 (.const a0) 3) 0) w0 fun x0 y0 =>
 RR (sOp (.load 30 (.const x0)) 30) y0 fun z0 A0 =>
 RR (sBuiltin .len #[30] 3 [false] [z0]) A0 fun B0 C0 =>
 RR (sBin .lss 3 false false v0 B0) C0 fun D0 E0 =>
 CondV D0 (
 RR (sOp (.fieldAddr 32 (.const a0) 3) 0) E0 fun F0 G0 =>
 RR (sOp (.load 30 (.const F0)) 30) G0 fun H0 I0 =>
 RR (sOp (.indexAddr 30 (.const H0) (.const v0)) 0) I0 fun J0 K0 =>
 RR (sOp (.load 32 (.const J0)) 32) K0 fun L0 M0 =>
 RR (sBin .sub 3 false true p1 (Value.int .i64 1)) M0 fun N0 O0 =>
 RR (sCall (Value.func (.func 152) #[] #[]) [L0, N0]) O0 fun P0 Q0 =>
 RR (sOp (.unOp .not 4 (.const P0)) 4) Q0 fun S0 T0 =>
 CondV S0 (
 R (.returned (Value.bool false)) T0) (
 RR (sBin .add 3 false true v0 (Value.int .i64 1)) T0 fun U0 V0 =>
 t0 U0 V0 ∧ u0 U0 V0 < u0 v0 w0)) (
 R (.returned (Value.bool true)) E0))))
theorem calls_s_l1Shape {p0 p1 : Value} {w : World} {R : Ending → World → Prop} (h : sh_s_l1Shape p0 p1 w R) : Calls Tryz.prog 152 #[p0, p1] w R :=
  calls_sh (.seq none .leaf (.seq none (.seq (some [12]) .leaf .leaf) (.seq none (.seq none .leaf (.one (.loop [5] .leaf))) .leaf))) [p0, p1] mixed Tryz.func152 (by kernel_rfl) (by kernel_rfl) h


/- loop.example/prologserver/spec.l1Count : function 153 -/
def sh_s_l1Count (p0 p1 : Value) (w : World) (R : Ending → World → Prop) : Prop :=
 RR (sOp (.box 32 (.const p0)) 0) w fun a0 b0 =>
 (∃ (c0 : Value → Value → World → Prop) (d0 : Value → Value → World → Nat), c0 (Value.int .i64 0) (Value.int .i64 1) b0 ∧
 ∀ e0 _ _ f0 _ _ _ _ _ _ _ _ _ _ _ _ _ _ _ _ _ _ _ _ _ : Value, ∀ g0 : World, c0 e0 f0 g0 →
 (∃ h0 : Value → World → Prop, (
 RR (sOp (.fieldAddr 32 (.const a0) 3) 0) g0 fun i0 j0 =>
 RR (sOp (.load 30 (.const i0)) 30) j0 fun k0 l0 =>
 RR (sBuiltin .len #[30] 3 [false] [k0]) l0 fun m0 n0 =>
 RR (sBin .lss 3 false false e0 m0) n0 fun o0 q0 =>
 GuardV o0 true (
 RR (sBin .leq 3 false false f0 p1) q0 fun s0 t0 =>
 RR (sOp (.pick (.const o0) (.const s0) (.const (Value.bool false))) 4) t0 fun u0 v0 =>
 h0 u0 v0) (
 RR (sOp (.pick (.const o0) (.const undef) (.const (Value.bool false))) 4) q0 fun w0 x0 =>
 h0 w0 x0)) ∧
 ∀ y0 _ _ _ _ _ _ _ _ _ : Value, ∀ z0 : World, h0 y0 z0 →
 CondV y0 (
 RR (sOp (.fieldAddr 32 (.const a0) 3) 0) z0 fun A0 B0 =>
 RR (sOp (.load 30 (.const A0)) 30) B0 fun C0 D0 =>
 RR (sOp (.indexAddr 30 (.const C0) (.const e0)) 0) D0 fun E0 F0 =>
 RR (sOp (.load 32 (.const E0)) 32) F0 fun G0 H0 =>
 RR (sBin .sub 3 false false p1 f0) H0 fun I0 J0 =>
 RR (sCall (Value.func (.func 153) #[] #[]) [G0, I0]) J0 fun K0 L0 =>
 RR (sBin .add 3 false false f0 K0) L0 fun M0 N0 =>
 RR (sBin .add 3 false true e0 (Value.int .i64 1)) N0 fun O0 P0 =>
 c0 O0 M0 P0 ∧ d0 O0 M0 P0 < d0 e0 f0 g0) (
 R (.returned f0) z0)))
theorem calls_s_l1Count {p0 p1 : Value} {w : World} {R : Ending → World → Prop} (h : sh_s_l1Count p0 p1 w R) : Calls Tryz.prog 153 #[p0, p1] w R :=
  calls_sh (.seq none .leaf (.seq none .leaf (.seq none (.seq none .leaf (.one (.loop [6, 5] (.seq none (.seq (some [16]) .leaf .leaf) .leaf)))) .leaf))) [p0, p1] mixed Tryz.func153 (by kernel_rfl) (by kernel_rfl) h


/- loop.example/prologserver/spec.l1Word : function 154 -/
def sh_s_l1Word (p0 : Value) (w : World) (R : Ending → World → Prop) : Prop :=
 (∃ (a0 : Value → World → Prop) (b0 : Value → World → Nat), a0 (Value.int .i64 0) w ∧
 ∀ c0 _ _ _ _ _ _ _ _ _ _ _ _ _ _ _ _ _ : Value, ∀ d0 : World, a0 c0 d0 →
 RR (sBuiltin .len #[9] 3 [false] [p0]) d0 fun e0 f0 =>
 RR (sBin .lss 3 false false c0 e0) f0 fun g0 h0 =>
 CondV g0 (
 (∃ i0 : Value → World → Prop, (
 RR (sOp (.index 9 (.const p0) (.const c0)) 5) h0 fun j0 k0 =>
 RR (sBin .lss 5 false true j0 (Value.int .u8 97)) k0 fun l0 m0 =>
 GuardV l0 false (
 RR (sOp (.index 9 (.const p0) (.const c0)) 5) m0 fun n0 o0 =>
 RR (sBin .gtr 5 false true n0 (Value.int .u8 122)) o0 fun q0 s0 =>
 RR (sOp (.pick (.const l0) (.const (Value.bool true)) (.const q0)) 4) s0 fun t0 u0 =>
 i0 t0 u0) (
 RR (sOp (.pick (.const l0) (.const (Value.bool true)) (.const undef)) 4) m0 fun v0 w0 =>
 i0 v0 w0)) ∧
 ∀ x0 _ _ _ _ _ _ _ _ _ : Value, ∀ y0 : World, i0 x0 y0 →
 CondV x0 (
 R (.returned (Value.bool false)) y0) (
 RR (sBin .add 3 false true c0 (Value.int .i64 1)) y0 fun z0 A0 =>
 a0 z0 A0 ∧ b0 z0 A0 < b0 c0 d0))) (
 RR (sBuiltin .len #[9] 3 [false] [p0]) h0 fun B0 C0 =>
 RR (sBin .geq 3 false true B0 (Value.int .i64 1)) C0 fun D0 E0 =>
 GuardV D0 true (
 RR (sBuiltin .len #[9] 3 [false] [p0]) E0 fun F0 G0 =>
 RR (sBin .leq 3 false true F0 (Value.int .i64 6)) G0 fun H0 I0 =>
 RR (sOp (.pick (.const D0) (.const H0) (.const (Value.bool false))) 4) I0 fun J0 K0 =>
 R (.returned J0) K0) (
 RR (sOp (.pick (.const D0) (.const undef) (.const (Value.bool false))) 4) E0 fun L0 M0 =>
 R (.returned L0) M0)))
theorem calls_s_l1Word {p0 : Value} {w : World} {R : Ending → World → Prop} (h : sh_s_l1Word p0 w R) : Calls Tryz.prog 154 #[p0] w R :=
  calls_sh (.seq none .leaf (.seq none (.seq none .leaf (.one (.loop [3] (.seq none .leaf (.seq none (.one (.seq (some [19]) .leaf .leaf)) .leaf))))) .leaf)) [p0] mixed Tryz.func154 (by kernel_rfl) (by kernel_rfl) h


/- loop.example/prologserver/spec.IsBuiltin : function 155 -/
def sh_s_IsBuiltin (p0 p1 : Value) (w : World) (R : Ending → World → Prop) : Prop :=
 (∃ a0 : Value → World → Prop, (
 RR (sBin .eql 9 false true p0 (Value.string ⟨#[61]⟩)) w fun b0 c0 =>
 CondV b0 (
 a0 b0 c0) (
 RR (sBin .eql 9 false true p0 (Value.string ⟨#[92, 61]⟩)) c0 fun d0 e0 =>
 CondV d0 (
 a0 d0 e0) (
 RR (sBin .eql 9 false true p0 (Value.string ⟨#[61, 61]⟩)) e0 fun f0 g0 =>
 CondV f0 (
 a0 f0 g0) (
 RR (sBin .eql 9 false true p0 (Value.string ⟨#[60]⟩)) g0 fun h0 i0 =>
 CondV h0 (
 a0 h0 i0) (
 RR (sBin .eql 9 false true p0 (Value.string ⟨#[62]⟩)) i0 fun j0 k0 =>
 CondV j0 (
 a0 j0 k0) (
 RR (sBin .eql 9 false true p0 (Value.string ⟨#[61, 60]⟩)) k0 fun l0 m0 =>
 CondV l0 (
 a0 l0 m0) (
 RR (sBin .eql 9 false true p0 (Value.string ⟨#[62, 61]⟩)) m0 fun n0 o0 =>
 CondV n0 (
 a0 n0 o0) (
 RR (sBin .eql 9 false true p0 (Value.string ⟨#[61, 58, 61]⟩)) o0 fun q0 s0 =>
 CondV q0 (
 a0 q0 s0) (
 RR (sBin .eql 9 false true p0 (Value.string ⟨#[105, 115]⟩)) s0 fun t0 u0 =>
 a0 t0 u0))))))))) ∧
 ∀ _ _ _ _ _ _ _ _ v0 _ : Value, ∀ w0 : World, a0 v0 w0 →
 CondV v0 (
 RR (sBin .eql 3 false true p1 (Value.int .i64 2)) w0 fun x0 y0 =>
 R (.returned x0) y0) (
 (∃ z0 : Value → World → Prop, (
 RR (sBin .eql 9 false true p0 (Value.string ⟨#[116, 114, 117, 101]⟩)) w0 fun A0 B0 =>
 CondV A0 (
 z0 A0 B0) (
 RR (sBin .eql 9 false true p0 (Value.string ⟨#[102, 97, 105, 108]⟩)) B0 fun C0 D0 =>
 z0 C0 D0)) ∧
 ∀ _ E0 _ : Value, ∀ F0 : World, z0 E0 F0 →
 CondV E0 (
 RR (sBin .eql 3 false true p1 (Value.int .i64 0)) F0 fun G0 H0 =>
 R (.returned G0) H0) (
 (∃ I0 : Value → World → Prop, (
 RR (sBin .eql 9 false true p0 (Value.string ⟨#[118, 97, 114]⟩)) F0 fun J0 K0 =>
 CondV J0 (
 I0 J0 K0) (
 RR (sBin .eql 9 false true p0 (Value.string ⟨#[110, 111, 110, 118, 97, 114]⟩)) K0 fun L0 M0 =>
 CondV L0 (
 I0 L0 M0) (
 RR (sBin .eql 9 false true p0 (Value.string ⟨#[97, 116, 111, 109]⟩)) M0 fun N0 O0 =>
 CondV N0 (
 I0 N0 O0) (
 RR (sBin .eql 9 false true p0 (Value.string ⟨#[105, 110, 116]⟩)) O0 fun P0 Q0 =>
 I0 P0 Q0)))) ∧
 ∀ _ _ _ S0 _ : Value, ∀ T0 : World, I0 S0 T0 →
 CondV S0 (
 RR (sBin .eql 3 false true p1 (Value.int .i64 1)) T0 fun U0 V0 =>
 R (.returned U0) V0) (
 RR (sBin .eql 9 false true p0 (Value.string ⟨#[97, 114, 103]⟩)) T0 fun W0 X0 =>
 CondV W0 (
 RR (sBin .eql 3 false true p1 (Value.int .i64 3)) X0 fun Y0 Z0 =>
 R (.returned Y0) Z0) (
 R (.returned (Value.bool false)) X0)))))))
theorem calls_s_IsBuiltin {p0 p1 : Value} {w : World} {R : Ending → World → Prop} (h : sh_s_IsBuiltin p0 p1 w R) : Calls Tryz.prog 155 #[p0, p1] w R :=
  calls_sh (.seq none .leaf (.seq none (.seq none .leaf (.one (.seq (some [6]) .leaf (.two .leaf (.seq (some [18]) .leaf (.two .leaf (.seq (some [23]) .leaf .leaf))))))) .leaf)) [p0, p1] mixed Tryz.func155 (by kernel_rfl) (by kernel_rfl) h


/- loop.example/prologserver/spec.l2Level : function 156 -/
def sh_s_l2Level (p0 : Value) (w : World) (R : Ending → World → Prop) : Prop :=
 (∃ a0 : Value → World → Prop, (
 RR (sBin .eql 9 false true p0 (Value.string ⟨#[61]⟩)) w fun b0 c0 =>
 CondV b0 (
 a0 b0 c0) (
 RR (sBin .eql 9 false true p0 (Value.string ⟨#[92, 61]⟩)) c0 fun d0 e0 =>
 CondV d0 (
 a0 d0 e0) (
 RR (sBin .eql 9 false true p0 (Value.string ⟨#[61, 61]⟩)) e0 fun f0 g0 =>
 CondV f0 (
 a0 f0 g0) (
 RR (sBin .eql 9 false true p0 (Value.string ⟨#[60]⟩)) g0 fun h0 i0 =>
 CondV h0 (
 a0 h0 i0) (
 RR (sBin .eql 9 false true p0 (Value.string ⟨#[62]⟩)) i0 fun j0 k0 =>
 CondV j0 (
 a0 j0 k0) (
 RR (sBin .eql 9 false true p0 (Value.string ⟨#[61, 60]⟩)) k0 fun l0 m0 =>
 CondV l0 (
 a0 l0 m0) (
 RR (sBin .eql 9 false true p0 (Value.string ⟨#[62, 61]⟩)) m0 fun n0 o0 =>
 CondV n0 (
 a0 n0 o0) (
 RR (sBin .eql 9 false true p0 (Value.string ⟨#[61, 58, 61]⟩)) o0 fun q0 s0 =>
 CondV q0 (
 a0 q0 s0) (
 RR (sBin .eql 9 false true p0 (Value.string ⟨#[105, 115]⟩)) s0 fun t0 u0 =>
 a0 t0 u0))))))))) ∧
 ∀ _ _ _ _ _ _ _ _ v0 _ : Value, ∀ w0 : World, a0 v0 w0 →
 CondV v0 (
 R (.returned (Value.int .i64 3)) w0) (
 (∃ x0 : Value → World → Prop, (
 RR (sBin .eql 9 false true p0 (Value.string ⟨#[43]⟩)) w0 fun y0 z0 =>
 CondV y0 (
 x0 y0 z0) (
 RR (sBin .eql 9 false true p0 (Value.string ⟨#[45]⟩)) z0 fun A0 B0 =>
 x0 A0 B0)) ∧
 ∀ _ C0 _ : Value, ∀ D0 : World, x0 C0 D0 →
 CondV C0 (
 R (.returned (Value.int .i64 2)) D0) (
 (∃ E0 : Value → World → Prop, (
 RR (sBin .eql 9 false true p0 (Value.string ⟨#[42]⟩)) D0 fun F0 G0 =>
 CondV F0 (
 E0 F0 G0) (
 RR (sBin .eql 9 false true p0 (Value.string ⟨#[47, 47]⟩)) G0 fun H0 I0 =>
 CondV H0 (
 E0 H0 I0) (
 RR (sBin .eql 9 false true p0 (Value.string ⟨#[109, 111, 100]⟩)) I0 fun J0 K0 =>
 E0 J0 K0))) ∧
 ∀ _ _ L0 _ : Value, ∀ M0 : World, E0 L0 M0 →
 CondV L0 (
 R (.returned (Value.int .i64 1)) M0) (
 R (.returned (Value.int .i64 0)) M0))))))
theorem calls_s_l2Level {p0 : Value} {w : World} {R : Ending → World → Prop} (h : sh_s_l2Level p0 w R) : Calls Tryz.prog 156 #[p0] w R :=
  calls_sh (.seq none .leaf (.seq none (.seq none .leaf (.one (.seq (some [4]) .leaf (.two .leaf (.seq (some [14]) .leaf (.two .leaf (.seq (some [17]) .leaf .leaf))))))) .leaf)) [p0] mixed Tryz.func156 (by kernel_rfl) (by kernel_rfl) h


/- loop.example/prologserver/impl.NameValid : function 157 -/
def sh_i_NameValid (p0 : Value) (w : World) (R : Ending → World → Prop) : Prop :=
 RR (sCall (Value.func (.func 119) #[] #[]) [p0]) w fun a0 b0 =>
 GuardV a0 false (
 RR (sCall (Value.func (.func 178) #[] #[]) []) b0 fun c0 d0 =>
 RR (sCall (Value.func (.func 177) #[] #[]) [c0, p0]) d0 fun e0 f0 =>
 RR (sOp (.pick (.const a0) (.const (Value.bool true)) (.const e0)) 4) f0 fun g0 h0 =>
 R (.returned g0) h0) (
 RR (sOp (.pick (.const a0) (.const (Value.bool true)) (.const undef)) 4) b0 fun i0 j0 =>
 R (.returned i0) j0)
theorem calls_i_NameValid {p0 : Value} {w : World} {R : Ending → World → Prop} (h : sh_i_NameValid p0 w R) : Calls Tryz.prog 157 #[p0] w R :=
  calls_sh .leaf [p0] mixed Tryz.func157 (by kernel_rfl) (by kernel_rfl) h


/- loop.example/prologserver/impl.scan$1 : function 158 -/
def sh_i_scan_1 (p0 p1 p2 : Value) (w : World) (R : Ending → World → Prop) : Prop :=
 RR (sOp (.box 32 (.const p0)) 0) w fun a0 b0 =>
 RR (sOp (.load 32 (.const a0)) 32) b0 fun c0 d0 =>
 RR (sOp (.load 3 (.const p1)) 3) d0 fun e0 f0 =>
 RR (sBin .add 3 false true e0 (Value.int .i64 1)) f0 fun g0 h0 =>
 RR (sOp (.load 111 (.const p2)) 111) h0 fun i0 j0 =>
 RR (sCall (Value.func (.func 118) #[] #[]) [c0, g0, i0]) j0 fun k0 l0 =>
 RR (sOp (.unOp .not 4 (.const k0)) 4) l0 fun m0 n0 =>
 R (.returned m0) n0
theorem calls_i_scan_1 {p0 p1 p2 : Value} {w : World} {R : Ending → World → Prop} (h : sh_i_scan_1 p0 p1 p2 w R) : Calls Tryz.prog 158 #[p0, p1, p2] w R :=
  calls_sh .leaf [p0, p1, p2] mixed Tryz.func158 (by kernel_rfl) (by kernel_rfl) h


/- loop.example/prologserver/impl.OpLevel : function 159 -/
def sh_i_OpLevel (p0 : Value) (w : World) (R : Ending → World → Prop) : Prop :=
 (∃ a0 : Value → World → Prop, (
 RR (sBin .eql 9 false true p0 (Value.string ⟨#[61]⟩)) w fun b0 c0 =>
 CondV b0 (
 a0 b0 c0) (
 RR (sBin .eql 9 false true p0 (Value.string ⟨#[92, 61]⟩)) c0 fun d0 e0 =>
 CondV d0 (
 a0 d0 e0) (
 RR (sBin .eql 9 false true p0 (Value.string ⟨#[61, 61]⟩)) e0 fun f0 g0 =>
 CondV f0 (
 a0 f0 g0) (
 RR (sBin .eql 9 false true p0 (Value.string ⟨#[60]⟩)) g0 fun h0 i0 =>
 CondV h0 (
 a0 h0 i0) (
 RR (sBin .eql 9 false true p0 (Value.string ⟨#[62]⟩)) i0 fun j0 k0 =>
 CondV j0 (
 a0 j0 k0) (
 RR (sBin .eql 9 false true p0 (Value.string ⟨#[61, 60]⟩)) k0 fun l0 m0 =>
 CondV l0 (
 a0 l0 m0) (
 RR (sBin .eql 9 false true p0 (Value.string ⟨#[62, 61]⟩)) m0 fun n0 o0 =>
 CondV n0 (
 a0 n0 o0) (
 RR (sBin .eql 9 false true p0 (Value.string ⟨#[61, 58, 61]⟩)) o0 fun q0 s0 =>
 CondV q0 (
 a0 q0 s0) (
 RR (sBin .eql 9 false true p0 (Value.string ⟨#[105, 115]⟩)) s0 fun t0 u0 =>
 a0 t0 u0))))))))) ∧
 ∀ _ _ _ _ _ _ _ _ v0 _ : Value, ∀ w0 : World, a0 v0 w0 →
 CondV v0 (
 R (.returned (.tuple #[(Value.int .i64 3), (Value.bool false)])) w0) (
 (∃ x0 : Value → World → Prop, (
 RR (sBin .eql 9 false true p0 (Value.string ⟨#[43]⟩)) w0 fun y0 z0 =>
 CondV y0 (
 x0 y0 z0) (
 RR (sBin .eql 9 false true p0 (Value.string ⟨#[45]⟩)) z0 fun A0 B0 =>
 x0 A0 B0)) ∧
 ∀ _ C0 _ : Value, ∀ D0 : World, x0 C0 D0 →
 CondV C0 (
 R (.returned (.tuple #[(Value.int .i64 2), (Value.bool true)])) D0) (
 (∃ E0 : Value → World → Prop, (
 RR (sBin .eql 9 false true p0 (Value.string ⟨#[42]⟩)) D0 fun F0 G0 =>
 CondV F0 (
 E0 F0 G0) (
 RR (sBin .eql 9 false true p0 (Value.string ⟨#[47, 47]⟩)) G0 fun H0 I0 =>
 CondV H0 (
 E0 H0 I0) (
 RR (sBin .eql 9 false true p0 (Value.string ⟨#[109, 111, 100]⟩)) I0 fun J0 K0 =>
 E0 J0 K0))) ∧
 ∀ _ _ L0 _ : Value, ∀ M0 : World, E0 L0 M0 →
 CondV L0 (
 R (.returned (.tuple #[(Value.int .i64 1), (Value.bool true)])) M0) (
 R (.returned (.tuple #[(Value.int .i64 0), (Value.bool false)])) M0))))))
theorem calls_i_OpLevel {p0 : Value} {w : World} {R : Ending → World → Prop} (h : sh_i_OpLevel p0 w R) : Calls Tryz.prog 159 #[p0] w R :=
  calls_sh (.seq none .leaf (.seq none (.seq none .leaf (.one (.seq (some [5]) .leaf (.two .leaf (.seq (some [15]) .leaf (.two .leaf (.seq (some [18]) .leaf .leaf))))))) .leaf)) [p0] mixed Tryz.func159 (by kernel_rfl) (by kernel_rfl) h


/- loop.example/prologserver/impl.IsBuiltin : function 160 -/
def sh_i_IsBuiltin (p0 p1 : Value) (w : World) (R : Ending → World → Prop) : Prop :=
 (∃ a0 : Value → World → Prop, (
 RR (sBin .eql 9 false true p0 (Value.string ⟨#[61]⟩)) w fun b0 c0 =>
 CondV b0 (
 a0 b0 c0) (
 RR (sBin .eql 9 false true p0 (Value.string ⟨#[92, 61]⟩)) c0 fun d0 e0 =>
 CondV d0 (
 a0 d0 e0) (
 RR (sBin .eql 9 false true p0 (Value.string ⟨#[61, 61]⟩)) e0 fun f0 g0 =>
 CondV f0 (
 a0 f0 g0) (
 RR (sBin .eql 9 false true p0 (Value.string ⟨#[60]⟩)) g0 fun h0 i0 =>
 CondV h0 (
 a0 h0 i0) (
 RR (sBin .eql 9 false true p0 (Value.string ⟨#[62]⟩)) i0 fun j0 k0 =>
 CondV j0 (
 a0 j0 k0) (
 RR (sBin .eql 9 false true p0 (Value.string ⟨#[61, 60]⟩)) k0 fun l0 m0 =>
 CondV l0 (
 a0 l0 m0) (
 RR (sBin .eql 9 false true p0 (Value.string ⟨#[62, 61]⟩)) m0 fun n0 o0 =>
 CondV n0 (
 a0 n0 o0) (
 RR (sBin .eql 9 false true p0 (Value.string ⟨#[61, 58, 61]⟩)) o0 fun q0 s0 =>
 CondV q0 (
 a0 q0 s0) (
 RR (sBin .eql 9 false true p0 (Value.string ⟨#[105, 115]⟩)) s0 fun t0 u0 =>
 a0 t0 u0))))))))) ∧
 ∀ _ _ _ _ _ _ _ _ v0 _ : Value, ∀ w0 : World, a0 v0 w0 →
 CondV v0 (
 RR (sBin .eql 3 false true p1 (Value.int .i64 2)) w0 fun x0 y0 =>
 R (.returned x0) y0) (
 (∃ z0 : Value → World → Prop, (
 RR (sBin .eql 9 false true p0 (Value.string ⟨#[116, 114, 117, 101]⟩)) w0 fun A0 B0 =>
 CondV A0 (
 z0 A0 B0) (
 RR (sBin .eql 9 false true p0 (Value.string ⟨#[102, 97, 105, 108]⟩)) B0 fun C0 D0 =>
 z0 C0 D0)) ∧
 ∀ _ E0 _ : Value, ∀ F0 : World, z0 E0 F0 →
 CondV E0 (
 RR (sBin .eql 3 false true p1 (Value.int .i64 0)) F0 fun G0 H0 =>
 R (.returned G0) H0) (
 (∃ I0 : Value → World → Prop, (
 RR (sBin .eql 9 false true p0 (Value.string ⟨#[118, 97, 114]⟩)) F0 fun J0 K0 =>
 CondV J0 (
 I0 J0 K0) (
 RR (sBin .eql 9 false true p0 (Value.string ⟨#[110, 111, 110, 118, 97, 114]⟩)) K0 fun L0 M0 =>
 CondV L0 (
 I0 L0 M0) (
 RR (sBin .eql 9 false true p0 (Value.string ⟨#[97, 116, 111, 109]⟩)) M0 fun N0 O0 =>
 CondV N0 (
 I0 N0 O0) (
 RR (sBin .eql 9 false true p0 (Value.string ⟨#[105, 110, 116]⟩)) O0 fun P0 Q0 =>
 I0 P0 Q0)))) ∧
 ∀ _ _ _ S0 _ : Value, ∀ T0 : World, I0 S0 T0 →
 CondV S0 (
 RR (sBin .eql 3 false true p1 (Value.int .i64 1)) T0 fun U0 V0 =>
 R (.returned U0) V0) (
 RR (sBin .eql 9 false true p0 (Value.string ⟨#[97, 114, 103]⟩)) T0 fun W0 X0 =>
 CondV W0 (
 RR (sBin .eql 3 false true p1 (Value.int .i64 3)) X0 fun Y0 Z0 =>
 R (.returned Y0) Z0) (
 R (.returned (Value.bool false)) X0)))))))
theorem calls_i_IsBuiltin {p0 p1 : Value} {w : World} {R : Ending → World → Prop} (h : sh_i_IsBuiltin p0 p1 w R) : Calls Tryz.prog 160 #[p0, p1] w R :=
  calls_sh (.seq none .leaf (.seq none (.seq none .leaf (.one (.seq (some [6]) .leaf (.two .leaf (.seq (some [18]) .leaf (.two .leaf (.seq (some [23]) .leaf .leaf))))))) .leaf)) [p0, p1] mixed Tryz.func160 (by kernel_rfl) (by kernel_rfl) h


/- slices.IndexFunc[[]loop.example/prologserver/impl.Term,loop.example/prologserver/impl.Term] : function 161 -/
def sh_x_IndexFunc_Term (p0 p1 : Value) (w : World) (R : Ending → World → Prop) : Prop :=
 RR (sBuiltin .len #[30] 3 [false] [p0]) w fun a0 b0 =>
 (∃ (c0 : Value → World → Prop) (d0 : Value → World → Nat), c0 (Value.int .i64 0) b0 ∧
 ∀ e0 _ _ _ _ _ _ _ _ _ _ _ _ : Value, ∀ f0 : World, c0 e0 f0 →
 RR (sBin .lss 3 false false e0 a0) f0 fun g0 h0 =>
 CondV g0 (
 RR (sOp (.indexAddr 30 (.const p0) (.const e0)) 0) h0 fun i0 j0 =>
 RR (sOp (.load 32 (.const i0)) 32) j0 fun k0 l0 =>
 RR (sCall p1 [k0]) l0 fun m0 n0 =>
 CondV m0 (
 R (.returned e0) n0) (
 RR (sBin .add 3 false true e0 (Value.int .i64 1)) n0 fun o0 q0 =>
 c0 o0 q0 ∧ d0 o0 q0 < d0 e0 f0)) (
 R (.returned (Value.int .i64 (-1))) h0))
theorem calls_x_IndexFunc_Term {p0 p1 : Value} {w : World} {R : Ending → World → Prop} (h : sh_x_IndexFunc_Term p0 p1 w R) : Calls Tryz.prog 161 #[p0, p1] w R :=
  calls_sh (.seq none .leaf (.seq none (.seq none .leaf (.one (.loop [8] .leaf))) .leaf)) [p0, p1] mixed Tryz.func161 (by kernel_rfl) (by kernel_rfl) h


/- loop.example/prologserver/spec.l2Read : function 162 -/
def sh_s_l2Read (p0 p1 p2 p3 : Value) (w : World) (R : Ending → World → Prop) : Prop :=
 RR (sOp (.alloc 32) 0) w fun a0 b0 =>
 RR (sBin .eql 3 false true p3 (Value.int .i64 0)) b0 fun c0 d0 =>
 CondV c0 (
 RR (sCall (Value.func (.func 179) #[] #[]) [p0, p1, p2]) d0 fun e0 f0 =>
 RR (sOp (.extract (.const e0) 0) 32) f0 fun g0 h0 =>
 RR (sOp (.extract (.const e0) 1) 3) h0 fun i0 j0 =>
 RR (sOp (.store 32 (.const a0) (.const g0)) 0) j0 fun _u k0 =>
 (LoadV Tryz.prog 32 a0 k0 fun r0 => R (.returned (.tuple #[r0, i0])) k0)) (
 RR (sBin .sub 3 false true p3 (Value.int .i64 1)) d0 fun l0 m0 =>
 RR (sCall (Value.func (.func 162) #[] #[]) [p0, p1, p2, l0]) m0 fun n0 o0 =>
 RR (sOp (.extract (.const n0) 0) 32) o0 fun q0 s0 =>
 RR (sOp (.extract (.const n0) 1) 3) s0 fun t0 u0 =>
 RR (sOp (.alloc 32) 0) u0 fun v0 w0 =>
 RR (sOp (.store 32 (.const v0) (.const q0)) 0) w0 fun _u x0 =>
 (∃ (y0 : Value → World → Prop) (z0 : Value → World → Nat), y0 t0 x0 ∧
 ∀ _ _ _ _ A0 _ _ _ _ _ _ _ _ _ _ _ _ _ _ _ _ _ _ _ _ _ _ _ _ _ _ _ _ _ _ _ _ _ _ _ _ _ _ _ _ _ _ : Value, ∀ B0 : World, y0 A0 B0 →
 RR (sBin .geq 3 false true A0 (Value.int .i64 0)) B0 fun C0 D0 =>
 CondV C0 (
 RR (sCall (Value.func (.func 180) #[] #[]) [p0, A0]) D0 fun E0 F0 =>
 RR (sOp (.extract (.const E0) 0) 9) F0 fun G0 H0 =>
 RR (sOp (.extract (.const E0) 1) 3) H0 fun I0 J0 =>
 (∃ K0 : Value → World → Prop, (
 RR (sBin .eql 9 false true G0 (Value.string ⟨#[]⟩)) J0 fun L0 M0 =>
 GuardV L0 false (
 RR (sCall (Value.func (.func 156) #[] #[]) [G0]) M0 fun N0 O0 =>
 RR (sBin .neq 3 false false N0 p3) O0 fun P0 Q0 =>
 RR (sOp (.pick (.const L0) (.const (Value.bool true)) (.const P0)) 4) Q0 fun S0 T0 =>
 K0 S0 T0) (
 RR (sOp (.pick (.const L0) (.const (Value.bool true)) (.const undef)) 4) M0 fun U0 V0 =>
 K0 U0 V0)) ∧
 ∀ W0 _ _ _ _ _ _ _ : Value, ∀ X0 : World, K0 W0 X0 →
 CondV W0 (
 RR (sOp (.load 32 (.const v0)) 32) X0 fun Y0 Z0 =>
 RR (sOp (.store 32 (.const a0) (.const Y0)) 0) Z0 fun _u a1 =>
 (LoadV Tryz.prog 32 a0 a1 fun r0 => R (.returned (.tuple #[r0, A0])) a1)) (
 RR (sBin .sub 3 false true p3 (Value.int .i64 1)) X0 fun b1 c1 =>
 RR (sCall (Value.func (.func 162) #[] #[]) [p0, I0, p2, b1]) c1 fun d1 e1 =>
 RR (sOp (.extract (.const d1) 0) 32) e1 fun f1 g1 =>
 RR (sOp (.extract (.const d1) 1) 3) g1 fun h1 i1 =>
 RR (sOp (.alloc 32) 0) i1 fun j1 k1 =>
 RR (sOp (.store 32 (.const j1) (.const f1)) 0) k1 fun _u l1 =>
 RR (sBin .lss 3 false true h1 (Value.int .i64 0)) l1 fun m1 n1 =>
 CondV m1 (
 RR (sBuild 32 []) n1 fun o1 q1 =>
 RR (sOp (.store 32 (.const a0) (.const o1)) 0) q1 fun _u s1 =>
 (LoadV Tryz.prog 32 a0 s1 fun r0 => R (.returned (.tuple #[r0, h1])) s1)) (
 RR (sOp (.load 32 (.const v0)) 32) n1 fun t1 u1 =>
 RR (sOp (.load 32 (.const j1)) 32) u1 fun v1 w1 =>
 RR (sBuildSlice 30 2 [(0, t1), (1, v1)]) w1 fun x1 y1 =>
 RR (sCall (Value.func (.func 106) #[] #[]) [G0, x1]) y1 fun z1 A1 =>
 RR (sOp (.store 32 (.const v0) (.const z1)) 0) A1 fun _u B1 =>
 RR (sBin .eql 3 false true p3 (Value.int .i64 3)) B1 fun C1 D1 =>
 CondV C1 (
 RR (sOp (.load 32 (.const v0)) 32) D1 fun E1 F1 =>
 RR (sOp (.store 32 (.const a0) (.const E1)) 0) F1 fun _u G1 =>
 (LoadV Tryz.prog 32 a0 G1 fun r0 => R (.returned (.tuple #[r0, h1])) G1)) (
 y0 h1 D1 ∧ z0 h1 D1 < z0 A0 B0))))) (
 RR (sBuild 32 []) D0 fun H1 I1 =>
 RR (sOp (.store 32 (.const a0) (.const H1)) 0) I1 fun _ J1 =>
 (LoadV Tryz.prog 32 a0 J1 fun r0 => R (.returned (.tuple #[r0, A0])) J1))))
theorem calls_s_l2Read {p0 p1 p2 p3 : Value} {w : World} {R : Ending → World → Prop} (h : sh_s_l2Read p0 p1 p2 p3 w R) : Calls Tryz.prog 162 #[p0, p1, p2, p3] w R :=
  calls_sh (.seq none .leaf (.seq none .leaf (.seq none .leaf (.seq none (.one (.loop [11] (.seq none .leaf (.one (.seq none .leaf (.seq none (.seq (some [48]) .leaf .leaf) .leaf)))))) .leaf)))) [p0, p1, p2, p3] mixed Tryz.func162 (by kernel_rfl) (by kernel_rfl) h


/- loop.example/prologserver/spec.l1Sign : function 163 -/
def sh_s_l1Sign (p0 p1 p2 : Value) (w : World) (R : Ending → World → Prop) : Prop :=
 RR (sBin .geq 3 false true p1 (Value.int .i64 0)) w fun a0 b0 =>
 GuardV a0 true (
 RR (sBuiltin .len #[9] 3 [false] [p0]) b0 fun c0 d0 =>
 RR (sBin .lss 3 false false p1 c0) d0 fun e0 f0 =>
 RR (sOp (.pick (.const a0) (.const e0) (.const (Value.bool false))) 4) f0 fun g0 h0 =>
 GuardV g0 true (
 RR (sOp (.index 9 (.const p0) (.const p1)) 5) h0 fun i0 j0 =>
 RR (sBin .eql 5 false false i0 p2) j0 fun k0 l0 =>
 RR (sOp (.pick (.const g0) (.const k0) (.const (Value.bool false))) 4) l0 fun m0 n0 =>
 R (.returned m0) n0) (
 RR (sOp (.pick (.const g0) (.const undef) (.const (Value.bool false))) 4) h0 fun o0 q0 =>
 R (.returned o0) q0)) (
 RR (sOp (.pick (.const a0) (.const undef) (.const (Value.bool false))) 4) b0 fun s0 t0 =>
 GuardV s0 true (
 RR (sOp (.index 9 (.const p0) (.const p1)) 5) t0 fun u0 v0 =>
 RR (sBin .eql 5 false false u0 p2) v0 fun w0 x0 =>
 RR (sOp (.pick (.const s0) (.const w0) (.const (Value.bool false))) 4) x0 fun y0 z0 =>
 R (.returned y0) z0) (
 RR (sOp (.pick (.const s0) (.const undef) (.const (Value.bool false))) 4) t0 fun A0 B0 =>
 R (.returned A0) B0))
theorem calls_s_l1Sign {p0 p1 p2 : Value} {w : World} {R : Ending → World → Prop} (h : sh_s_l1Sign p0 p1 p2 w R) : Calls Tryz.prog 163 #[p0, p1, p2] w R :=
  calls_sh .leaf [p0, p1, p2] mixed Tryz.func163 (by kernel_rfl) (by kernel_rfl) h


/- loop.example/prologserver/spec.l4Goals : function 164 -/
def sh_s_l4Goals (p0 p1 : Value) (w : World) (R : Ending → World → Prop) : Prop :=
 RR (sBuildSlice 30 0 []) w fun a0 b0 =>
 (∃ (c0 : Value → Value → World → Prop) (d0 : Value → Value → World → Nat), c0 p1 a0 b0 ∧
 ∀ e0 _ _ _ _ _ _ _ _ f0 _ _ _ _ _ _ _ _ _ _ _ _ _ _ _ _ _ _ _ : Value, ∀ g0 : World, c0 e0 f0 g0 →
 RR (sBuiltin .len #[30] 3 [false] [f0]) g0 fun h0 i0 =>
 RR (sBin .leq 3 false true h0 (Value.int .i64 6)) i0 fun j0 k0 =>
 CondV j0 (
 RR (sCall (Value.func (.func 162) #[] #[]) [p0, e0, (Value.int .i64 30), (Value.int .i64 3)]) k0 fun l0 m0 =>
 RR (sOp (.extract (.const l0) 0) 32) m0 fun n0 o0 =>
 RR (sOp (.extract (.const l0) 1) 3) o0 fun q0 s0 =>
 RR (sOp (.alloc 32) 0) s0 fun t0 u0 =>
 RR (sOp (.store 32 (.const t0) (.const n0)) 0) u0 fun _ v0 =>
 RR (sBin .lss 3 false true q0 (Value.int .i64 0)) v0 fun w0 x0 =>
 CondV w0 (
 R (.returned (.tuple #[(Value.slice none 0 0), (Value.int .i64 (-1))])) x0) (
 RR (sOp (.load 32 (.const t0)) 32) x0 fun y0 z0 =>
 RR (sBuildSlice 30 1 [(0, y0)]) z0 fun A0 B0 =>
 RR (sBuiltin .append #[30, 30] 30 [false, false] [f0, A0]) B0 fun C0 D0 =>
 RR (sCall (Value.func (.func 163) #[] #[]) [p0, q0, (Value.int .u8 44)]) D0 fun E0 F0 =>
 RR (sOp (.unOp .not 4 (.const E0)) 4) F0 fun G0 H0 =>
 CondV G0 (
 R (.returned (.tuple #[C0, q0])) H0) (
 RR (sBin .add 3 false true q0 (Value.int .i64 1)) H0 fun I0 J0 =>
 c0 I0 C0 J0 ∧ d0 I0 C0 J0 < d0 e0 f0 g0))) (
 R (.returned (.tuple #[(Value.slice none 0 0), (Value.int .i64 (-1))])) k0))
theorem calls_s_l4Goals {p0 p1 : Value} {w : World} {R : Ending → World → Prop} (h : sh_s_l4Goals p0 p1 w R) : Calls Tryz.prog 164 #[p0, p1] w R :=
  calls_sh (.seq none .leaf (.seq none .leaf (.seq none (.one (.loop [1, 6] .leaf)) .leaf))) [p0, p1] mixed Tryz.func164 (by kernel_rfl) (by kernel_rfl) h


/- loop.example/prologserver/spec.FormatClause : function 165 -/
def sh_s_FormatClause (p0 : Value) (w : World) (R : Ending → World → Prop) : Prop :=
 RR (sOp (.box 34 (.const p0)) 0) w fun a0 b0 =>
 RR (sOp (.load 34 (.const a0)) 34) b0 fun c0 d0 =>
 RR (sCall (Value.func (.func 64) #[] #[]) [c0]) d0 fun e0 f0 =>
 RR (sOp (.unOp .not 4 (.const e0)) 4) f0 fun g0 h0 =>
 CondV g0 (
 R (.returned (Value.string ⟨#[]⟩)) h0) (
 RR (sOp (.load 34 (.const a0)) 34) h0 fun i0 j0 =>
 RR (sCall (Value.func (.func 181) #[] #[]) [i0]) j0 fun k0 l0 =>
 R (.returned k0) l0)
theorem calls_s_FormatClause {p0 : Value} {w : World} {R : Ending → World → Prop} (h : sh_s_FormatClause p0 w R) : Calls Tryz.prog 165 #[p0] w R :=
  calls_sh .leaf [p0] mixed Tryz.func165 (by kernel_rfl) (by kernel_rfl) h


/- loop.example/prologserver/impl.isAtom : function 172 -/
def sh_i_isAtom (p0 : Value) (w : World) (R : Ending → World → Prop) : Prop :=
 RR (sOp (.box 32 (.const p0)) 0) w fun a0 b0 =>
 RR (sOp (.fieldAddr 32 (.const a0) 0) 0) b0 fun c0 d0 =>
 RR (sOp (.load 3 (.const c0)) 3) d0 fun e0 f0 =>
 RR (sBin .eql 3 false true e0 (Value.int .i64 3)) f0 fun g0 h0 =>
 GuardV g0 true (
 RR (sOp (.fieldAddr 32 (.const a0) 3) 0) h0 fun i0 j0 =>
 RR (sOp (.load 30 (.const i0)) 30) j0 fun k0 l0 =>
 RR (sBuiltin .len #[30] 3 [false] [k0]) l0 fun m0 n0 =>
 RR (sBin .eql 3 false true m0 (Value.int .i64 0)) n0 fun o0 q0 =>
 RR (sOp (.pick (.const g0) (.const o0) (.const (Value.bool false))) 4) q0 fun s0 t0 =>
 R (.returned s0) t0) (
 RR (sOp (.pick (.const g0) (.const undef) (.const (Value.bool false))) 4) h0 fun u0 v0 =>
 R (.returned u0) v0)
theorem calls_i_isAtom {p0 : Value} {w : World} {R : Ending → World → Prop} (h : sh_i_isAtom p0 w R) : Calls Tryz.prog 172 #[p0] w R :=
  calls_sh .leaf [p0] mixed Tryz.func172 (by kernel_rfl) (by kernel_rfl) h


/- loop.example/prologserver/spec.l1Own : function 176 -/
def sh_s_l1Own (p0 : Value) (w : World) (R : Ending → World → Prop) : Prop :=
 RR (sOp (.box 32 (.const p0)) 0) w fun a0 b0 =>
 RR (sOp (.fieldAddr 32 (.const a0) 0) 0) b0 fun c0 d0 =>
 RR (sOp (.load 3 (.const c0)) 3) d0 fun e0 f0 =>
 RR (sBin .eql 3 false true e0 (Value.int .i64 1)) f0 fun g0 h0 =>
 CondV g0 (
 RR (sOp (.fieldAddr 32 (.const a0) 1) 0) h0 fun i0 j0 =>
 RR (sOp (.load 3 (.const i0)) 3) j0 fun k0 l0 =>
 RR (sBin .geq 3 false true k0 (Value.int .i64 0)) l0 fun m0 n0 =>
 GuardV m0 true (
 RR (sOp (.fieldAddr 32 (.const a0) 1) 0) n0 fun o0 q0 =>
 RR (sOp (.load 3 (.const o0)) 3) q0 fun s0 t0 =>
 RR (sBin .leq 3 false true s0 (Value.int .i64 25)) t0 fun u0 v0 =>
 RR (sOp (.pick (.const m0) (.const u0) (.const (Value.bool false))) 4) v0 fun w0 x0 =>
 GuardV w0 true (
 RR (sOp (.fieldAddr 32 (.const a0) 2) 0) x0 fun y0 z0 =>
 RR (sOp (.load 9 (.const y0)) 9) z0 fun A0 B0 =>
 RR (sBin .eql 9 false true A0 (Value.string ⟨#[]⟩)) B0 fun C0 D0 =>
 RR (sOp (.pick (.const w0) (.const C0) (.const (Value.bool false))) 4) D0 fun E0 F0 =>
 GuardV E0 true (
 RR (sOp (.fieldAddr 32 (.const a0) 3) 0) F0 fun G0 H0 =>
 RR (sOp (.load 30 (.const G0)) 30) H0 fun I0 J0 =>
 RR (sBuiltin .len #[30] 3 [false] [I0]) J0 fun K0 L0 =>
 RR (sBin .eql 3 false true K0 (Value.int .i64 0)) L0 fun M0 N0 =>
 RR (sOp (.pick (.const E0) (.const M0) (.const (Value.bool false))) 4) N0 fun O0 P0 =>
 R (.returned O0) P0) (
 RR (sOp (.pick (.const E0) (.const undef) (.const (Value.bool false))) 4) F0 fun Q0 S0 =>
 R (.returned Q0) S0)) (
 RR (sOp (.pick (.const w0) (.const undef) (.const (Value.bool false))) 4) x0 fun T0 U0 =>
 GuardV T0 true (
 RR (sOp (.fieldAddr 32 (.const a0) 3) 0) U0 fun V0 W0 =>
 RR (sOp (.load 30 (.const V0)) 30) W0 fun X0 Y0 =>
 RR (sBuiltin .len #[30] 3 [false] [X0]) Y0 fun Z0 a1 =>
 RR (sBin .eql 3 false true Z0 (Value.int .i64 0)) a1 fun b1 c1 =>
 RR (sOp (.pick (.const T0) (.const b1) (.const (Value.bool false))) 4) c1 fun d1 e1 =>
 R (.returned d1) e1) (
 RR (sOp (.pick (.const T0) (.const undef) (.const (Value.bool false))) 4) U0 fun f1 g1 =>
 R (.returned f1) g1))) (
 RR (sOp (.pick (.const m0) (.const undef) (.const (Value.bool false))) 4) n0 fun h1 i1 =>
 GuardV h1 true (
 RR (sOp (.fieldAddr 32 (.const a0) 2) 0) i1 fun j1 k1 =>
 RR (sOp (.load 9 (.const j1)) 9) k1 fun l1 m1 =>
 RR (sBin .eql 9 false true l1 (Value.string ⟨#[]⟩)) m1 fun n1 o1 =>
 RR (sOp (.pick (.const h1) (.const n1) (.const (Value.bool false))) 4) o1 fun q1 s1 =>
 GuardV q1 true (
 RR (sOp (.fieldAddr 32 (.const a0) 3) 0) s1 fun t1 u1 =>
 RR (sOp (.load 30 (.const t1)) 30) u1 fun v1 w1 =>
 RR (sBuiltin .len #[30] 3 [false] [v1]) w1 fun x1 y1 =>
 RR (sBin .eql 3 false true x1 (Value.int .i64 0)) y1 fun z1 A1 =>
 RR (sOp (.pick (.const q1) (.const z1) (.const (Value.bool false))) 4) A1 fun B1 C1 =>
 R (.returned B1) C1) (
 RR (sOp (.pick (.const q1) (.const undef) (.const (Value.bool false))) 4) s1 fun D1 E1 =>
 R (.returned D1) E1)) (
 RR (sOp (.pick (.const h1) (.const undef) (.const (Value.bool false))) 4) i1 fun F1 G1 =>
 GuardV F1 true (
 RR (sOp (.fieldAddr 32 (.const a0) 3) 0) G1 fun H1 I1 =>
 RR (sOp (.load 30 (.const H1)) 30) I1 fun J1 K1 =>
 RR (sBuiltin .len #[30] 3 [false] [J1]) K1 fun L1 M1 =>
 RR (sBin .eql 3 false true L1 (Value.int .i64 0)) M1 fun N1 O1 =>
 RR (sOp (.pick (.const F1) (.const N1) (.const (Value.bool false))) 4) O1 fun P1 Q1 =>
 R (.returned P1) Q1) (
 RR (sOp (.pick (.const F1) (.const undef) (.const (Value.bool false))) 4) G1 fun S1 T1 =>
 R (.returned S1) T1)))) (
 RR (sBin .eql 3 false true e0 (Value.int .i64 2)) h0 fun U1 V1 =>
 CondV U1 (
 RR (sOp (.fieldAddr 32 (.const a0) 1) 0) V1 fun W1 X1 =>
 RR (sOp (.load 3 (.const W1)) 3) X1 fun Y1 Z1 =>
 RR (sBin .geq 3 false true Y1 (Value.int .i64 (-999))) Z1 fun a2 b2 =>
 GuardV a2 true (
 RR (sOp (.fieldAddr 32 (.const a0) 1) 0) b2 fun c2 d2 =>
 RR (sOp (.load 3 (.const c2)) 3) d2 fun e2 f2 =>
 RR (sBin .leq 3 false true e2 (Value.int .i64 999)) f2 fun g2 h2 =>
 RR (sOp (.pick (.const a2) (.const g2) (.const (Value.bool false))) 4) h2 fun i2 j2 =>
 GuardV i2 true (
 RR (sOp (.fieldAddr 32 (.const a0) 2) 0) j2 fun k2 l2 =>
 RR (sOp (.load 9 (.const k2)) 9) l2 fun m2 n2 =>
 RR (sBin .eql 9 false true m2 (Value.string ⟨#[]⟩)) n2 fun o2 q2 =>
 RR (sOp (.pick (.const i2) (.const o2) (.const (Value.bool false))) 4) q2 fun s2 t2 =>
 GuardV s2 true (
 RR (sOp (.fieldAddr 32 (.const a0) 3) 0) t2 fun u2 v2 =>
 RR (sOp (.load 30 (.const u2)) 30) v2 fun w2 x2 =>
 RR (sBuiltin .len #[30] 3 [false] [w2]) x2 fun y2 z2 =>
 RR (sBin .eql 3 false true y2 (Value.int .i64 0)) z2 fun A2 B2 =>
 RR (sOp (.pick (.const s2) (.const A2) (.const (Value.bool false))) 4) B2 fun C2 D2 =>
 R (.returned C2) D2) (
 RR (sOp (.pick (.const s2) (.const undef) (.const (Value.bool false))) 4) t2 fun E2 F2 =>
 R (.returned E2) F2)) (
 RR (sOp (.pick (.const i2) (.const undef) (.const (Value.bool false))) 4) j2 fun G2 H2 =>
 GuardV G2 true (
 RR (sOp (.fieldAddr 32 (.const a0) 3) 0) H2 fun I2 J2 =>
 RR (sOp (.load 30 (.const I2)) 30) J2 fun K2 L2 =>
 RR (sBuiltin .len #[30] 3 [false] [K2]) L2 fun M2 N2 =>
 RR (sBin .eql 3 false true M2 (Value.int .i64 0)) N2 fun O2 P2 =>
 RR (sOp (.pick (.const G2) (.const O2) (.const (Value.bool false))) 4) P2 fun Q2 S2 =>
 R (.returned Q2) S2) (
 RR (sOp (.pick (.const G2) (.const undef) (.const (Value.bool false))) 4) H2 fun T2 U2 =>
 R (.returned T2) U2))) (
 RR (sOp (.pick (.const a2) (.const undef) (.const (Value.bool false))) 4) b2 fun V2 W2 =>
 GuardV V2 true (
 RR (sOp (.fieldAddr 32 (.const a0) 2) 0) W2 fun X2 Y2 =>
 RR (sOp (.load 9 (.const X2)) 9) Y2 fun Z2 a3 =>
 RR (sBin .eql 9 false true Z2 (Value.string ⟨#[]⟩)) a3 fun b3 c3 =>
 RR (sOp (.pick (.const V2) (.const b3) (.const (Value.bool false))) 4) c3 fun d3 e3 =>
 GuardV d3 true (
 RR (sOp (.fieldAddr 32 (.const a0) 3) 0) e3 fun f3 g3 =>
 RR (sOp (.load 30 (.const f3)) 30) g3 fun h3 i3 =>
 RR (sBuiltin .len #[30] 3 [false] [h3]) i3 fun j3 k3 =>
 RR (sBin .eql 3 false true j3 (Value.int .i64 0)) k3 fun l3 m3 =>
 RR (sOp (.pick (.const d3) (.const l3) (.const (Value.bool false))) 4) m3 fun n3 o3 =>
 R (.returned n3) o3) (
 RR (sOp (.pick (.const d3) (.const undef) (.const (Value.bool false))) 4) e3 fun q3 s3 =>
 R (.returned q3) s3)) (
 RR (sOp (.pick (.const V2) (.const undef) (.const (Value.bool false))) 4) W2 fun t3 u3 =>
 GuardV t3 true (
 RR (sOp (.fieldAddr 32 (.const a0) 3) 0) u3 fun v3 w3 =>
 RR (sOp (.load 30 (.const v3)) 30) w3 fun x3 y3 =>
 RR (sBuiltin .len #[30] 3 [false] [x3]) y3 fun z3 A3 =>
 RR (sBin .eql 3 false true z3 (Value.int .i64 0)) A3 fun B3 C3 =>
 RR (sOp (.pick (.const t3) (.const B3) (.const (Value.bool false))) 4) C3 fun D3 E3 =>
 R (.returned D3) E3) (
 RR (sOp (.pick (.const t3) (.const undef) (.const (Value.bool false))) 4) u3 fun F3 G3 =>
 R (.returned F3) G3)))) (
 RR (sBin .eql 3 false true e0 (Value.int .i64 3)) V1 fun H3 I3 =>
 CondV H3 (
 RR (sOp (.fieldAddr 32 (.const a0) 1) 0) I3 fun J3 K3 =>
 RR (sOp (.load 3 (.const J3)) 3) K3 fun L3 M3 =>
 RR (sBin .eql 3 false true L3 (Value.int .i64 0)) M3 fun N3 O3 =>
 GuardV N3 true (
 RR (sOp (.fieldAddr 32 (.const a0) 2) 0) O3 fun P3 Q3 =>
 RR (sOp (.load 9 (.const P3)) 9) Q3 fun S3 T3 =>
 RR (sCall (Value.func (.func 183) #[] #[]) [S3]) T3 fun U3 V3 =>
 RR (sOp (.pick (.const N3) (.const U3) (.const (Value.bool false))) 4) V3 fun W3 X3 =>
 GuardV W3 true (
 RR (sOp (.fieldAddr 32 (.const a0) 3) 0) X3 fun Y3 Z3 =>
 RR (sOp (.load 30 (.const Y3)) 30) Z3 fun a4 b4 =>
 RR (sBuiltin .len #[30] 3 [false] [a4]) b4 fun c4 d4 =>
 RR (sBin .leq 3 false true c4 (Value.int .i64 4)) d4 fun e4 f4 =>
 RR (sOp (.pick (.const W3) (.const e4) (.const (Value.bool false))) 4) f4 fun g4 h4 =>
 R (.returned g4) h4) (
 RR (sOp (.pick (.const W3) (.const undef) (.const (Value.bool false))) 4) X3 fun i4 j4 =>
 R (.returned i4) j4)) (
 RR (sOp (.pick (.const N3) (.const undef) (.const (Value.bool false))) 4) O3 fun k4 l4 =>
 GuardV k4 true (
 RR (sOp (.fieldAddr 32 (.const a0) 3) 0) l4 fun m4 n4 =>
 RR (sOp (.load 30 (.const m4)) 30) n4 fun o4 q4 =>
 RR (sBuiltin .len #[30] 3 [false] [o4]) q4 fun s4 t4 =>
 RR (sBin .leq 3 false true s4 (Value.int .i64 4)) t4 fun u4 v4 =>
 RR (sOp (.pick (.const k4) (.const u4) (.const (Value.bool false))) 4) v4 fun w4 x4 =>
 R (.returned w4) x4) (
 RR (sOp (.pick (.const k4) (.const undef) (.const (Value.bool false))) 4) l4 fun y4 z4 =>
 R (.returned y4) z4))) (
 R (.returned (Value.bool false)) I3)))
theorem calls_s_l1Own {p0 : Value} {w : World} {R : Ending → World → Prop} (h : sh_s_l1Own p0 w R) : Calls Tryz.prog 176 #[p0] w R :=
  calls_sh .leaf [p0] mixed Tryz.func176 (by kernel_rfl) (by kernel_rfl) h


/- slices.Contains[[]string,string] : function 177 -/
def sh_x_Contains_string (p0 p1 : Value) (w : World) (R : Ending → World → Prop) : Prop :=
 RR (sCall (Value.func (.func 184) #[] #[]) [p0, p1]) w fun a0 b0 =>
 RR (sBin .geq 3 false true a0 (Value.int .i64 0)) b0 fun c0 d0 =>
 R (.returned c0) d0
theorem calls_x_Contains_string {p0 p1 : Value} {w : World} {R : Ending → World → Prop} (h : sh_x_Contains_string p0 p1 w R) : Calls Tryz.prog 177 #[p0, p1] w R :=
  calls_sh .leaf [p0, p1] mixed Tryz.func177 (by kernel_rfl) (by kernel_rfl) h


/- loop.example/prologserver/impl.symbols : function 178 -/
def sh_i_symbols (w : World) (R : Ending → World → Prop) : Prop :=
 RR (sBuildSlice 82 15 [(0, (Value.string ⟨#[43]⟩)), (1, (Value.string ⟨#[45]⟩)), (2, (Value.string ⟨#[42]⟩)), (3, (Value.string ⟨#[47, 47]⟩)), (4, (Value.string ⟨#[61]⟩)), (5, (Value.string ⟨#[92, 61]⟩)), (6, (Value.string ⟨#[61, 61]⟩)), (7, (Value.string ⟨#[60]⟩)), (8, (Value.string ⟨#[62]⟩)), (9, (Value.string ⟨#[61, 60]⟩)), (10, (Value.string ⟨#[62, 61]⟩)), (11, (Value.string ⟨#[61, 58, 61]⟩)), (12, (Value.string ⟨#[46]⟩)), (13, (Value.string ⟨#[91, 93]⟩)), (14, (Value.string ⟨#[33]⟩))]) w fun a0 b0 =>
 R (.returned a0) b0
theorem calls_i_symbols {w : World} {R : Ending → World → Prop} (h : sh_i_symbols w R) : Calls Tryz.prog 178 #[] w R :=
  calls_sh .leaf [] mixed Tryz.func178 (by kernel_rfl) (by kernel_rfl) h

end Go.Proofs.YtmnnpgdeecnfpaaGreat

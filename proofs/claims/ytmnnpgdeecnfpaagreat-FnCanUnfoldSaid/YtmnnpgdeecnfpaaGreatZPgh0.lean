/- Made by program: the functions in a shallow form; each form gives Calls. -/
import Derived.Test.YtmnnpgdeecnfpaaGreatVcCalls
import Derived.Test.YtmnnpgdeecnfpaaGreatProg
import Derived.KernelRfl
set_option maxRecDepth 100000
namespace Go.Proofs.YtmnnpgdeecnfpaaGreat
open Go
theorem aw:Tryz.prog.follows .mixedOrders=true:=by kernel_rfl
abbrev RR:=Run Tryz.prog
/- loop.example/prologserver/laws.FnCanUnfold : function 12 -/
def gp (p0:Value) (w:World) (R:Ending->World->Prop):Prop:=
 RR (sBuiltin .len #[22] 3 [false] [p0]) w fun a0 b0=>
 RR (sBin .gtr 3 false true a0 (Value.int .i64 1048576)) b0 fun c0 d0=>
 CondV c0 (
 R (.returned (Value.bool true)) d0) (
 RR (sCall (Value.func (.func 44) #[] #[]) [p0]) d0 fun e0 f0=>
 RR (sOp (.extract (.const e0) 0) 23) f0 fun g0 h0=>
 RR (sOp (.extract (.const e0) 1) 3) h0 fun i0 j0=>
 RR (sCall (Value.func (.func 45) #[] #[]) [g0,i0]) j0 fun k0 l0=>
 RR (sCall (Value.func (.func 46) #[] #[]) [g0,i0]) l0 fun m0 n0=>
 RR (sOp (.extract (.const m0) 0) 23) n0 fun _ o0=>
 RR (sOp (.extract (.const m0) 1) 4) o0 fun q0 s0=>
 (∃ t0:Value->World->Prop,(
 RR (sCall (Value.func (.func 47) #[] #[]) [g0,i0]) s0 fun u0 v0=>
 RR (sBin .neq 4 false false k0 u0) v0 fun w0 x0=>
 GuardV w0 false (
 RR (sOp (.unOp .not 4 (.const k0)) 4) x0 fun y0 z0=>
 RR (sOp (.pick (.const w0) (.const (Value.bool true)) (.const y0)) 4) z0 fun A0 B0=>
 t0 A0 B0) (
 RR (sOp (.pick (.const w0) (.const (Value.bool true)) (.const undef)) 4) x0 fun C0 D0=>
 t0 C0 D0))/\
 ∀ E0 _ _ _ _ _ _ _ _:Value,∀ F0:World,t0 E0 F0->
 CondV E0 (
 RR (sCall (Value.func (.func 47) #[] #[]) [g0,i0]) F0 fun G0 H0=>
 RR (sBin .eql 4 false false k0 G0) H0 fun I0 J0=>
 GuardV I0 true (
 RR (sOp (.unOp .not 4 (.const q0)) 4) J0 fun K0 L0=>
 RR (sOp (.pick (.const I0) (.const K0) (.const (Value.bool false))) 4) L0 fun M0 N0=>
 R (.returned M0) N0) (
 RR (sOp (.pick (.const I0) (.const undef) (.const (Value.bool false))) 4) J0 fun O0 P0=>
 R (.returned O0) P0)) (
 RR (sOp (.indexAddr 23 (.const g0) (.const i0)) 0) F0 fun Q0 S0=>
 RR (sOp (.fieldAddr 34 (.const Q0) 1) 0) S0 fun T0 U0=>
 RR (sOp (.load 30 (.const T0)) 30) U0 fun V0 W0=>
 RR (sBuiltin .len #[30] 3 [false] [V0]) W0 fun X0 Y0=>
 RR (sBin .gtr 3 false true X0 (Value.int .i64 0)) Y0 fun Z0 a1=>
 GuardV Z0 true (
 RR (sOp (.indexAddr 23 (.const g0) (.const i0)) 0) a1 fun b1 c1=>
 RR (sOp (.fieldAddr 34 (.const b1) 1) 0) c1 fun d1 e1=>
 RR (sOp (.load 30 (.const d1)) 30) e1 fun f1 g1=>
 RR (sOp (.indexAddr 30 (.const f1) (.const (Value.int .i64 0))) 0) g1 fun h1 i1=>
 RR (sOp (.load 32 (.const h1)) 32) i1 fun j1 k1=>
 RR (sCall (Value.func (.func 48) #[] #[]) [g0,j1]) k1 fun l1 m1=>
 RR (sBuiltin .len #[63] 3 [false] [l1]) m1 fun n1 o1=>
 RR (sBin .gtr 3 false true n1 (Value.int .i64 0)) o1 fun q1 s1=>
 RR (sOp (.pick (.const Z0) (.const q1) (.const (Value.bool false))) 4) s1 fun t1 u1=>
 GuardV t1 true (
 RR (sOp (.indexAddr 23 (.const g0) (.const i0)) 0) u1 fun v1 w1=>
 RR (sOp (.fieldAddr 34 (.const v1) 1) 0) w1 fun x1 y1=>
 RR (sOp (.load 30 (.const x1)) 30) y1 fun z1 A1=>
 RR (sOp (.indexAddr 30 (.const z1) (.const (Value.int .i64 0))) 0) A1 fun B1 C1=>
 RR (sOp (.load 32 (.const B1)) 32) C1 fun D1 E1=>
 RR (sCall (Value.func (.func 48) #[] #[]) [g0,D1]) E1 fun F1 G1=>
 RR (sCall (Value.func (.func 49) #[] #[]) [F1,i0]) G1 fun H1 I1=>
 RR (sOp (.unOp .not 4 (.const H1)) 4) I1 fun J1 K1=>
 RR (sOp (.pick (.const t1) (.const J1) (.const (Value.bool false))) 4) K1 fun L1 M1=>
 R (.returned L1) M1) (
 RR (sOp (.pick (.const t1) (.const undef) (.const (Value.bool false))) 4) u1 fun N1 O1=>
 R (.returned N1) O1)) (
 RR (sOp (.pick (.const Z0) (.const undef) (.const (Value.bool false))) 4) a1 fun P1 Q1=>
 GuardV P1 true (
 RR (sOp (.indexAddr 23 (.const g0) (.const i0)) 0) Q1 fun S1 T1=>
 RR (sOp (.fieldAddr 34 (.const S1) 1) 0) T1 fun U1 V1=>
 RR (sOp (.load 30 (.const U1)) 30) V1 fun W1 X1=>
 RR (sOp (.indexAddr 30 (.const W1) (.const (Value.int .i64 0))) 0) X1 fun Y1 Z1=>
 RR (sOp (.load 32 (.const Y1)) 32) Z1 fun a2 b2=>
 RR (sCall (Value.func (.func 48) #[] #[]) [g0,a2]) b2 fun c2 d2=>
 RR (sCall (Value.func (.func 49) #[] #[]) [c2,i0]) d2 fun e2 f2=>
 RR (sOp (.unOp .not 4 (.const e2)) 4) f2 fun g2 h2=>
 RR (sOp (.pick (.const P1) (.const g2) (.const (Value.bool false))) 4) h2 fun i2 j2=>
 R (.returned i2) j2) (
 RR (sOp (.pick (.const P1) (.const undef) (.const (Value.bool false))) 4) Q1 fun k2 l2=>
 R (.returned k2) l2)))))
theorem kM {p0:Value} {w:World} {R:Ending->World->Prop} (h:gp p0 w R):Calls Tryz.prog 12 #[p0] w R:=
  calls_sh (.seq none .leaf (.seq none .leaf (.seq none .leaf (.seq none .leaf (.seq none .leaf (.seq none (.seq (some [33]) .leaf .leaf) .leaf)))))) [p0] aw Tryz.func12 (by kernel_rfl) (by kernel_rfl) h


/- loop.example/prologserver/impl.ProgramValid : function 17 -/
def fq (p0:Value) (w:World) (R:Ending->World->Prop):Prop:=
 RR (sBuiltin .len #[23] 3 [false] [p0]) w fun a0 b0=>
 RR (sBin .leq 3 false true a0 (Value.int .i64 20)) b0 fun c0 d0=>
 GuardV c0 true (
 RR (sCall (Value.func (.func 57) #[] #[]) [p0,(Value.func (.func 58) #[] #[])]) d0 fun e0 f0=>
 RR (sOp (.unOp .not 4 (.const e0)) 4) f0 fun g0 h0=>
 RR (sOp (.pick (.const c0) (.const g0) (.const (Value.bool false))) 4) h0 fun i0 j0=>
 R (.returned i0) j0) (
 RR (sOp (.pick (.const c0) (.const undef) (.const (Value.bool false))) 4) d0 fun k0 l0=>
 R (.returned k0) l0)
theorem jt {p0:Value} {w:World} {R:Ending->World->Prop} (h:fq p0 w R):Calls Tryz.prog 17 #[p0] w R:=
  calls_sh .leaf [p0] aw Tryz.func17 (by kernel_rfl) (by kernel_rfl) h


/- loop.example/prologserver/impl.ClauseValid : function 22 -/
def fX (p0:Value) (w:World) (R:Ending->World->Prop):Prop:=
 RR (sOp (.box 34 (.const p0)) 0) w fun a0 b0=>
 RR (sOp (.fieldAddr 34 (.const a0) 0) 0) b0 fun c0 d0=>
 RR (sOp (.load 32 (.const c0)) 32) d0 fun e0 f0=>
 RR (sCall (Value.func (.func 66) #[] #[]) [e0]) f0 fun g0 h0=>
 GuardV g0 true (
 RR (sOp (.fieldAddr 34 (.const a0) 0) 0) h0 fun i0 j0=>
 RR (sOp (.load 32 (.const i0)) 32) j0 fun k0 l0=>
 RR (sCall (Value.func (.func 67) #[] #[]) [k0]) l0 fun m0 n0=>
 RR (sOp (.pick (.const g0) (.const m0) (.const (Value.bool false))) 4) n0 fun o0 q0=>
 GuardV o0 true (
 RR (sOp (.fieldAddr 34 (.const a0) 1) 0) q0 fun s0 t0=>
 RR (sOp (.load 30 (.const s0)) 30) t0 fun u0 v0=>
 RR (sCall (Value.func (.func 68) #[] #[]) [u0]) v0 fun w0 x0=>
 RR (sOp (.pick (.const o0) (.const w0) (.const (Value.bool false))) 4) x0 fun y0 z0=>
 R (.returned y0) z0) (
 RR (sOp (.pick (.const o0) (.const undef) (.const (Value.bool false))) 4) q0 fun A0 B0=>
 R (.returned A0) B0)) (
 RR (sOp (.pick (.const g0) (.const undef) (.const (Value.bool false))) 4) h0 fun C0 D0=>
 GuardV C0 true (
 RR (sOp (.fieldAddr 34 (.const a0) 1) 0) D0 fun E0 F0=>
 RR (sOp (.load 30 (.const E0)) 30) F0 fun G0 H0=>
 RR (sCall (Value.func (.func 68) #[] #[]) [G0]) H0 fun I0 J0=>
 RR (sOp (.pick (.const C0) (.const I0) (.const (Value.bool false))) 4) J0 fun K0 L0=>
 R (.returned K0) L0) (
 RR (sOp (.pick (.const C0) (.const undef) (.const (Value.bool false))) 4) D0 fun M0 N0=>
 R (.returned M0) N0))
theorem kU {p0:Value} {w:World} {R:Ending->World->Prop} (h:fX p0 w R):Calls Tryz.prog 22 #[p0] w R:=
  calls_sh .leaf [p0] aw Tryz.func22 (by kernel_rfl) (by kernel_rfl) h


/- loop.example/prologserver/spec.DrawCanUnfold : function 44 -/
def eC (p0:Value) (w:World) (R:Ending->World->Prop):Prop:=
 RR (sCall (Value.func (.func 95) #[] #[]) [p0]) w fun a0 b0=>
 RR (sOp (.extract (.const a0) 0) 23) b0 fun c0 d0=>
 RR (sOp (.extract (.const a0) 1) 3) d0 fun e0 f0=>
 R (.returned (.tuple #[c0,e0])) f0
theorem iF {p0:Value} {w:World} {R:Ending->World->Prop} (h:eC p0 w R):Calls Tryz.prog 44 #[p0] w R:=
  calls_sh .leaf [p0] aw Tryz.func44 (by kernel_rfl) (by kernel_rfl) h


/- loop.example/prologserver/impl.CanUnfold : function 45 -/
def iM (p0 p1:Value) (w:World) (R:Ending->World->Prop):Prop:=
 RR (sOp (.box 23 (.const p0)) 0) w fun a0 b0=>
 (∃ c0:Value->World->Prop,(
 RR (sOp (.load 23 (.const a0)) 23) b0 fun d0 e0=>
 RR (sCall (Value.func (.func 17) #[] #[]) [d0]) e0 fun f0 g0=>
 RR (sOp (.unOp .not 4 (.const f0)) 4) g0 fun h0 i0=>
 GuardV h0 false (
 RR (sOp (.load 23 (.const a0)) 23) i0 fun j0 k0=>
 RR (sBuiltin .len #[23] 3 [false] [j0]) k0 fun l0 m0=>
 RR (sBin .sub 3 false true l0 (Value.int .i64 1)) m0 fun n0 o0=>
 RR (sCall (Value.func (.func 96) #[] #[]) [p1,(Value.int .i64 0),n0]) o0 fun q0 s0=>
 RR (sOp (.unOp .not 4 (.const q0)) 4) s0 fun t0 u0=>
 RR (sOp (.pick (.const h0) (.const (Value.bool true)) (.const t0)) 4) u0 fun v0 w0=>
 GuardV v0 false (
 RR (sOp (.load 23 (.const a0)) 23) w0 fun x0 y0=>
 RR (sOp (.indexAddr 23 (.const x0) (.const p1)) 0) y0 fun z0 A0=>
 RR (sOp (.load 34 (.const z0)) 34) A0 fun B0 C0=>
 RR (sCall (Value.func (.func 97) #[] #[]) [B0]) C0 fun D0 E0=>
 RR (sOp (.unOp .not 4 (.const D0)) 4) E0 fun F0 G0=>
 RR (sOp (.pick (.const v0) (.const (Value.bool true)) (.const F0)) 4) G0 fun H0 I0=>
 GuardV H0 false (
 RR (sOp (.load 23 (.const a0)) 23) I0 fun J0 K0=>
 RR (sOp (.indexAddr 23 (.const J0) (.const p1)) 0) K0 fun L0 M0=>
 RR (sOp (.load 34 (.const L0)) 34) M0 fun N0 O0=>
 RR (sCall (Value.func (.func 98) #[] #[]) [N0]) O0 fun P0 Q0=>
 RR (sOp (.pick (.const H0) (.const (Value.bool true)) (.const P0)) 4) Q0 fun S0 T0=>
 c0 S0 T0) (
 RR (sOp (.pick (.const H0) (.const (Value.bool true)) (.const undef)) 4) I0 fun U0 V0=>
 c0 U0 V0)) (
 RR (sOp (.pick (.const v0) (.const (Value.bool true)) (.const undef)) 4) w0 fun W0 X0=>
 GuardV W0 false (
 RR (sOp (.load 23 (.const a0)) 23) X0 fun Y0 Z0=>
 RR (sOp (.indexAddr 23 (.const Y0) (.const p1)) 0) Z0 fun a1 b1=>
 RR (sOp (.load 34 (.const a1)) 34) b1 fun c1 d1=>
 RR (sCall (Value.func (.func 98) #[] #[]) [c1]) d1 fun e1 f1=>
 RR (sOp (.pick (.const W0) (.const (Value.bool true)) (.const e1)) 4) f1 fun g1 h1=>
 c0 g1 h1) (
 RR (sOp (.pick (.const W0) (.const (Value.bool true)) (.const undef)) 4) X0 fun i1 j1=>
 c0 i1 j1))) (
 RR (sOp (.pick (.const h0) (.const (Value.bool true)) (.const undef)) 4) i0 fun k1 l1=>
 GuardV k1 false (
 RR (sOp (.load 23 (.const a0)) 23) l1 fun m1 n1=>
 RR (sOp (.indexAddr 23 (.const m1) (.const p1)) 0) n1 fun o1 q1=>
 RR (sOp (.load 34 (.const o1)) 34) q1 fun s1 t1=>
 RR (sCall (Value.func (.func 97) #[] #[]) [s1]) t1 fun u1 v1=>
 RR (sOp (.unOp .not 4 (.const u1)) 4) v1 fun w1 x1=>
 RR (sOp (.pick (.const k1) (.const (Value.bool true)) (.const w1)) 4) x1 fun y1 z1=>
 GuardV y1 false (
 RR (sOp (.load 23 (.const a0)) 23) z1 fun A1 B1=>
 RR (sOp (.indexAddr 23 (.const A1) (.const p1)) 0) B1 fun C1 D1=>
 RR (sOp (.load 34 (.const C1)) 34) D1 fun E1 F1=>
 RR (sCall (Value.func (.func 98) #[] #[]) [E1]) F1 fun G1 H1=>
 RR (sOp (.pick (.const y1) (.const (Value.bool true)) (.const G1)) 4) H1 fun I1 J1=>
 c0 I1 J1) (
 RR (sOp (.pick (.const y1) (.const (Value.bool true)) (.const undef)) 4) z1 fun K1 L1=>
 c0 K1 L1)) (
 RR (sOp (.pick (.const k1) (.const (Value.bool true)) (.const undef)) 4) l1 fun M1 N1=>
 GuardV M1 false (
 RR (sOp (.load 23 (.const a0)) 23) N1 fun O1 P1=>
 RR (sOp (.indexAddr 23 (.const O1) (.const p1)) 0) P1 fun Q1 S1=>
 RR (sOp (.load 34 (.const Q1)) 34) S1 fun T1 U1=>
 RR (sCall (Value.func (.func 98) #[] #[]) [T1]) U1 fun V1 W1=>
 RR (sOp (.pick (.const M1) (.const (Value.bool true)) (.const V1)) 4) W1 fun X1 Y1=>
 c0 X1 Y1) (
 RR (sOp (.pick (.const M1) (.const (Value.bool true)) (.const undef)) 4) N1 fun Z1 a2=>
 c0 Z1 a2))))/\
 ∀ b2 _ _ _ _ _ _ _ _ _ _ _ _ _ _ _ _ _ _ _ _ _ _ _ _ _:Value,∀ c2:World,c0 b2 c2->
 CondV b2 (
 R (.returned (Value.bool false)) c2) (
 (∃ d2:(Nat->Bool)->Value->Value->Value->Value->Value->Value->Value->Value->Value->Value->Value->World->Prop,d2 (fun _=>false) undef undef undef undef undef undef undef undef undef undef undef { c2 with drawn:=c2.drawn+1 }/\(
 (∀ e2:Nat->Bool,e2 0=false->∀ f2 g2 h2 i2 j2 k2 l2 m2 n2 o2 q2 s2,d2 e2 f2 g2 h2 i2 j2 k2 l2 m2 n2 o2 q2 s2->
 RR (sOp (.load 23 (.const a0)) 23) s2 fun t2 u2=>
 d2 (setD e2 0) f2 g2 h2 i2 j2 k2 l2 m2 n2 o2 t2 u2)/\
 (∀ e2:Nat->Bool,e2 1=false->∀ f2 g2 h2 i2 j2 k2 l2 m2 n2 o2 q2 v2,d2 e2 f2 g2 h2 i2 j2 k2 l2 m2 n2 o2 q2 v2->
 RR (sOp (.load 23 (.const a0)) 23) v2 fun w2 x2=>
 d2 (setD e2 1) f2 g2 h2 i2 j2 k2 l2 m2 n2 w2 q2 x2)/\
 (∀ e2:Nat->Bool,e2 2=false->∀ f2 g2 h2 i2 j2 k2 l2 m2 n2 o2 q2 y2,d2 e2 f2 g2 h2 i2 j2 k2 l2 m2 n2 o2 q2 y2->
 d2 (setD e2 2) f2 g2 h2 i2 j2 k2 l2 m2 p1 o2 q2 y2)/\
 (∀ e2:Nat->Bool,e2 3=false->e2 1=true->e2 2=true->∀ f2 g2 h2 i2 j2 k2 l2 m2 n2 o2 q2 z2,d2 e2 f2 g2 h2 i2 j2 k2 l2 m2 n2 o2 q2 z2->
 RR (sOp (.indexAddr 23 (.const o2) (.const n2)) 0) z2 fun A2 B2=>
 d2 (setD e2 3) f2 g2 h2 i2 j2 k2 l2 A2 n2 o2 q2 B2)/\
 (∀ e2:Nat->Bool,e2 4=false->e2 3=true->∀ f2 g2 h2 i2 j2 k2 l2 m2 n2 o2 q2 C2,d2 e2 f2 g2 h2 i2 j2 k2 l2 m2 n2 o2 q2 C2->
 RR (sOp (.fieldAddr 34 (.const m2) 1) 0) C2 fun D2 E2=>
 d2 (setD e2 4) f2 g2 h2 i2 j2 k2 D2 m2 n2 o2 q2 E2)/\
 (∀ e2:Nat->Bool,e2 5=false->e2 4=true->∀ f2 g2 h2 i2 j2 k2 l2 m2 n2 o2 q2 F2,d2 e2 f2 g2 h2 i2 j2 k2 l2 m2 n2 o2 q2 F2->
 RR (sOp (.load 30 (.const l2)) 30) F2 fun G2 H2=>
 d2 (setD e2 5) f2 g2 h2 i2 j2 G2 l2 m2 n2 o2 q2 H2)/\
 (∀ e2:Nat->Bool,e2 6=false->e2 5=true->∀ f2 g2 h2 i2 j2 k2 l2 m2 n2 o2 q2 I2,d2 e2 f2 g2 h2 i2 j2 k2 l2 m2 n2 o2 q2 I2->
 RR (sOp (.indexAddr 30 (.const k2) (.const (Value.int .i64 0))) 0) I2 fun J2 K2=>
 d2 (setD e2 6) f2 g2 h2 i2 J2 k2 l2 m2 n2 o2 q2 K2)/\
 (∀ e2:Nat->Bool,e2 7=false->e2 6=true->∀ f2 g2 h2 i2 j2 k2 l2 m2 n2 o2 q2 L2,d2 e2 f2 g2 h2 i2 j2 k2 l2 m2 n2 o2 q2 L2->
 RR (sOp (.load 32 (.const j2)) 32) L2 fun M2 N2=>
 d2 (setD e2 7) f2 g2 h2 M2 j2 k2 l2 m2 n2 o2 q2 N2)/\
 (∀ e2:Nat->Bool,e2 8=false->e2 7=true->∀ f2 g2 h2 i2 j2 k2 l2 m2 n2 o2 q2 O2,d2 e2 f2 g2 h2 i2 j2 k2 l2 m2 n2 o2 q2 O2->
 RR (sCall (Value.func (.func 54) #[] #[]) [i2]) O2 fun P2 Q2=>
 d2 (setD e2 8) f2 g2 P2 i2 j2 k2 l2 m2 n2 o2 q2 Q2)/\
 (∀ e2:Nat->Bool,e2 9=false->e2 0=true->e2 8=true->e2 8=true->∀ f2 g2 h2 i2 j2 k2 l2 m2 n2 o2 q2 S2,d2 e2 f2 g2 h2 i2 j2 k2 l2 m2 n2 o2 q2 S2->
 RR (sCall (Value.func (.func 88) #[] #[]) [q2,h2]) S2 fun T2 U2=>
 d2 (setD e2 9) f2 T2 h2 i2 j2 k2 l2 m2 n2 o2 q2 U2)/\
 (∀ e2:Nat->Bool,e2 10=false->e2 9=true->e2 9=true->e2 0=true->e2 1=true->e2 2=true->e2 3=true->e2 4=true->e2 5=true->e2 6=true->e2 7=true->e2 8=true->e2 9=true->∀ f2 g2 h2 i2 j2 k2 l2 m2 n2 o2 q2 V2,d2 e2 f2 g2 h2 i2 j2 k2 l2 m2 n2 o2 q2 V2->
 d2 (setD e2 10) g2 g2 h2 i2 j2 k2 l2 m2 n2 o2 q2 V2)/\
 True)/\
 ∀ e2:Nat->Bool,e2 10=true->e2 9=true->e2 8=true->e2 7=true->e2 6=true->e2 5=true->e2 4=true->e2 3=true->e2 2=true->e2 1=true->e2 0=true->∀ f2 g2 h2 i2 j2 k2 l2 m2 n2 o2 q2 W2,d2 e2 f2 g2 h2 i2 j2 k2 l2 m2 n2 o2 q2 W2->
 RR (sBuiltin .len #[63] 3 [false] [f2]) W2 fun X2 Y2=>
 RR (sBin .gtr 3 false true X2 (Value.int .i64 0)) Y2 fun Z2 a3=>
 GuardV Z2 true (
 RR (sCall (Value.func (.func 99) #[] #[]) [f2,p1]) a3 fun b3 c3=>
 RR (sOp (.unOp .not 4 (.const b3)) 4) c3 fun d3 e3=>
 RR (sOp (.pick (.const Z2) (.const d3) (.const (Value.bool false))) 4) e3 fun f3 g3=>
 GuardV f3 true (
 RR (sMakeFunc (.func 101) [] [a0]) g3 fun h3 i3=>
 RR (sCall (Value.func (.func 100) #[] #[]) [f2,h3]) i3 fun j3 k3=>
 RR (sOp (.unOp .not 4 (.const j3)) 4) k3 fun l3 m3=>
 RR (sOp (.pick (.const f3) (.const l3) (.const (Value.bool false))) 4) m3 fun n3 o3=>
 R (.returned n3) o3) (
 RR (sOp (.pick (.const f3) (.const undef) (.const (Value.bool false))) 4) g3 fun q3 s3=>
 R (.returned q3) s3)) (
 RR (sOp (.pick (.const Z2) (.const undef) (.const (Value.bool false))) 4) a3 fun t3 u3=>
 GuardV t3 true (
 RR (sMakeFunc (.func 101) [] [a0]) u3 fun v3 w3=>
 RR (sCall (Value.func (.func 100) #[] #[]) [f2,v3]) w3 fun x3 y3=>
 RR (sOp (.unOp .not 4 (.const x3)) 4) y3 fun z3 A3=>
 RR (sOp (.pick (.const t3) (.const z3) (.const (Value.bool false))) 4) A3 fun B3 C3=>
 R (.returned B3) C3) (
 RR (sOp (.pick (.const t3) (.const undef) (.const (Value.bool false))) 4) u3 fun D3 E3=>
 R (.returned D3) E3)))))
theorem og {p0 p1:Value} {w:World} {R:Ending->World->Prop} (h:iM p0 p1 w R):Calls Tryz.prog 45 #[p0,p1] w R:=
  calls_sh (.seq none .leaf (.seq none (.seq (some [31]) .leaf .leaf) .leaf)) [p0,p1] aw Tryz.func45 (by kernel_rfl) (by kernel_rfl) h


/- loop.example/prologserver/impl.UnfoldClause : function 46 -/
def fm (p0 p1:Value) (w:World) (R:Ending->World->Prop):Prop:=
 RR (sCall (Value.func (.func 45) #[] #[]) [p0,p1]) w fun a0 b0=>
 RR (sOp (.unOp .not 4 (.const a0)) 4) b0 fun c0 d0=>
 CondV c0 (
 R (.returned (.tuple #[(Value.slice none 0 0),(Value.bool false)])) d0) (
 RR (sOp (.slice 23 (.const p0) none (some (.const p1)) none) 23) d0 fun e0 f0=>
 RR (sCall (Value.func (.func 69) #[] #[]) [e0]) f0 fun g0 h0=>
 RR (sOp (.indexAddr 23 (.const p0) (.const p1)) 0) h0 fun i0 j0=>
 RR (sOp (.fieldAddr 34 (.const i0) 1) 0) j0 fun k0 l0=>
 RR (sOp (.load 30 (.const k0)) 30) l0 fun m0 n0=>
 RR (sOp (.indexAddr 30 (.const m0) (.const (Value.int .i64 0))) 0) n0 fun o0 q0=>
 RR (sOp (.load 32 (.const o0)) 32) q0 fun s0 t0=>
 RR (sCall (Value.func (.func 54) #[] #[]) [s0]) t0 fun u0 v0=>
 RR (sCall (Value.func (.func 88) #[] #[]) [p0,u0]) v0 fun w0 x0=>
 RR (sBuiltin .len #[63] 3 [false] [w0]) x0 fun y0 z0=>
 (∃ (A0:Value->Value->World->Prop) (B0:Value->Value->World->Nat),A0 (Value.int .i64 0) g0 z0/\
 ∀ C0 _ D0 _ _ _ _ _ _ _ _ _ _ _ _ E0 F0 G0 H0 I0 J0 K0 L0 M0 N0 O0 P0 Q0 S0 T0 U0 _ _ _ _:Value,∀ V0:World,A0 C0 D0 V0->
 RR (sBin .lss 3 false false C0 y0) V0 fun W0 X0=>
 CondV W0 (
 (∃ Y0:Value->World->Prop,(
 RR (sOp (.indexAddr 63 (.const w0) (.const C0)) 0) X0 fun Z0 a1=>
 RR (sOp (.load 3 (.const Z0)) 3) a1 fun b1 c1=>
 (∃ d1:(Nat->Bool)->Value->Value->Value->Value->Value->Value->Value->Value->Value->Value->Value->Value->Value->Value->Value->Value->World->Prop,d1 (fun _=>false) E0 F0 G0 H0 I0 J0 K0 L0 M0 N0 O0 P0 Q0 S0 T0 U0 { c1 with drawn:=c1.drawn+1 }/\(
 (∀ e1:Nat->Bool,e1 0=false->∀ f1 g1 h1 i1 j1 k1 l1 m1 n1 o1 q1 s1 t1 u1 v1 w1 x1,d1 e1 f1 g1 h1 i1 j1 k1 l1 m1 n1 o1 q1 s1 t1 u1 v1 w1 x1->
 d1 (setD e1 0) f1 g1 h1 i1 j1 k1 l1 m1 n1 o1 q1 s1 t1 u1 v1 p0 x1)/\
 (∀ e1:Nat->Bool,e1 1=false->∀ f1 g1 h1 i1 j1 k1 l1 m1 n1 o1 q1 s1 t1 u1 v1 w1 y1,d1 e1 f1 g1 h1 i1 j1 k1 l1 m1 n1 o1 q1 s1 t1 u1 v1 w1 y1->
 d1 (setD e1 1) f1 g1 h1 i1 j1 k1 l1 m1 n1 o1 q1 s1 t1 u1 p1 w1 y1)/\
 (∀ e1:Nat->Bool,e1 2=false->e1 0=true->e1 1=true->∀ f1 g1 h1 i1 j1 k1 l1 m1 n1 o1 q1 s1 t1 u1 v1 w1 z1,d1 e1 f1 g1 h1 i1 j1 k1 l1 m1 n1 o1 q1 s1 t1 u1 v1 w1 z1->
 RR (sOp (.indexAddr 23 (.const w1) (.const v1)) 0) z1 fun A1 B1=>
 d1 (setD e1 2) f1 g1 h1 i1 j1 k1 l1 m1 n1 o1 q1 s1 t1 A1 v1 w1 B1)/\
 (∀ e1:Nat->Bool,e1 3=false->e1 2=true->∀ f1 g1 h1 i1 j1 k1 l1 m1 n1 o1 q1 s1 t1 u1 v1 w1 C1,d1 e1 f1 g1 h1 i1 j1 k1 l1 m1 n1 o1 q1 s1 t1 u1 v1 w1 C1->
 RR (sOp (.load 34 (.const u1)) 34) C1 fun D1 E1=>
 d1 (setD e1 3) f1 g1 h1 i1 j1 k1 l1 m1 n1 o1 q1 s1 D1 u1 v1 w1 E1)/\
 (∀ e1:Nat->Bool,e1 4=false->∀ f1 g1 h1 i1 j1 k1 l1 m1 n1 o1 q1 s1 t1 u1 v1 w1 F1,d1 e1 f1 g1 h1 i1 j1 k1 l1 m1 n1 o1 q1 s1 t1 u1 v1 w1 F1->
 d1 (setD e1 4) f1 g1 h1 i1 j1 k1 l1 m1 n1 o1 q1 p0 t1 u1 v1 w1 F1)/\
 (∀ e1:Nat->Bool,e1 5=false->∀ f1 g1 h1 i1 j1 k1 l1 m1 n1 o1 q1 s1 t1 u1 v1 w1 G1,d1 e1 f1 g1 h1 i1 j1 k1 l1 m1 n1 o1 q1 s1 t1 u1 v1 w1 G1->
 d1 (setD e1 5) f1 g1 h1 i1 j1 k1 l1 m1 n1 o1 b1 s1 t1 u1 v1 w1 G1)/\
 (∀ e1:Nat->Bool,e1 6=false->e1 4=true->e1 5=true->∀ f1 g1 h1 i1 j1 k1 l1 m1 n1 o1 q1 s1 t1 u1 v1 w1 H1,d1 e1 f1 g1 h1 i1 j1 k1 l1 m1 n1 o1 q1 s1 t1 u1 v1 w1 H1->
 RR (sOp (.indexAddr 23 (.const s1) (.const q1)) 0) H1 fun I1 J1=>
 d1 (setD e1 6) f1 g1 h1 i1 j1 k1 l1 m1 n1 I1 q1 s1 t1 u1 v1 w1 J1)/\
 (∀ e1:Nat->Bool,e1 7=false->e1 6=true->∀ f1 g1 h1 i1 j1 k1 l1 m1 n1 o1 q1 s1 t1 u1 v1 w1 K1,d1 e1 f1 g1 h1 i1 j1 k1 l1 m1 n1 o1 q1 s1 t1 u1 v1 w1 K1->
 RR (sOp (.load 34 (.const o1)) 34) K1 fun L1 M1=>
 d1 (setD e1 7) f1 g1 h1 i1 j1 k1 l1 m1 L1 o1 q1 s1 t1 u1 v1 w1 M1)/\
 (∀ e1:Nat->Bool,e1 8=false->e1 3=true->e1 7=true->∀ f1 g1 h1 i1 j1 k1 l1 m1 n1 o1 q1 s1 t1 u1 v1 w1 N1,d1 e1 f1 g1 h1 i1 j1 k1 l1 m1 n1 o1 q1 s1 t1 u1 v1 w1 N1->
 RR (sCall (Value.func (.func 102) #[] #[]) [t1,n1]) N1 fun O1 P1=>
 d1 (setD e1 8) f1 g1 h1 i1 j1 k1 l1 O1 n1 o1 q1 s1 t1 u1 v1 w1 P1)/\
 (∀ e1:Nat->Bool,e1 9=false->e1 8=true->∀ f1 g1 h1 i1 j1 k1 l1 m1 n1 o1 q1 s1 t1 u1 v1 w1 Q1,d1 e1 f1 g1 h1 i1 j1 k1 l1 m1 n1 o1 q1 s1 t1 u1 v1 w1 Q1->
 d1 (setD e1 9) f1 g1 h1 i1 j1 k1 m1 m1 n1 o1 q1 s1 t1 u1 v1 w1 Q1)/\
 (∀ e1:Nat->Bool,e1 10=false->e1 9=true->∀ f1 g1 h1 i1 j1 k1 l1 m1 n1 o1 q1 s1 t1 u1 v1 w1 S1,d1 e1 f1 g1 h1 i1 j1 k1 l1 m1 n1 o1 q1 s1 t1 u1 v1 w1 S1->
 RR (sOp (.extract (.const l1) 0) 34) S1 fun T1 U1=>
 d1 (setD e1 10) f1 g1 h1 i1 j1 T1 l1 m1 n1 o1 q1 s1 t1 u1 v1 w1 U1)/\
 (∀ e1:Nat->Bool,e1 11=false->e1 9=true->∀ f1 g1 h1 i1 j1 k1 l1 m1 n1 o1 q1 s1 t1 u1 v1 w1 V1,d1 e1 f1 g1 h1 i1 j1 k1 l1 m1 n1 o1 q1 s1 t1 u1 v1 w1 V1->
 RR (sOp (.extract (.const l1) 1) 4) V1 fun W1 X1=>
 d1 (setD e1 11) f1 g1 h1 i1 W1 k1 l1 m1 n1 o1 q1 s1 t1 u1 v1 w1 X1)/\
 (∀ e1:Nat->Bool,e1 12=false->e1 9=true->∀ f1 g1 h1 i1 j1 k1 l1 m1 n1 o1 q1 s1 t1 u1 v1 w1 Y1,d1 e1 f1 g1 h1 i1 j1 k1 l1 m1 n1 o1 q1 s1 t1 u1 v1 w1 Y1->
 RR (sOp (.extract (.const l1) 2) 4) Y1 fun Z1 a2=>
 d1 (setD e1 12) f1 g1 h1 Z1 j1 k1 l1 m1 n1 o1 q1 s1 t1 u1 v1 w1 a2)/\
 (∀ e1:Nat->Bool,e1 13=false->∀ f1 g1 h1 i1 j1 k1 l1 m1 n1 o1 q1 s1 t1 u1 v1 w1 b2,d1 e1 f1 g1 h1 i1 j1 k1 l1 m1 n1 o1 q1 s1 t1 u1 v1 w1 b2->
 RR (sOp (.alloc 34) 0) b2 fun c2 d2=>
 d1 (setD e1 13) f1 g1 c2 i1 j1 k1 l1 m1 n1 o1 q1 s1 t1 u1 v1 w1 d2)/\
 (∀ e1:Nat->Bool,e1 14=false->e1 13=true->e1 10=true->e1 8=true->e1 0=true->e1 1=true->e1 2=true->e1 3=true->e1 4=true->e1 5=true->e1 6=true->e1 7=true->e1 8=true->e1 9=true->e1 10=true->e1 13=true->∀ f1 g1 h1 i1 j1 k1 l1 m1 n1 o1 q1 s1 t1 u1 v1 w1 e2,d1 e1 f1 g1 h1 i1 j1 k1 l1 m1 n1 o1 q1 s1 t1 u1 v1 w1 e2->
 RR (sOp (.store 34 (.const h1) (.const k1)) 0) e2 fun _ f2=>
 d1 (setD e1 14) f1 g1 h1 i1 j1 k1 l1 m1 n1 o1 q1 s1 t1 u1 v1 w1 f2)/\
 (∀ e1:Nat->Bool,e1 15=false->e1 11=true->e1 14=true->e1 0=true->e1 1=true->e1 2=true->e1 3=true->e1 4=true->e1 5=true->e1 6=true->e1 7=true->e1 8=true->e1 9=true->e1 10=true->e1 11=true->e1 13=true->e1 14=true->∀ f1 g1 h1 i1 j1 k1 l1 m1 n1 o1 q1 s1 t1 u1 v1 w1 g2,d1 e1 f1 g1 h1 i1 j1 k1 l1 m1 n1 o1 q1 s1 t1 u1 v1 w1 g2->
 d1 (setD e1 15) f1 j1 h1 i1 j1 k1 l1 m1 n1 o1 q1 s1 t1 u1 v1 w1 g2)/\
 (∀ e1:Nat->Bool,e1 16=false->e1 12=true->e1 15=true->e1 0=true->e1 1=true->e1 2=true->e1 3=true->e1 4=true->e1 5=true->e1 6=true->e1 7=true->e1 8=true->e1 9=true->e1 10=true->e1 11=true->e1 12=true->e1 13=true->e1 14=true->e1 15=true->∀ f1 g1 h1 i1 j1 k1 l1 m1 n1 o1 q1 s1 t1 u1 v1 w1 h2,d1 e1 f1 g1 h1 i1 j1 k1 l1 m1 n1 o1 q1 s1 t1 u1 v1 w1 h2->
 d1 (setD e1 16) i1 g1 h1 i1 j1 k1 l1 m1 n1 o1 q1 s1 t1 u1 v1 w1 h2)/\
 True)/\
 ∀ e1:Nat->Bool,e1 16=true->e1 15=true->e1 14=true->e1 13=true->e1 12=true->e1 11=true->e1 10=true->e1 9=true->e1 8=true->e1 7=true->e1 6=true->e1 5=true->e1 4=true->e1 3=true->e1 2=true->e1 1=true->e1 0=true->∀ f1 g1 h1 i1 j1 k1 l1 m1 n1 o1 q1 s1 t1 u1 v1 w1 i2,d1 e1 f1 g1 h1 i1 j1 k1 l1 m1 n1 o1 q1 s1 t1 u1 v1 w1 i2->
 (∃ j2:Value->World->Prop,(
 GuardV g1 true (
 RR (sOp (.unOp .not 4 (.const f1)) 4) i2 fun k2 l2=>
 RR (sOp (.pick (.const g1) (.const k2) (.const (Value.bool false))) 4) l2 fun m2 n2=>
 j2 m2 n2) (
 RR (sOp (.pick (.const g1) (.const undef) (.const (Value.bool false))) 4) i2 fun o2 q2=>
 j2 o2 q2))/\
 ∀ s2 _ _ _ _:Value,∀ t2:World,j2 s2 t2->
 CondV s2 (
 R (.returned (.tuple #[(Value.slice none 0 0),(Value.bool false)])) t2) (
 CondV g1 (
 RR (sOp (.load 34 (.const h1)) 34) t2 fun u2 v2=>
 RR (sBuildSlice 23 1 [(0,u2)]) v2 fun w2 x2=>
 RR (sBuiltin .append #[23,23] 23 [false,false] [D0,w2]) x2 fun y2 z2=>
 Y0 y2 z2) (
 Y0 D0 t2)))))/\
 ∀ A2 _ _ _ _ _ _ _ _ _ _ _ _ _ _ _ _ _ _ _ _ _ _ _ _ _ _ _ _ _ _ _:Value,∀ B2:World,Y0 A2 B2->
 RR (sBin .add 3 false true C0 (Value.int .i64 1)) B2 fun C2 D2=>
 A0 C2 A2 D2/\B0 C2 A2 D2<B0 C0 D0 V0)) (
 RR (sBin .add 3 false true p1 (Value.int .i64 1)) X0 fun E2 F2=>
 RR (sOp (.slice 23 (.const p0) (some (.const E2)) none none) 23) F2 fun G2 H2=>
 RR (sCall (Value.func (.func 69) #[] #[]) [G2]) H2 fun I2 J2=>
 RR (sBuiltin .append #[23,23] 23 [false,false] [D0,I2]) J2 fun K2 L2=>
 RR (sCall (Value.func (.func 17) #[] #[]) [K2]) L2 fun M2 N2=>
 RR (sOp (.unOp .not 4 (.const M2)) 4) N2 fun O2 P2=>
 CondV O2 (
 R (.returned (.tuple #[(Value.slice none 0 0),(Value.bool false)])) P2) (
 R (.returned (.tuple #[K2,(Value.bool true)])) P2))))
theorem iW {p0 p1:Value} {w:World} {R:Ending->World->Prop} (h:fm p0 p1 w R):Calls Tryz.prog 46 #[p0,p1] w R:=
  calls_sh (.seq none .leaf (.seq none .leaf (.seq none .leaf (.seq none (.seq none .leaf (.one (.loop [31,6] (.seq none .leaf (.seq none .leaf (.seq (some [6]) (.one (.seq none .leaf (.seq none .leaf (.seq none (.seq (some [52]) .leaf .leaf) .leaf)))) .leaf)))))) .leaf)))) [p0,p1] aw Tryz.func46 (by kernel_rfl) (by kernel_rfl) h


/- loop.example/prologserver/spec.CanUnfold : function 47 -/
def jT (p0 p1:Value) (w:World) (R:Ending->World->Prop):Prop:=
 (∃ a0:Value->World->Prop,(
 RR (sCall (Value.func (.func 55) #[] #[]) [p0]) w fun b0 c0=>
 RR (sOp (.unOp .not 4 (.const b0)) 4) c0 fun d0 e0=>
 GuardV d0 false (
 RR (sBin .lss 3 false true p1 (Value.int .i64 0)) e0 fun f0 g0=>
 RR (sOp (.pick (.const d0) (.const (Value.bool true)) (.const f0)) 4) g0 fun h0 i0=>
 GuardV h0 false (
 RR (sBuiltin .len #[23] 3 [false] [p0]) i0 fun j0 k0=>
 RR (sBin .geq 3 false false p1 j0) k0 fun l0 m0=>
 RR (sOp (.pick (.const h0) (.const (Value.bool true)) (.const l0)) 4) m0 fun n0 o0=>
 GuardV n0 false (
 RR (sOp (.indexAddr 23 (.const p0) (.const p1)) 0) o0 fun q0 s0=>
 RR (sOp (.load 34 (.const q0)) 34) s0 fun t0 u0=>
 RR (sCall (Value.func (.func 103) #[] #[]) [t0]) u0 fun v0 w0=>
 RR (sOp (.unOp .not 4 (.const v0)) 4) w0 fun x0 y0=>
 RR (sOp (.pick (.const n0) (.const (Value.bool true)) (.const x0)) 4) y0 fun z0 A0=>
 a0 z0 A0) (
 RR (sOp (.pick (.const n0) (.const (Value.bool true)) (.const undef)) 4) o0 fun B0 C0=>
 a0 B0 C0)) (
 RR (sOp (.pick (.const h0) (.const (Value.bool true)) (.const undef)) 4) i0 fun D0 E0=>
 GuardV D0 false (
 RR (sOp (.indexAddr 23 (.const p0) (.const p1)) 0) E0 fun F0 G0=>
 RR (sOp (.load 34 (.const F0)) 34) G0 fun H0 I0=>
 RR (sCall (Value.func (.func 103) #[] #[]) [H0]) I0 fun J0 K0=>
 RR (sOp (.unOp .not 4 (.const J0)) 4) K0 fun L0 M0=>
 RR (sOp (.pick (.const D0) (.const (Value.bool true)) (.const L0)) 4) M0 fun N0 O0=>
 a0 N0 O0) (
 RR (sOp (.pick (.const D0) (.const (Value.bool true)) (.const undef)) 4) E0 fun P0 Q0=>
 a0 P0 Q0))) (
 RR (sOp (.pick (.const d0) (.const (Value.bool true)) (.const undef)) 4) e0 fun S0 T0=>
 GuardV S0 false (
 RR (sBuiltin .len #[23] 3 [false] [p0]) T0 fun U0 V0=>
 RR (sBin .geq 3 false false p1 U0) V0 fun W0 X0=>
 RR (sOp (.pick (.const S0) (.const (Value.bool true)) (.const W0)) 4) X0 fun Y0 Z0=>
 GuardV Y0 false (
 RR (sOp (.indexAddr 23 (.const p0) (.const p1)) 0) Z0 fun a1 b1=>
 RR (sOp (.load 34 (.const a1)) 34) b1 fun c1 d1=>
 RR (sCall (Value.func (.func 103) #[] #[]) [c1]) d1 fun e1 f1=>
 RR (sOp (.unOp .not 4 (.const e1)) 4) f1 fun g1 h1=>
 RR (sOp (.pick (.const Y0) (.const (Value.bool true)) (.const g1)) 4) h1 fun i1 j1=>
 a0 i1 j1) (
 RR (sOp (.pick (.const Y0) (.const (Value.bool true)) (.const undef)) 4) Z0 fun k1 l1=>
 a0 k1 l1)) (
 RR (sOp (.pick (.const S0) (.const (Value.bool true)) (.const undef)) 4) T0 fun m1 n1=>
 GuardV m1 false (
 RR (sOp (.indexAddr 23 (.const p0) (.const p1)) 0) n1 fun o1 q1=>
 RR (sOp (.load 34 (.const o1)) 34) q1 fun s1 t1=>
 RR (sCall (Value.func (.func 103) #[] #[]) [s1]) t1 fun u1 v1=>
 RR (sOp (.unOp .not 4 (.const u1)) 4) v1 fun w1 x1=>
 RR (sOp (.pick (.const m1) (.const (Value.bool true)) (.const w1)) 4) x1 fun y1 z1=>
 a0 y1 z1) (
 RR (sOp (.pick (.const m1) (.const (Value.bool true)) (.const undef)) 4) n1 fun A1 B1=>
 a0 A1 B1))))/\
 ∀ C1 _ _ _ _ _ _ _ _ _ _ _ _ _ _ _ _ _ _ _ _:Value,∀ D1:World,a0 C1 D1->
 CondV C1 (
 R (.returned (Value.bool false)) D1) (
 RR (sOp (.indexAddr 23 (.const p0) (.const p1)) 0) D1 fun E1 F1=>
 RR (sOp (.fieldAddr 34 (.const E1) 1) 0) F1 fun G1 H1=>
 RR (sOp (.load 30 (.const G1)) 30) H1 fun I1 J1=>
 RR (sOp (.indexAddr 30 (.const I1) (.const (Value.int .i64 0))) 0) J1 fun K1 L1=>
 RR (sOp (.load 32 (.const K1)) 32) L1 fun M1 N1=>
 RR (sCall (Value.func (.func 104) #[] #[]) [p0,M1]) N1 fun O1 P1=>
 (∃ (Q1:Value->World->Prop) (S1:Value->World->Nat),Q1 (Value.int .i64 0) P1/\
 ∀ T1 _ _ _ _ _ _ _ _ _ _ _ _ _ _ _ _ _ _ _ _ _ _ _:Value,∀ U1:World,Q1 T1 U1->
 RR (sBuiltin .len #[63] 3 [false] [O1]) U1 fun V1 W1=>
 RR (sBin .lss 3 false false T1 V1) W1 fun X1 Y1=>
 CondV X1 (
 (∃ Z1:Value->World->Prop,(
 RR (sOp (.indexAddr 63 (.const O1) (.const T1)) 0) Y1 fun a2 b2=>
 RR (sOp (.load 3 (.const a2)) 3) b2 fun c2 d2=>
 RR (sOp (.indexAddr 23 (.const p0) (.const c2)) 0) d2 fun e2 f2=>
 RR (sOp (.load 34 (.const e2)) 34) f2 fun g2 h2=>
 RR (sCall (Value.func (.func 105) #[] #[]) [g2]) h2 fun i2 j2=>
 GuardV i2 false (
 RR (sOp (.indexAddr 63 (.const O1) (.const T1)) 0) j2 fun k2 l2=>
 RR (sOp (.load 3 (.const k2)) 3) l2 fun m2 n2=>
 RR (sBin .eql 3 false false m2 p1) n2 fun o2 q2=>
 RR (sOp (.pick (.const i2) (.const (Value.bool true)) (.const o2)) 4) q2 fun s2 t2=>
 Z1 s2 t2) (
 RR (sOp (.pick (.const i2) (.const (Value.bool true)) (.const undef)) 4) j2 fun u2 v2=>
 Z1 u2 v2))/\
 ∀ w2 _ _ _ _ _ _ _ _ _ _ _ _ _ _ _:Value,∀ x2:World,Z1 w2 x2->
 CondV w2 (
 R (.returned (Value.bool false)) x2) (
 RR (sBin .add 3 false true T1 (Value.int .i64 1)) x2 fun y2 z2=>
 Q1 y2 z2/\S1 y2 z2<S1 T1 U1))) (
 RR (sBuiltin .len #[63] 3 [false] [O1]) Y1 fun A2 B2=>
 RR (sBin .gtr 3 false true A2 (Value.int .i64 0)) B2 fun C2 D2=>
 GuardV C2 true (
 RR (sOp (.indexAddr 23 (.const p0) (.const p1)) 0) D2 fun E2 F2=>
 RR (sOp (.load 34 (.const E2)) 34) F2 fun G2 H2=>
 RR (sCall (Value.func (.func 105) #[] #[]) [G2]) H2 fun I2 J2=>
 RR (sOp (.unOp .not 4 (.const I2)) 4) J2 fun K2 L2=>
 RR (sOp (.pick (.const C2) (.const K2) (.const (Value.bool false))) 4) L2 fun M2 N2=>
 R (.returned M2) N2) (
 RR (sOp (.pick (.const C2) (.const undef) (.const (Value.bool false))) 4) D2 fun O2 P2=>
 R (.returned O2) P2)))))
theorem nv {p0 p1:Value} {w:World} {R:Ending->World->Prop} (h:jT p0 p1 w R):Calls Tryz.prog 47 #[p0,p1] w R:=
  calls_sh (.seq none .leaf (.seq none (.seq (some [27]) .leaf .leaf) (.seq none .leaf (.seq none (.seq none .leaf (.one (.loop [6] (.seq none .leaf (.seq none (.one (.seq (some [58]) .leaf .leaf)) .leaf))))) .leaf)))) [p0,p1] aw Tryz.func47 (by kernel_rfl) (by kernel_rfl) h


/- loop.example/prologserver/impl.ClausesFor : function 48 -/
def ie (p0 p1:Value) (w:World) (R:Ending->World->Prop):Prop:=
 RR (sOp (.box 32 (.const p1)) 0) w fun a0 b0=>
 (∃ c0:Value->World->Prop,(
 RR (sCall (Value.func (.func 17) #[] #[]) [p0]) b0 fun d0 e0=>
 RR (sOp (.unOp .not 4 (.const d0)) 4) e0 fun f0 g0=>
 GuardV f0 false (
 RR (sOp (.load 32 (.const a0)) 32) g0 fun h0 i0=>
 RR (sCall (Value.func (.func 66) #[] #[]) [h0]) i0 fun j0 k0=>
 RR (sOp (.unOp .not 4 (.const j0)) 4) k0 fun l0 m0=>
 RR (sOp (.pick (.const f0) (.const (Value.bool true)) (.const l0)) 4) m0 fun n0 o0=>
 GuardV n0 false (
 RR (sOp (.load 32 (.const a0)) 32) o0 fun q0 s0=>
 RR (sCall (Value.func (.func 67) #[] #[]) [q0]) s0 fun t0 u0=>
 RR (sOp (.unOp .not 4 (.const t0)) 4) u0 fun v0 w0=>
 RR (sOp (.pick (.const n0) (.const (Value.bool true)) (.const v0)) 4) w0 fun x0 y0=>
 c0 x0 y0) (
 RR (sOp (.pick (.const n0) (.const (Value.bool true)) (.const undef)) 4) o0 fun z0 A0=>
 c0 z0 A0)) (
 RR (sOp (.pick (.const f0) (.const (Value.bool true)) (.const undef)) 4) g0 fun B0 C0=>
 GuardV B0 false (
 RR (sOp (.load 32 (.const a0)) 32) C0 fun D0 E0=>
 RR (sCall (Value.func (.func 67) #[] #[]) [D0]) E0 fun F0 G0=>
 RR (sOp (.unOp .not 4 (.const F0)) 4) G0 fun H0 I0=>
 RR (sOp (.pick (.const B0) (.const (Value.bool true)) (.const H0)) 4) I0 fun J0 K0=>
 c0 J0 K0) (
 RR (sOp (.pick (.const B0) (.const (Value.bool true)) (.const undef)) 4) C0 fun L0 M0=>
 c0 L0 M0)))/\
 ∀ N0 _ _ _ _ _ _ _ _ _ _ _ _:Value,∀ O0:World,c0 N0 O0->
 CondV N0 (
 R (.returned (Value.slice none 0 0)) O0) (
 RR (sOp (.load 32 (.const a0)) 32) O0 fun P0 Q0=>
 RR (sCall (Value.func (.func 54) #[] #[]) [P0]) Q0 fun S0 T0=>
 RR (sCall (Value.func (.func 88) #[] #[]) [p0,S0]) T0 fun U0 V0=>
 R (.returned U0) V0))
theorem lP {p0 p1:Value} {w:World} {R:Ending->World->Prop} (h:ie p0 p1 w R):Calls Tryz.prog 48 #[p0,p1] w R:=
  calls_sh (.seq none .leaf (.seq none (.seq (some [17]) .leaf .leaf) .leaf)) [p0,p1] aw Tryz.func48 (by kernel_rfl) (by kernel_rfl) h


/- loop.example/prologserver/laws.pgIn : function 49 -/
def vL (p0 p1:Value) (w:World) (R:Ending->World->Prop):Prop:=
 (∃ (a0:Value->World->Prop) (b0:Value->World->Nat),a0 (Value.int .i64 0) w/\
 ∀ c0 _ _ _ _ _ _ _ _ _ _ _ _ _:Value,∀ d0:World,a0 c0 d0->
 RR (sBuiltin .len #[63] 3 [false] [p0]) d0 fun e0 f0=>
 RR (sBin .lss 3 false false c0 e0) f0 fun g0 h0=>
 CondV g0 (
 RR (sOp (.indexAddr 63 (.const p0) (.const c0)) 0) h0 fun i0 j0=>
 RR (sOp (.load 3 (.const i0)) 3) j0 fun k0 l0=>
 RR (sBin .eql 3 false false k0 p1) l0 fun m0 n0=>
 CondV m0 (
 R (.returned (Value.bool true)) n0) (
 RR (sBin .add 3 false true c0 (Value.int .i64 1)) n0 fun o0 q0=>
 a0 o0 q0/\b0 o0 q0<b0 c0 d0)) (
 R (.returned (Value.bool false)) h0))
theorem xF {p0 p1:Value} {w:World} {R:Ending->World->Prop} (h:vL p0 p1 w R):Calls Tryz.prog 49 #[p0,p1] w R:=
  calls_sh (.seq none .leaf (.seq none (.seq none .leaf (.one (.loop [5] .leaf))) .leaf)) [p0,p1] aw Tryz.func49 (by kernel_rfl) (by kernel_rfl) h


/- loop.example/prologserver/spec.l18Open : function 50 -/
def om (p0:Value) (w:World) (R:Ending->World->Prop):Prop:=
 (∃ a0:Value->World->Prop,(
 RR (sBuiltin .len #[22] 3 [false] [p0]) w fun b0 c0=>
 RR (sBin .gtr 3 false true b0 (Value.int .i64 2000)) c0 fun d0 e0=>
 CondV d0 (
 RR (sOp (.slice 22 (.const p0) none (some (.const (Value.int .i64 2000))) none) 22) e0 fun f0 g0=>
 a0 f0 g0) (
 a0 p0 e0))/\
 ∀ h0 _ _ _ _ _:Value,∀ i0:World,a0 h0 i0->
 RR (sBuild 102 [(0,h0)]) i0 fun j0 k0=>
 RR (sOp (.box 102 (.const j0)) 66) k0 fun l0 m0=>
 R (.returned l0) m0)
theorem rP {p0:Value} {w:World} {R:Ending->World->Prop} (h:om p0 w R):Calls Tryz.prog 50 #[p0] w R:=
  calls_sh (.seq none .leaf (.seq (some [0]) .leaf .leaf)) [p0] aw Tryz.func50 (by kernel_rfl) (by kernel_rfl) h


/- loop.example/prologserver/spec.l4MutateAll : function 51 -/
def fV (p0 p1:Value) (w:World) (R:Ending->World->Prop):Prop:=
 RR (sBuildSlice 23 0 []) w fun a0 b0=>
 (∃ (c0:Value->Value->World->Prop) (d0:Value->Value->World->Nat),c0 (Value.int .i64 0) a0 b0/\
 ∀ e0 _ _ f0 _ _ _ _ _ _ _ _ _ _ _ _ _:Value,∀ g0:World,c0 e0 f0 g0->
 RR (sBuiltin .len #[23] 3 [false] [p1]) g0 fun h0 i0=>
 RR (sBin .lss 3 false false e0 h0) i0 fun j0 k0=>
 CondV j0 (
 RR (sOp (.indexAddr 23 (.const p1) (.const e0)) 0) k0 fun l0 m0=>
 RR (sOp (.load 34 (.const l0)) 34) m0 fun n0 o0=>
 RR (sCall (Value.func (.func 62) #[] #[]) [p0,n0]) o0 fun q0 s0=>
 RR (sBuildSlice 23 1 [(0,q0)]) s0 fun t0 u0=>
 RR (sBuiltin .append #[23,23] 23 [false,false] [f0,t0]) u0 fun v0 w0=>
 RR (sBin .add 3 false true e0 (Value.int .i64 1)) w0 fun x0 y0=>
 c0 x0 v0 y0/\d0 x0 v0 y0<d0 e0 f0 g0) (
 (∃ z0:Value->World->Prop,(
 RR (sCall (Value.func (.func 61) #[] #[]) [p0,(Value.int .i64 30)]) k0 fun A0 B0=>
 RR (sBin .eql 3 false true A0 (Value.int .i64 0)) B0 fun C0 D0=>
 CondV C0 (
 (∃ (E0:Value->World->Prop) (F0:Value->World->Nat),E0 f0 D0/\
 ∀ G0 _ _ _ _ _ _ _ _:Value,∀ H0:World,E0 G0 H0->
 RR (sBuiltin .len #[23] 3 [false] [G0]) H0 fun I0 J0=>
 RR (sBin .leq 3 false true I0 (Value.int .i64 20)) J0 fun K0 L0=>
 CondV K0 (
 RR (sCall (Value.func (.func 106) #[] #[]) [(Value.string ⟨#[122]⟩),(Value.slice none 0 0)]) L0 fun M0 N0=>
 RR (sBuild 34 [(0,M0)]) N0 fun O0 P0=>
 RR (sBuildSlice 23 1 [(0,O0)]) P0 fun Q0 S0=>
 RR (sBuiltin .append #[23,23] 23 [false,false] [G0,Q0]) S0 fun T0 U0=>
 E0 T0 U0/\F0 T0 U0<F0 G0 H0) (
 z0 G0 L0))) (
 RR (sBin .eql 3 false true A0 (Value.int .i64 1)) D0 fun V0 W0=>
 CondV V0 (
 RR (sOp (.slice 23 (.const f0) (some (.const (Value.int .i64 1))) none none) 23) W0 fun X0 Y0=>
 z0 X0 Y0) (
 z0 f0 W0)))/\
 ∀ _ _ _ _ Z0 _ _ _ _ _ _ _ _ _ _ _ _:Value,∀ a1:World,z0 Z0 a1->
 R (.returned Z0) a1)))
theorem kW {p0 p1:Value} {w:World} {R:Ending->World->Prop} (h:fV p0 p1 w R):Calls Tryz.prog 51 #[p0,p1] w R:=
  calls_sh (.seq none .leaf (.seq none .leaf (.seq none (.seq none .leaf (.one (.loop [6,5] .leaf))) (.seq (some [5]) (.seq none .leaf (.one (.seq none .leaf (.two (.one (.loop [5] .leaf)) .leaf)))) .leaf)))) [p0,p1] aw Tryz.func51 (by kernel_rfl) (by kernel_rfl) h


/- loop.example/prologserver/impl.pred : function 54 -/
def ww (p0:Value) (w:World) (R:Ending->World->Prop):Prop:=
 RR (sOp (.box 32 (.const p0)) 0) w fun a0 b0=>
 RR (sOp (.alloc 36) 0) b0 fun c0 d0=>
 RR (sOp (.fieldAddr 32 (.const a0) 2) 0) d0 fun e0 f0=>
 RR (sOp (.load 9 (.const e0)) 9) f0 fun g0 h0=>
 RR (sOp (.fieldAddr 32 (.const a0) 3) 0) h0 fun i0 j0=>
 RR (sOp (.load 30 (.const i0)) 30) j0 fun k0 l0=>
 RR (sBuiltin .len #[30] 3 [false] [k0]) l0 fun m0 n0=>
 RR (sBuild 36 [(0,g0),(1,m0)]) n0 fun o0 q0=>
 RR (sOp (.store 36 (.const c0) (.const o0)) 0) q0 fun _ s0=>
 (LoadV Tryz.prog 36 c0 s0 fun r0=>R (.returned r0) s0)
theorem wI {p0:Value} {w:World} {R:Ending->World->Prop} (h:ww p0 w R):Calls Tryz.prog 54 #[p0] w R:=
  calls_sh .leaf [p0] aw Tryz.func54 (by kernel_rfl) (by kernel_rfl) h


/- loop.example/prologserver/spec.ProgramValid : function 55 -/
def fi (p0:Value) (w:World) (R:Ending->World->Prop):Prop:=
 (∃ (a0:Value->World->Prop) (b0:Value->World->Nat),a0 (Value.int .i64 0) w/\
 ∀ c0 _ _ _ _ _ _ _ _ _ _ _ _ _ _ _ _ _:Value,∀ d0:World,a0 c0 d0->
 (∃ e0:Value->World->Prop,(
 RR (sBuiltin .len #[23] 3 [false] [p0]) d0 fun f0 g0=>
 RR (sBin .lss 3 false false c0 f0) g0 fun h0 i0=>
 GuardV h0 true (
 RR (sBin .leq 3 false true c0 (Value.int .i64 20)) i0 fun j0 k0=>
 RR (sOp (.pick (.const h0) (.const j0) (.const (Value.bool false))) 4) k0 fun l0 m0=>
 e0 l0 m0) (
 RR (sOp (.pick (.const h0) (.const undef) (.const (Value.bool false))) 4) i0 fun n0 o0=>
 e0 n0 o0))/\
 ∀ q0 _ _ _ _ _ _ _:Value,∀ s0:World,e0 q0 s0->
 CondV q0 (
 RR (sOp (.indexAddr 23 (.const p0) (.const c0)) 0) s0 fun t0 u0=>
 RR (sOp (.load 34 (.const t0)) 34) u0 fun v0 w0=>
 RR (sCall (Value.func (.func 64) #[] #[]) [v0]) w0 fun x0 y0=>
 RR (sOp (.unOp .not 4 (.const x0)) 4) y0 fun z0 A0=>
 CondV z0 (
 R (.returned (Value.bool false)) A0) (
 RR (sBin .add 3 false true c0 (Value.int .i64 1)) A0 fun B0 C0=>
 a0 B0 C0/\b0 B0 C0<b0 c0 d0)) (
 RR (sBuiltin .len #[23] 3 [false] [p0]) s0 fun D0 E0=>
 RR (sBin .leq 3 false true D0 (Value.int .i64 20)) E0 fun F0 G0=>
 R (.returned F0) G0)))
theorem jp {p0:Value} {w:World} {R:Ending->World->Prop} (h:fi p0 w R):Calls Tryz.prog 55 #[p0] w R:=
  calls_sh (.seq none .leaf (.seq none (.seq none .leaf (.one (.loop [3] (.seq none (.seq (some [11]) .leaf .leaf) .leaf)))) .leaf)) [p0] aw Tryz.func55 (by kernel_rfl) (by kernel_rfl) h


/- slices.ContainsFunc[[]loop.example/prologserver/impl.Clause,loop.example/prologserver/impl.Clause] : function 57 -/
def cG (p0 p1:Value) (w:World) (R:Ending->World->Prop):Prop:=
 RR (sCall (Value.func (.func 108) #[] #[]) [p0,p1]) w fun a0 b0=>
 RR (sBin .geq 3 false true a0 (Value.int .i64 0)) b0 fun c0 d0=>
 R (.returned c0) d0
theorem dZ {p0 p1:Value} {w:World} {R:Ending->World->Prop} (h:cG p0 p1 w R):Calls Tryz.prog 57 #[p0,p1] w R:=
  calls_sh .leaf [p0,p1] aw Tryz.func57 (by kernel_rfl) (by kernel_rfl) h


/- loop.example/prologserver/impl.ProgramValid$1 : function 58 -/
def dS (p0:Value) (w:World) (R:Ending->World->Prop):Prop:=
 RR (sOp (.box 34 (.const p0)) 0) w fun a0 b0=>
 RR (sOp (.load 34 (.const a0)) 34) b0 fun c0 d0=>
 RR (sCall (Value.func (.func 22) #[] #[]) [c0]) d0 fun e0 f0=>
 RR (sOp (.unOp .not 4 (.const e0)) 4) f0 fun g0 h0=>
 R (.returned g0) h0
theorem gB {p0:Value} {w:World} {R:Ending->World->Prop} (h:dS p0 w R):Calls Tryz.prog 58 #[p0] w R:=
  calls_sh .leaf [p0] aw Tryz.func58 (by kernel_rfl) (by kernel_rfl) h


/- (*loop.example/prologserver/spec.l18Rd).pick : function 61 -/
def gX (p0 p1:Value) (w:World) (R:Ending->World->Prop):Prop:=
 RR (sOp (.nilCheck (.const p0)) 0) w fun a0 b0=>
 RR (sOp (.fieldAddr 102 (.const a0) 1) 0) b0 fun c0 d0=>
 RR (sOp (.load 3 (.const c0)) 3) d0 fun e0 f0=>
 RR (sBin .add 3 false true e0 (Value.int .i64 1)) f0 fun g0 h0=>
 RR (sOp (.nilCheck (.const p0)) 0) h0 fun i0 j0=>
 RR (sOp (.fieldAddr 102 (.const i0) 1) 0) j0 fun k0 l0=>
 RR (sOp (.store 3 (.const k0) (.const g0)) 0) l0 fun _ m0=>
 (∃ n0:Value->World->Prop,(
 RR (sBin .lss 3 false true p1 (Value.int .i64 1)) m0 fun o0 q0=>
 GuardV o0 false (
 RR (sOp (.nilCheck (.const p0)) 0) q0 fun s0 t0=>
 RR (sOp (.fieldAddr 102 (.const s0) 0) 0) t0 fun u0 v0=>
 RR (sOp (.load 22 (.const u0)) 22) v0 fun w0 x0=>
 RR (sBuiltin .len #[22] 3 [false] [w0]) x0 fun y0 z0=>
 RR (sBin .eql 3 false true y0 (Value.int .i64 0)) z0 fun A0 B0=>
 RR (sOp (.pick (.const o0) (.const (Value.bool true)) (.const A0)) 4) B0 fun C0 D0=>
 n0 C0 D0) (
 RR (sOp (.pick (.const o0) (.const (Value.bool true)) (.const undef)) 4) q0 fun E0 F0=>
 n0 E0 F0))/\
 ∀ G0 _ _ _ _ _ _ _ _ _:Value,∀ H0:World,n0 G0 H0->
 CondV G0 (
 R (.returned (Value.int .i64 0)) H0) (
 RR (sOp (.nilCheck (.const p0)) 0) H0 fun I0 J0=>
 RR (sOp (.fieldAddr 102 (.const I0) 1) 0) J0 fun K0 L0=>
 RR (sOp (.load 3 (.const K0)) 3) L0 fun M0 N0=>
 RR (sBin .sub 3 false true M0 (Value.int .i64 1)) N0 fun O0 P0=>
 RR (sOp (.nilCheck (.const p0)) 0) P0 fun Q0 S0=>
 RR (sOp (.fieldAddr 102 (.const Q0) 0) 0) S0 fun T0 U0=>
 RR (sOp (.load 22 (.const T0)) 22) U0 fun V0 W0=>
 RR (sBuiltin .len #[22] 3 [false] [V0]) W0 fun X0 Y0=>
 RR (sBin .lss 3 false false O0 X0) Y0 fun Z0 a1=>
 CondV Z0 (
 RR (sOp (.nilCheck (.const p0)) 0) a1 fun b1 c1=>
 RR (sOp (.fieldAddr 102 (.const b1) 0) 0) c1 fun d1 e1=>
 RR (sOp (.load 22 (.const d1)) 22) e1 fun f1 g1=>
 RR (sOp (.indexAddr 22 (.const f1) (.const O0)) 0) g1 fun h1 i1=>
 RR (sOp (.load 5 (.const h1)) 5) i1 fun j1 k1=>
 RR (sOp (.convert 5 3 (.const j1)) 3) k1 fun l1 m1=>
 RR (sBin .rem 3 false false l1 p1) m1 fun n1 o1=>
 R (.returned n1) o1) (
 (∃ q1:(Nat->Bool)->Value->Value->Value->Value->Value->Value->Value->Value->Value->Value->Value->Value->Value->Value->Value->Value->Value->Value->Value->Value->Value->Value->Value->Value->Value->Value->Value->Value->Value->Value->Value->Value->Value->Value->Value->Value->Value->Value->Value->Value->Value->Value->Value->Value->Value->Value->World->Prop,q1 (fun _=>false) undef undef undef undef undef undef undef undef undef undef undef undef undef undef undef undef undef undef undef undef undef undef undef undef undef undef undef undef undef undef undef undef undef undef undef undef undef undef undef undef undef undef undef undef undef undef { a1 with drawn:=a1.drawn+1 }/\(
 (∀ s1:Nat->Bool,s1 0=false->∀ t1 u1 v1 w1 x1 y1 z1 A1 B1 C1 D1 E1 F1 G1 H1 I1 J1 K1 L1 M1 N1 O1 P1 Q1 S1 T1 U1 V1 W1 X1 Y1 Z1 a2 b2 c2 d2 e2 f2 g2 h2 i2 j2 k2 l2 m2 n2 o2,q1 s1 t1 u1 v1 w1 x1 y1 z1 A1 B1 C1 D1 E1 F1 G1 H1 I1 J1 K1 L1 M1 N1 O1 P1 Q1 S1 T1 U1 V1 W1 X1 Y1 Z1 a2 b2 c2 d2 e2 f2 g2 h2 i2 j2 k2 l2 m2 n2 o2->
 q1 (setD s1 0) t1 u1 v1 w1 x1 y1 z1 A1 B1 C1 D1 E1 F1 G1 H1 I1 J1 K1 L1 M1 N1 O1 P1 Q1 S1 T1 U1 V1 W1 X1 Y1 Z1 a2 b2 c2 d2 e2 f2 g2 h2 i2 j2 k2 l2 m2 p0 o2)/\
 (∀ s1:Nat->Bool,s1 1=false->s1 0=true->∀ t1 u1 v1 w1 x1 y1 z1 A1 B1 C1 D1 E1 F1 G1 H1 I1 J1 K1 L1 M1 N1 O1 P1 Q1 S1 T1 U1 V1 W1 X1 Y1 Z1 a2 b2 c2 d2 e2 f2 g2 h2 i2 j2 k2 l2 m2 n2 q2,q1 s1 t1 u1 v1 w1 x1 y1 z1 A1 B1 C1 D1 E1 F1 G1 H1 I1 J1 K1 L1 M1 N1 O1 P1 Q1 S1 T1 U1 V1 W1 X1 Y1 Z1 a2 b2 c2 d2 e2 f2 g2 h2 i2 j2 k2 l2 m2 n2 q2->
 RR (sOp (.nilCheck (.const n2)) 0) q2 fun s2 t2=>
 q1 (setD s1 1) t1 u1 v1 w1 x1 y1 z1 A1 B1 C1 D1 E1 F1 G1 H1 I1 J1 K1 L1 M1 N1 O1 P1 Q1 S1 T1 U1 V1 W1 X1 Y1 Z1 a2 b2 c2 d2 e2 f2 g2 h2 i2 j2 k2 l2 s2 n2 t2)/\
 (∀ s1:Nat->Bool,s1 2=false->s1 1=true->∀ t1 u1 v1 w1 x1 y1 z1 A1 B1 C1 D1 E1 F1 G1 H1 I1 J1 K1 L1 M1 N1 O1 P1 Q1 S1 T1 U1 V1 W1 X1 Y1 Z1 a2 b2 c2 d2 e2 f2 g2 h2 i2 j2 k2 l2 m2 n2 u2,q1 s1 t1 u1 v1 w1 x1 y1 z1 A1 B1 C1 D1 E1 F1 G1 H1 I1 J1 K1 L1 M1 N1 O1 P1 Q1 S1 T1 U1 V1 W1 X1 Y1 Z1 a2 b2 c2 d2 e2 f2 g2 h2 i2 j2 k2 l2 m2 n2 u2->
 RR (sOp (.fieldAddr 102 (.const m2) 0) 0) u2 fun v2 w2=>
 q1 (setD s1 2) t1 u1 v1 w1 x1 y1 z1 A1 B1 C1 D1 E1 F1 G1 H1 I1 J1 K1 L1 M1 N1 O1 P1 Q1 S1 T1 U1 V1 W1 X1 Y1 Z1 a2 b2 c2 d2 e2 f2 g2 h2 i2 j2 k2 v2 m2 n2 w2)/\
 (∀ s1:Nat->Bool,s1 3=false->s1 2=true->∀ t1 u1 v1 w1 x1 y1 z1 A1 B1 C1 D1 E1 F1 G1 H1 I1 J1 K1 L1 M1 N1 O1 P1 Q1 S1 T1 U1 V1 W1 X1 Y1 Z1 a2 b2 c2 d2 e2 f2 g2 h2 i2 j2 k2 l2 m2 n2 x2,q1 s1 t1 u1 v1 w1 x1 y1 z1 A1 B1 C1 D1 E1 F1 G1 H1 I1 J1 K1 L1 M1 N1 O1 P1 Q1 S1 T1 U1 V1 W1 X1 Y1 Z1 a2 b2 c2 d2 e2 f2 g2 h2 i2 j2 k2 l2 m2 n2 x2->
 RR (sOp (.load 22 (.const l2)) 22) x2 fun y2 z2=>
 q1 (setD s1 3) t1 u1 v1 w1 x1 y1 z1 A1 B1 C1 D1 E1 F1 G1 H1 I1 J1 K1 L1 M1 N1 O1 P1 Q1 S1 T1 U1 V1 W1 X1 Y1 Z1 a2 b2 c2 d2 e2 f2 g2 h2 i2 j2 y2 l2 m2 n2 z2)/\
 (∀ s1:Nat->Bool,s1 4=false->∀ t1 u1 v1 w1 x1 y1 z1 A1 B1 C1 D1 E1 F1 G1 H1 I1 J1 K1 L1 M1 N1 O1 P1 Q1 S1 T1 U1 V1 W1 X1 Y1 Z1 a2 b2 c2 d2 e2 f2 g2 h2 i2 j2 k2 l2 m2 n2 A2,q1 s1 t1 u1 v1 w1 x1 y1 z1 A1 B1 C1 D1 E1 F1 G1 H1 I1 J1 K1 L1 M1 N1 O1 P1 Q1 S1 T1 U1 V1 W1 X1 Y1 Z1 a2 b2 c2 d2 e2 f2 g2 h2 i2 j2 k2 l2 m2 n2 A2->
 q1 (setD s1 4) t1 u1 v1 w1 x1 y1 z1 A1 B1 C1 D1 E1 F1 G1 H1 I1 J1 K1 L1 M1 N1 O1 P1 Q1 S1 T1 U1 V1 W1 X1 Y1 Z1 a2 b2 c2 d2 e2 f2 g2 h2 i2 O0 k2 l2 m2 n2 A2)/\
 (∀ s1:Nat->Bool,s1 5=false->∀ t1 u1 v1 w1 x1 y1 z1 A1 B1 C1 D1 E1 F1 G1 H1 I1 J1 K1 L1 M1 N1 O1 P1 Q1 S1 T1 U1 V1 W1 X1 Y1 Z1 a2 b2 c2 d2 e2 f2 g2 h2 i2 j2 k2 l2 m2 n2 B2,q1 s1 t1 u1 v1 w1 x1 y1 z1 A1 B1 C1 D1 E1 F1 G1 H1 I1 J1 K1 L1 M1 N1 O1 P1 Q1 S1 T1 U1 V1 W1 X1 Y1 Z1 a2 b2 c2 d2 e2 f2 g2 h2 i2 j2 k2 l2 m2 n2 B2->
 q1 (setD s1 5) t1 u1 v1 w1 x1 y1 z1 A1 B1 C1 D1 E1 F1 G1 H1 I1 J1 K1 L1 M1 N1 O1 P1 Q1 S1 T1 U1 V1 W1 X1 Y1 Z1 a2 b2 c2 d2 e2 f2 g2 h2 p0 j2 k2 l2 m2 n2 B2)/\
 (∀ s1:Nat->Bool,s1 6=false->s1 5=true->∀ t1 u1 v1 w1 x1 y1 z1 A1 B1 C1 D1 E1 F1 G1 H1 I1 J1 K1 L1 M1 N1 O1 P1 Q1 S1 T1 U1 V1 W1 X1 Y1 Z1 a2 b2 c2 d2 e2 f2 g2 h2 i2 j2 k2 l2 m2 n2 C2,q1 s1 t1 u1 v1 w1 x1 y1 z1 A1 B1 C1 D1 E1 F1 G1 H1 I1 J1 K1 L1 M1 N1 O1 P1 Q1 S1 T1 U1 V1 W1 X1 Y1 Z1 a2 b2 c2 d2 e2 f2 g2 h2 i2 j2 k2 l2 m2 n2 C2->
 RR (sOp (.nilCheck (.const i2)) 0) C2 fun D2 E2=>
 q1 (setD s1 6) t1 u1 v1 w1 x1 y1 z1 A1 B1 C1 D1 E1 F1 G1 H1 I1 J1 K1 L1 M1 N1 O1 P1 Q1 S1 T1 U1 V1 W1 X1 Y1 Z1 a2 b2 c2 d2 e2 f2 g2 D2 i2 j2 k2 l2 m2 n2 E2)/\
 (∀ s1:Nat->Bool,s1 7=false->s1 6=true->∀ t1 u1 v1 w1 x1 y1 z1 A1 B1 C1 D1 E1 F1 G1 H1 I1 J1 K1 L1 M1 N1 O1 P1 Q1 S1 T1 U1 V1 W1 X1 Y1 Z1 a2 b2 c2 d2 e2 f2 g2 h2 i2 j2 k2 l2 m2 n2 F2,q1 s1 t1 u1 v1 w1 x1 y1 z1 A1 B1 C1 D1 E1 F1 G1 H1 I1 J1 K1 L1 M1 N1 O1 P1 Q1 S1 T1 U1 V1 W1 X1 Y1 Z1 a2 b2 c2 d2 e2 f2 g2 h2 i2 j2 k2 l2 m2 n2 F2->
 RR (sOp (.fieldAddr 102 (.const h2) 0) 0) F2 fun G2 H2=>
 q1 (setD s1 7) t1 u1 v1 w1 x1 y1 z1 A1 B1 C1 D1 E1 F1 G1 H1 I1 J1 K1 L1 M1 N1 O1 P1 Q1 S1 T1 U1 V1 W1 X1 Y1 Z1 a2 b2 c2 d2 e2 f2 G2 h2 i2 j2 k2 l2 m2 n2 H2)/\
 (∀ s1:Nat->Bool,s1 8=false->s1 7=true->∀ t1 u1 v1 w1 x1 y1 z1 A1 B1 C1 D1 E1 F1 G1 H1 I1 J1 K1 L1 M1 N1 O1 P1 Q1 S1 T1 U1 V1 W1 X1 Y1 Z1 a2 b2 c2 d2 e2 f2 g2 h2 i2 j2 k2 l2 m2 n2 I2,q1 s1 t1 u1 v1 w1 x1 y1 z1 A1 B1 C1 D1 E1 F1 G1 H1 I1 J1 K1 L1 M1 N1 O1 P1 Q1 S1 T1 U1 V1 W1 X1 Y1 Z1 a2 b2 c2 d2 e2 f2 g2 h2 i2 j2 k2 l2 m2 n2 I2->
 RR (sOp (.load 22 (.const g2)) 22) I2 fun J2 K2=>
 q1 (setD s1 8) t1 u1 v1 w1 x1 y1 z1 A1 B1 C1 D1 E1 F1 G1 H1 I1 J1 K1 L1 M1 N1 O1 P1 Q1 S1 T1 U1 V1 W1 X1 Y1 Z1 a2 b2 c2 d2 e2 J2 g2 h2 i2 j2 k2 l2 m2 n2 K2)/\
 (∀ s1:Nat->Bool,s1 9=false->s1 8=true->∀ t1 u1 v1 w1 x1 y1 z1 A1 B1 C1 D1 E1 F1 G1 H1 I1 J1 K1 L1 M1 N1 O1 P1 Q1 S1 T1 U1 V1 W1 X1 Y1 Z1 a2 b2 c2 d2 e2 f2 g2 h2 i2 j2 k2 l2 m2 n2 L2,q1 s1 t1 u1 v1 w1 x1 y1 z1 A1 B1 C1 D1 E1 F1 G1 H1 I1 J1 K1 L1 M1 N1 O1 P1 Q1 S1 T1 U1 V1 W1 X1 Y1 Z1 a2 b2 c2 d2 e2 f2 g2 h2 i2 j2 k2 l2 m2 n2 L2->
 RR (sBuiltin .len #[22] 3 [false] [f2]) L2 fun M2 N2=>
 q1 (setD s1 9) t1 u1 v1 w1 x1 y1 z1 A1 B1 C1 D1 E1 F1 G1 H1 I1 J1 K1 L1 M1 N1 O1 P1 Q1 S1 T1 U1 V1 W1 X1 Y1 Z1 a2 b2 c2 d2 M2 f2 g2 h2 i2 j2 k2 l2 m2 n2 N2)/\
 (∀ s1:Nat->Bool,s1 10=false->s1 4=true->s1 9=true->∀ t1 u1 v1 w1 x1 y1 z1 A1 B1 C1 D1 E1 F1 G1 H1 I1 J1 K1 L1 M1 N1 O1 P1 Q1 S1 T1 U1 V1 W1 X1 Y1 Z1 a2 b2 c2 d2 e2 f2 g2 h2 i2 j2 k2 l2 m2 n2 O2,q1 s1 t1 u1 v1 w1 x1 y1 z1 A1 B1 C1 D1 E1 F1 G1 H1 I1 J1 K1 L1 M1 N1 O1 P1 Q1 S1 T1 U1 V1 W1 X1 Y1 Z1 a2 b2 c2 d2 e2 f2 g2 h2 i2 j2 k2 l2 m2 n2 O2->
 RR (sBin .rem 3 false false j2 e2) O2 fun P2 Q2=>
 q1 (setD s1 10) t1 u1 v1 w1 x1 y1 z1 A1 B1 C1 D1 E1 F1 G1 H1 I1 J1 K1 L1 M1 N1 O1 P1 Q1 S1 T1 U1 V1 W1 X1 Y1 Z1 a2 b2 c2 P2 e2 f2 g2 h2 i2 j2 k2 l2 m2 n2 Q2)/\
 (∀ s1:Nat->Bool,s1 11=false->s1 3=true->s1 10=true->∀ t1 u1 v1 w1 x1 y1 z1 A1 B1 C1 D1 E1 F1 G1 H1 I1 J1 K1 L1 M1 N1 O1 P1 Q1 S1 T1 U1 V1 W1 X1 Y1 Z1 a2 b2 c2 d2 e2 f2 g2 h2 i2 j2 k2 l2 m2 n2 S2,q1 s1 t1 u1 v1 w1 x1 y1 z1 A1 B1 C1 D1 E1 F1 G1 H1 I1 J1 K1 L1 M1 N1 O1 P1 Q1 S1 T1 U1 V1 W1 X1 Y1 Z1 a2 b2 c2 d2 e2 f2 g2 h2 i2 j2 k2 l2 m2 n2 S2->
 RR (sOp (.indexAddr 22 (.const k2) (.const d2)) 0) S2 fun T2 U2=>
 q1 (setD s1 11) t1 u1 v1 w1 x1 y1 z1 A1 B1 C1 D1 E1 F1 G1 H1 I1 J1 K1 L1 M1 N1 O1 P1 Q1 S1 T1 U1 V1 W1 X1 Y1 Z1 a2 b2 T2 d2 e2 f2 g2 h2 i2 j2 k2 l2 m2 n2 U2)/\
 (∀ s1:Nat->Bool,s1 12=false->s1 11=true->∀ t1 u1 v1 w1 x1 y1 z1 A1 B1 C1 D1 E1 F1 G1 H1 I1 J1 K1 L1 M1 N1 O1 P1 Q1 S1 T1 U1 V1 W1 X1 Y1 Z1 a2 b2 c2 d2 e2 f2 g2 h2 i2 j2 k2 l2 m2 n2 V2,q1 s1 t1 u1 v1 w1 x1 y1 z1 A1 B1 C1 D1 E1 F1 G1 H1 I1 J1 K1 L1 M1 N1 O1 P1 Q1 S1 T1 U1 V1 W1 X1 Y1 Z1 a2 b2 c2 d2 e2 f2 g2 h2 i2 j2 k2 l2 m2 n2 V2->
 RR (sOp (.load 5 (.const c2)) 5) V2 fun W2 X2=>
 q1 (setD s1 12) t1 u1 v1 w1 x1 y1 z1 A1 B1 C1 D1 E1 F1 G1 H1 I1 J1 K1 L1 M1 N1 O1 P1 Q1 S1 T1 U1 V1 W1 X1 Y1 Z1 a2 W2 c2 d2 e2 f2 g2 h2 i2 j2 k2 l2 m2 n2 X2)/\
 (∀ s1:Nat->Bool,s1 13=false->s1 12=true->∀ t1 u1 v1 w1 x1 y1 z1 A1 B1 C1 D1 E1 F1 G1 H1 I1 J1 K1 L1 M1 N1 O1 P1 Q1 S1 T1 U1 V1 W1 X1 Y1 Z1 a2 b2 c2 d2 e2 f2 g2 h2 i2 j2 k2 l2 m2 n2 Y2,q1 s1 t1 u1 v1 w1 x1 y1 z1 A1 B1 C1 D1 E1 F1 G1 H1 I1 J1 K1 L1 M1 N1 O1 P1 Q1 S1 T1 U1 V1 W1 X1 Y1 Z1 a2 b2 c2 d2 e2 f2 g2 h2 i2 j2 k2 l2 m2 n2 Y2->
 RR (sOp (.convert 5 3 (.const b2)) 3) Y2 fun Z2 a3=>
 q1 (setD s1 13) t1 u1 v1 w1 x1 y1 z1 A1 B1 C1 D1 E1 F1 G1 H1 I1 J1 K1 L1 M1 N1 O1 P1 Q1 S1 T1 U1 V1 W1 X1 Y1 Z1 Z2 b2 c2 d2 e2 f2 g2 h2 i2 j2 k2 l2 m2 n2 a3)/\
 (∀ s1:Nat->Bool,s1 14=false->s1 13=true->∀ t1 u1 v1 w1 x1 y1 z1 A1 B1 C1 D1 E1 F1 G1 H1 I1 J1 K1 L1 M1 N1 O1 P1 Q1 S1 T1 U1 V1 W1 X1 Y1 Z1 a2 b2 c2 d2 e2 f2 g2 h2 i2 j2 k2 l2 m2 n2 b3,q1 s1 t1 u1 v1 w1 x1 y1 z1 A1 B1 C1 D1 E1 F1 G1 H1 I1 J1 K1 L1 M1 N1 O1 P1 Q1 S1 T1 U1 V1 W1 X1 Y1 Z1 a2 b2 c2 d2 e2 f2 g2 h2 i2 j2 k2 l2 m2 n2 b3->
 RR (sBin .mul 3 false true a2 (Value.int .i64 131)) b3 fun c3 d3=>
 q1 (setD s1 14) t1 u1 v1 w1 x1 y1 z1 A1 B1 C1 D1 E1 F1 G1 H1 I1 J1 K1 L1 M1 N1 O1 P1 Q1 S1 T1 U1 V1 W1 X1 Y1 c3 a2 b2 c2 d2 e2 f2 g2 h2 i2 j2 k2 l2 m2 n2 d3)/\
 (∀ s1:Nat->Bool,s1 15=false->∀ t1 u1 v1 w1 x1 y1 z1 A1 B1 C1 D1 E1 F1 G1 H1 I1 J1 K1 L1 M1 N1 O1 P1 Q1 S1 T1 U1 V1 W1 X1 Y1 Z1 a2 b2 c2 d2 e2 f2 g2 h2 i2 j2 k2 l2 m2 n2 e3,q1 s1 t1 u1 v1 w1 x1 y1 z1 A1 B1 C1 D1 E1 F1 G1 H1 I1 J1 K1 L1 M1 N1 O1 P1 Q1 S1 T1 U1 V1 W1 X1 Y1 Z1 a2 b2 c2 d2 e2 f2 g2 h2 i2 j2 k2 l2 m2 n2 e3->
 q1 (setD s1 15) t1 u1 v1 w1 x1 y1 z1 A1 B1 C1 D1 E1 F1 G1 H1 I1 J1 K1 L1 M1 N1 O1 P1 Q1 S1 T1 U1 V1 W1 X1 p0 Z1 a2 b2 c2 d2 e2 f2 g2 h2 i2 j2 k2 l2 m2 n2 e3)/\
 (∀ s1:Nat->Bool,s1 16=false->s1 15=true->∀ t1 u1 v1 w1 x1 y1 z1 A1 B1 C1 D1 E1 F1 G1 H1 I1 J1 K1 L1 M1 N1 O1 P1 Q1 S1 T1 U1 V1 W1 X1 Y1 Z1 a2 b2 c2 d2 e2 f2 g2 h2 i2 j2 k2 l2 m2 n2 f3,q1 s1 t1 u1 v1 w1 x1 y1 z1 A1 B1 C1 D1 E1 F1 G1 H1 I1 J1 K1 L1 M1 N1 O1 P1 Q1 S1 T1 U1 V1 W1 X1 Y1 Z1 a2 b2 c2 d2 e2 f2 g2 h2 i2 j2 k2 l2 m2 n2 f3->
 RR (sOp (.nilCheck (.const Y1)) 0) f3 fun g3 h3=>
 q1 (setD s1 16) t1 u1 v1 w1 x1 y1 z1 A1 B1 C1 D1 E1 F1 G1 H1 I1 J1 K1 L1 M1 N1 O1 P1 Q1 S1 T1 U1 V1 W1 g3 Y1 Z1 a2 b2 c2 d2 e2 f2 g2 h2 i2 j2 k2 l2 m2 n2 h3)/\
 (∀ s1:Nat->Bool,s1 17=false->s1 16=true->∀ t1 u1 v1 w1 x1 y1 z1 A1 B1 C1 D1 E1 F1 G1 H1 I1 J1 K1 L1 M1 N1 O1 P1 Q1 S1 T1 U1 V1 W1 X1 Y1 Z1 a2 b2 c2 d2 e2 f2 g2 h2 i2 j2 k2 l2 m2 n2 i3,q1 s1 t1 u1 v1 w1 x1 y1 z1 A1 B1 C1 D1 E1 F1 G1 H1 I1 J1 K1 L1 M1 N1 O1 P1 Q1 S1 T1 U1 V1 W1 X1 Y1 Z1 a2 b2 c2 d2 e2 f2 g2 h2 i2 j2 k2 l2 m2 n2 i3->
 RR (sOp (.fieldAddr 102 (.const X1) 0) 0) i3 fun j3 k3=>
 q1 (setD s1 17) t1 u1 v1 w1 x1 y1 z1 A1 B1 C1 D1 E1 F1 G1 H1 I1 J1 K1 L1 M1 N1 O1 P1 Q1 S1 T1 U1 V1 j3 X1 Y1 Z1 a2 b2 c2 d2 e2 f2 g2 h2 i2 j2 k2 l2 m2 n2 k3)/\
 (∀ s1:Nat->Bool,s1 18=false->s1 17=true->∀ t1 u1 v1 w1 x1 y1 z1 A1 B1 C1 D1 E1 F1 G1 H1 I1 J1 K1 L1 M1 N1 O1 P1 Q1 S1 T1 U1 V1 W1 X1 Y1 Z1 a2 b2 c2 d2 e2 f2 g2 h2 i2 j2 k2 l2 m2 n2 l3,q1 s1 t1 u1 v1 w1 x1 y1 z1 A1 B1 C1 D1 E1 F1 G1 H1 I1 J1 K1 L1 M1 N1 O1 P1 Q1 S1 T1 U1 V1 W1 X1 Y1 Z1 a2 b2 c2 d2 e2 f2 g2 h2 i2 j2 k2 l2 m2 n2 l3->
 RR (sOp (.load 22 (.const W1)) 22) l3 fun m3 n3=>
 q1 (setD s1 18) t1 u1 v1 w1 x1 y1 z1 A1 B1 C1 D1 E1 F1 G1 H1 I1 J1 K1 L1 M1 N1 O1 P1 Q1 S1 T1 U1 m3 W1 X1 Y1 Z1 a2 b2 c2 d2 e2 f2 g2 h2 i2 j2 k2 l2 m2 n2 n3)/\
 (∀ s1:Nat->Bool,s1 19=false->∀ t1 u1 v1 w1 x1 y1 z1 A1 B1 C1 D1 E1 F1 G1 H1 I1 J1 K1 L1 M1 N1 O1 P1 Q1 S1 T1 U1 V1 W1 X1 Y1 Z1 a2 b2 c2 d2 e2 f2 g2 h2 i2 j2 k2 l2 m2 n2 o3,q1 s1 t1 u1 v1 w1 x1 y1 z1 A1 B1 C1 D1 E1 F1 G1 H1 I1 J1 K1 L1 M1 N1 O1 P1 Q1 S1 T1 U1 V1 W1 X1 Y1 Z1 a2 b2 c2 d2 e2 f2 g2 h2 i2 j2 k2 l2 m2 n2 o3->
 q1 (setD s1 19) t1 u1 v1 w1 x1 y1 z1 A1 B1 C1 D1 E1 F1 G1 H1 I1 J1 K1 L1 M1 N1 O1 P1 Q1 S1 T1 O0 V1 W1 X1 Y1 Z1 a2 b2 c2 d2 e2 f2 g2 h2 i2 j2 k2 l2 m2 n2 o3)/\
 (∀ s1:Nat->Bool,s1 20=false->s1 19=true->∀ t1 u1 v1 w1 x1 y1 z1 A1 B1 C1 D1 E1 F1 G1 H1 I1 J1 K1 L1 M1 N1 O1 P1 Q1 S1 T1 U1 V1 W1 X1 Y1 Z1 a2 b2 c2 d2 e2 f2 g2 h2 i2 j2 k2 l2 m2 n2 q3,q1 s1 t1 u1 v1 w1 x1 y1 z1 A1 B1 C1 D1 E1 F1 G1 H1 I1 J1 K1 L1 M1 N1 O1 P1 Q1 S1 T1 U1 V1 W1 X1 Y1 Z1 a2 b2 c2 d2 e2 f2 g2 h2 i2 j2 k2 l2 m2 n2 q3->
 RR (sBin .mul 3 false true U1 (Value.int .i64 7)) q3 fun s3 t3=>
 q1 (setD s1 20) t1 u1 v1 w1 x1 y1 z1 A1 B1 C1 D1 E1 F1 G1 H1 I1 J1 K1 L1 M1 N1 O1 P1 Q1 S1 s3 U1 V1 W1 X1 Y1 Z1 a2 b2 c2 d2 e2 f2 g2 h2 i2 j2 k2 l2 m2 n2 t3)/\
 (∀ s1:Nat->Bool,s1 21=false->s1 20=true->∀ t1 u1 v1 w1 x1 y1 z1 A1 B1 C1 D1 E1 F1 G1 H1 I1 J1 K1 L1 M1 N1 O1 P1 Q1 S1 T1 U1 V1 W1 X1 Y1 Z1 a2 b2 c2 d2 e2 f2 g2 h2 i2 j2 k2 l2 m2 n2 u3,q1 s1 t1 u1 v1 w1 x1 y1 z1 A1 B1 C1 D1 E1 F1 G1 H1 I1 J1 K1 L1 M1 N1 O1 P1 Q1 S1 T1 U1 V1 W1 X1 Y1 Z1 a2 b2 c2 d2 e2 f2 g2 h2 i2 j2 k2 l2 m2 n2 u3->
 RR (sBin .add 3 false true T1 (Value.int .i64 3)) u3 fun v3 w3=>
 q1 (setD s1 21) t1 u1 v1 w1 x1 y1 z1 A1 B1 C1 D1 E1 F1 G1 H1 I1 J1 K1 L1 M1 N1 O1 P1 Q1 v3 T1 U1 V1 W1 X1 Y1 Z1 a2 b2 c2 d2 e2 f2 g2 h2 i2 j2 k2 l2 m2 n2 w3)/\
 (∀ s1:Nat->Bool,s1 22=false->∀ t1 u1 v1 w1 x1 y1 z1 A1 B1 C1 D1 E1 F1 G1 H1 I1 J1 K1 L1 M1 N1 O1 P1 Q1 S1 T1 U1 V1 W1 X1 Y1 Z1 a2 b2 c2 d2 e2 f2 g2 h2 i2 j2 k2 l2 m2 n2 x3,q1 s1 t1 u1 v1 w1 x1 y1 z1 A1 B1 C1 D1 E1 F1 G1 H1 I1 J1 K1 L1 M1 N1 O1 P1 Q1 S1 T1 U1 V1 W1 X1 Y1 Z1 a2 b2 c2 d2 e2 f2 g2 h2 i2 j2 k2 l2 m2 n2 x3->
 q1 (setD s1 22) t1 u1 v1 w1 x1 y1 z1 A1 B1 C1 D1 E1 F1 G1 H1 I1 J1 K1 L1 M1 N1 O1 P1 p0 S1 T1 U1 V1 W1 X1 Y1 Z1 a2 b2 c2 d2 e2 f2 g2 h2 i2 j2 k2 l2 m2 n2 x3)/\
 (∀ s1:Nat->Bool,s1 23=false->s1 22=true->∀ t1 u1 v1 w1 x1 y1 z1 A1 B1 C1 D1 E1 F1 G1 H1 I1 J1 K1 L1 M1 N1 O1 P1 Q1 S1 T1 U1 V1 W1 X1 Y1 Z1 a2 b2 c2 d2 e2 f2 g2 h2 i2 j2 k2 l2 m2 n2 y3,q1 s1 t1 u1 v1 w1 x1 y1 z1 A1 B1 C1 D1 E1 F1 G1 H1 I1 J1 K1 L1 M1 N1 O1 P1 Q1 S1 T1 U1 V1 W1 X1 Y1 Z1 a2 b2 c2 d2 e2 f2 g2 h2 i2 j2 k2 l2 m2 n2 y3->
 RR (sOp (.nilCheck (.const Q1)) 0) y3 fun z3 A3=>
 q1 (setD s1 23) t1 u1 v1 w1 x1 y1 z1 A1 B1 C1 D1 E1 F1 G1 H1 I1 J1 K1 L1 M1 N1 O1 z3 Q1 S1 T1 U1 V1 W1 X1 Y1 Z1 a2 b2 c2 d2 e2 f2 g2 h2 i2 j2 k2 l2 m2 n2 A3)/\
 (∀ s1:Nat->Bool,s1 24=false->s1 23=true->∀ t1 u1 v1 w1 x1 y1 z1 A1 B1 C1 D1 E1 F1 G1 H1 I1 J1 K1 L1 M1 N1 O1 P1 Q1 S1 T1 U1 V1 W1 X1 Y1 Z1 a2 b2 c2 d2 e2 f2 g2 h2 i2 j2 k2 l2 m2 n2 B3,q1 s1 t1 u1 v1 w1 x1 y1 z1 A1 B1 C1 D1 E1 F1 G1 H1 I1 J1 K1 L1 M1 N1 O1 P1 Q1 S1 T1 U1 V1 W1 X1 Y1 Z1 a2 b2 c2 d2 e2 f2 g2 h2 i2 j2 k2 l2 m2 n2 B3->
 RR (sOp (.fieldAddr 102 (.const P1) 0) 0) B3 fun C3 D3=>
 q1 (setD s1 24) t1 u1 v1 w1 x1 y1 z1 A1 B1 C1 D1 E1 F1 G1 H1 I1 J1 K1 L1 M1 N1 C3 P1 Q1 S1 T1 U1 V1 W1 X1 Y1 Z1 a2 b2 c2 d2 e2 f2 g2 h2 i2 j2 k2 l2 m2 n2 D3)/\
 (∀ s1:Nat->Bool,s1 25=false->s1 24=true->∀ t1 u1 v1 w1 x1 y1 z1 A1 B1 C1 D1 E1 F1 G1 H1 I1 J1 K1 L1 M1 N1 O1 P1 Q1 S1 T1 U1 V1 W1 X1 Y1 Z1 a2 b2 c2 d2 e2 f2 g2 h2 i2 j2 k2 l2 m2 n2 E3,q1 s1 t1 u1 v1 w1 x1 y1 z1 A1 B1 C1 D1 E1 F1 G1 H1 I1 J1 K1 L1 M1 N1 O1 P1 Q1 S1 T1 U1 V1 W1 X1 Y1 Z1 a2 b2 c2 d2 e2 f2 g2 h2 i2 j2 k2 l2 m2 n2 E3->
 RR (sOp (.load 22 (.const O1)) 22) E3 fun F3 G3=>
 q1 (setD s1 25) t1 u1 v1 w1 x1 y1 z1 A1 B1 C1 D1 E1 F1 G1 H1 I1 J1 K1 L1 M1 F3 O1 P1 Q1 S1 T1 U1 V1 W1 X1 Y1 Z1 a2 b2 c2 d2 e2 f2 g2 h2 i2 j2 k2 l2 m2 n2 G3)/\
 (∀ s1:Nat->Bool,s1 26=false->s1 25=true->∀ t1 u1 v1 w1 x1 y1 z1 A1 B1 C1 D1 E1 F1 G1 H1 I1 J1 K1 L1 M1 N1 O1 P1 Q1 S1 T1 U1 V1 W1 X1 Y1 Z1 a2 b2 c2 d2 e2 f2 g2 h2 i2 j2 k2 l2 m2 n2 H3,q1 s1 t1 u1 v1 w1 x1 y1 z1 A1 B1 C1 D1 E1 F1 G1 H1 I1 J1 K1 L1 M1 N1 O1 P1 Q1 S1 T1 U1 V1 W1 X1 Y1 Z1 a2 b2 c2 d2 e2 f2 g2 h2 i2 j2 k2 l2 m2 n2 H3->
 RR (sBuiltin .len #[22] 3 [false] [N1]) H3 fun I3 J3=>
 q1 (setD s1 26) t1 u1 v1 w1 x1 y1 z1 A1 B1 C1 D1 E1 F1 G1 H1 I1 J1 K1 L1 I3 N1 O1 P1 Q1 S1 T1 U1 V1 W1 X1 Y1 Z1 a2 b2 c2 d2 e2 f2 g2 h2 i2 j2 k2 l2 m2 n2 J3)/\
 (∀ s1:Nat->Bool,s1 27=false->s1 21=true->s1 26=true->∀ t1 u1 v1 w1 x1 y1 z1 A1 B1 C1 D1 E1 F1 G1 H1 I1 J1 K1 L1 M1 N1 O1 P1 Q1 S1 T1 U1 V1 W1 X1 Y1 Z1 a2 b2 c2 d2 e2 f2 g2 h2 i2 j2 k2 l2 m2 n2 K3,q1 s1 t1 u1 v1 w1 x1 y1 z1 A1 B1 C1 D1 E1 F1 G1 H1 I1 J1 K1 L1 M1 N1 O1 P1 Q1 S1 T1 U1 V1 W1 X1 Y1 Z1 a2 b2 c2 d2 e2 f2 g2 h2 i2 j2 k2 l2 m2 n2 K3->
 RR (sBin .rem 3 false false S1 M1) K3 fun L3 M3=>
 q1 (setD s1 27) t1 u1 v1 w1 x1 y1 z1 A1 B1 C1 D1 E1 F1 G1 H1 I1 J1 K1 L3 M1 N1 O1 P1 Q1 S1 T1 U1 V1 W1 X1 Y1 Z1 a2 b2 c2 d2 e2 f2 g2 h2 i2 j2 k2 l2 m2 n2 M3)/\
 (∀ s1:Nat->Bool,s1 28=false->s1 18=true->s1 27=true->∀ t1 u1 v1 w1 x1 y1 z1 A1 B1 C1 D1 E1 F1 G1 H1 I1 J1 K1 L1 M1 N1 O1 P1 Q1 S1 T1 U1 V1 W1 X1 Y1 Z1 a2 b2 c2 d2 e2 f2 g2 h2 i2 j2 k2 l2 m2 n2 N3,q1 s1 t1 u1 v1 w1 x1 y1 z1 A1 B1 C1 D1 E1 F1 G1 H1 I1 J1 K1 L1 M1 N1 O1 P1 Q1 S1 T1 U1 V1 W1 X1 Y1 Z1 a2 b2 c2 d2 e2 f2 g2 h2 i2 j2 k2 l2 m2 n2 N3->
 RR (sOp (.indexAddr 22 (.const V1) (.const L1)) 0) N3 fun O3 P3=>
 q1 (setD s1 28) t1 u1 v1 w1 x1 y1 z1 A1 B1 C1 D1 E1 F1 G1 H1 I1 J1 O3 L1 M1 N1 O1 P1 Q1 S1 T1 U1 V1 W1 X1 Y1 Z1 a2 b2 c2 d2 e2 f2 g2 h2 i2 j2 k2 l2 m2 n2 P3)/\
 (∀ s1:Nat->Bool,s1 29=false->s1 28=true->∀ t1 u1 v1 w1 x1 y1 z1 A1 B1 C1 D1 E1 F1 G1 H1 I1 J1 K1 L1 M1 N1 O1 P1 Q1 S1 T1 U1 V1 W1 X1 Y1 Z1 a2 b2 c2 d2 e2 f2 g2 h2 i2 j2 k2 l2 m2 n2 Q3,q1 s1 t1 u1 v1 w1 x1 y1 z1 A1 B1 C1 D1 E1 F1 G1 H1 I1 J1 K1 L1 M1 N1 O1 P1 Q1 S1 T1 U1 V1 W1 X1 Y1 Z1 a2 b2 c2 d2 e2 f2 g2 h2 i2 j2 k2 l2 m2 n2 Q3->
 RR (sOp (.load 5 (.const K1)) 5) Q3 fun S3 T3=>
 q1 (setD s1 29) t1 u1 v1 w1 x1 y1 z1 A1 B1 C1 D1 E1 F1 G1 H1 I1 S3 K1 L1 M1 N1 O1 P1 Q1 S1 T1 U1 V1 W1 X1 Y1 Z1 a2 b2 c2 d2 e2 f2 g2 h2 i2 j2 k2 l2 m2 n2 T3)/\
 (∀ s1:Nat->Bool,s1 30=false->s1 29=true->∀ t1 u1 v1 w1 x1 y1 z1 A1 B1 C1 D1 E1 F1 G1 H1 I1 J1 K1 L1 M1 N1 O1 P1 Q1 S1 T1 U1 V1 W1 X1 Y1 Z1 a2 b2 c2 d2 e2 f2 g2 h2 i2 j2 k2 l2 m2 n2 U3,q1 s1 t1 u1 v1 w1 x1 y1 z1 A1 B1 C1 D1 E1 F1 G1 H1 I1 J1 K1 L1 M1 N1 O1 P1 Q1 S1 T1 U1 V1 W1 X1 Y1 Z1 a2 b2 c2 d2 e2 f2 g2 h2 i2 j2 k2 l2 m2 n2 U3->
 RR (sOp (.convert 5 3 (.const J1)) 3) U3 fun V3 W3=>
 q1 (setD s1 30) t1 u1 v1 w1 x1 y1 z1 A1 B1 C1 D1 E1 F1 G1 H1 V3 J1 K1 L1 M1 N1 O1 P1 Q1 S1 T1 U1 V1 W1 X1 Y1 Z1 a2 b2 c2 d2 e2 f2 g2 h2 i2 j2 k2 l2 m2 n2 W3)/\
 (∀ s1:Nat->Bool,s1 31=false->s1 30=true->∀ t1 u1 v1 w1 x1 y1 z1 A1 B1 C1 D1 E1 F1 G1 H1 I1 J1 K1 L1 M1 N1 O1 P1 Q1 S1 T1 U1 V1 W1 X1 Y1 Z1 a2 b2 c2 d2 e2 f2 g2 h2 i2 j2 k2 l2 m2 n2 X3,q1 s1 t1 u1 v1 w1 x1 y1 z1 A1 B1 C1 D1 E1 F1 G1 H1 I1 J1 K1 L1 M1 N1 O1 P1 Q1 S1 T1 U1 V1 W1 X1 Y1 Z1 a2 b2 c2 d2 e2 f2 g2 h2 i2 j2 k2 l2 m2 n2 X3->
 RR (sBin .mul 3 false true I1 (Value.int .i64 1117)) X3 fun Y3 Z3=>
 q1 (setD s1 31) t1 u1 v1 w1 x1 y1 z1 A1 B1 C1 D1 E1 F1 G1 Y3 I1 J1 K1 L1 M1 N1 O1 P1 Q1 S1 T1 U1 V1 W1 X1 Y1 Z1 a2 b2 c2 d2 e2 f2 g2 h2 i2 j2 k2 l2 m2 n2 Z3)/\
 (∀ s1:Nat->Bool,s1 32=false->s1 14=true->s1 31=true->∀ t1 u1 v1 w1 x1 y1 z1 A1 B1 C1 D1 E1 F1 G1 H1 I1 J1 K1 L1 M1 N1 O1 P1 Q1 S1 T1 U1 V1 W1 X1 Y1 Z1 a2 b2 c2 d2 e2 f2 g2 h2 i2 j2 k2 l2 m2 n2 a4,q1 s1 t1 u1 v1 w1 x1 y1 z1 A1 B1 C1 D1 E1 F1 G1 H1 I1 J1 K1 L1 M1 N1 O1 P1 Q1 S1 T1 U1 V1 W1 X1 Y1 Z1 a2 b2 c2 d2 e2 f2 g2 h2 i2 j2 k2 l2 m2 n2 a4->
 RR (sBin .add 3 false false Z1 H1) a4 fun b4 c4=>
 q1 (setD s1 32) t1 u1 v1 w1 x1 y1 z1 A1 B1 C1 D1 E1 F1 b4 H1 I1 J1 K1 L1 M1 N1 O1 P1 Q1 S1 T1 U1 V1 W1 X1 Y1 Z1 a2 b2 c2 d2 e2 f2 g2 h2 i2 j2 k2 l2 m2 n2 c4)/\
 (∀ s1:Nat->Bool,s1 33=false->∀ t1 u1 v1 w1 x1 y1 z1 A1 B1 C1 D1 E1 F1 G1 H1 I1 J1 K1 L1 M1 N1 O1 P1 Q1 S1 T1 U1 V1 W1 X1 Y1 Z1 a2 b2 c2 d2 e2 f2 g2 h2 i2 j2 k2 l2 m2 n2 d4,q1 s1 t1 u1 v1 w1 x1 y1 z1 A1 B1 C1 D1 E1 F1 G1 H1 I1 J1 K1 L1 M1 N1 O1 P1 Q1 S1 T1 U1 V1 W1 X1 Y1 Z1 a2 b2 c2 d2 e2 f2 g2 h2 i2 j2 k2 l2 m2 n2 d4->
 q1 (setD s1 33) t1 u1 v1 w1 x1 y1 z1 A1 B1 C1 D1 E1 O0 G1 H1 I1 J1 K1 L1 M1 N1 O1 P1 Q1 S1 T1 U1 V1 W1 X1 Y1 Z1 a2 b2 c2 d2 e2 f2 g2 h2 i2 j2 k2 l2 m2 n2 d4)/\
 (∀ s1:Nat->Bool,s1 34=false->s1 33=true->∀ t1 u1 v1 w1 x1 y1 z1 A1 B1 C1 D1 E1 F1 G1 H1 I1 J1 K1 L1 M1 N1 O1 P1 Q1 S1 T1 U1 V1 W1 X1 Y1 Z1 a2 b2 c2 d2 e2 f2 g2 h2 i2 j2 k2 l2 m2 n2 e4,q1 s1 t1 u1 v1 w1 x1 y1 z1 A1 B1 C1 D1 E1 F1 G1 H1 I1 J1 K1 L1 M1 N1 O1 P1 Q1 S1 T1 U1 V1 W1 X1 Y1 Z1 a2 b2 c2 d2 e2 f2 g2 h2 i2 j2 k2 l2 m2 n2 e4->
 RR (sBin .mul 3 false true F1 (Value.int .i64 29)) e4 fun f4 g4=>
 q1 (setD s1 34) t1 u1 v1 w1 x1 y1 z1 A1 B1 C1 D1 f4 F1 G1 H1 I1 J1 K1 L1 M1 N1 O1 P1 Q1 S1 T1 U1 V1 W1 X1 Y1 Z1 a2 b2 c2 d2 e2 f2 g2 h2 i2 j2 k2 l2 m2 n2 g4)/\
 (∀ s1:Nat->Bool,s1 35=false->s1 32=true->s1 34=true->∀ t1 u1 v1 w1 x1 y1 z1 A1 B1 C1 D1 E1 F1 G1 H1 I1 J1 K1 L1 M1 N1 O1 P1 Q1 S1 T1 U1 V1 W1 X1 Y1 Z1 a2 b2 c2 d2 e2 f2 g2 h2 i2 j2 k2 l2 m2 n2 h4,q1 s1 t1 u1 v1 w1 x1 y1 z1 A1 B1 C1 D1 E1 F1 G1 H1 I1 J1 K1 L1 M1 N1 O1 P1 Q1 S1 T1 U1 V1 W1 X1 Y1 Z1 a2 b2 c2 d2 e2 f2 g2 h2 i2 j2 k2 l2 m2 n2 h4->
 RR (sBin .add 3 false false G1 E1) h4 fun i4 j4=>
 q1 (setD s1 35) t1 u1 v1 w1 x1 y1 z1 A1 B1 C1 i4 E1 F1 G1 H1 I1 J1 K1 L1 M1 N1 O1 P1 Q1 S1 T1 U1 V1 W1 X1 Y1 Z1 a2 b2 c2 d2 e2 f2 g2 h2 i2 j2 k2 l2 m2 n2 j4)/\
 (∀ s1:Nat->Bool,s1 36=false->∀ t1 u1 v1 w1 x1 y1 z1 A1 B1 C1 D1 E1 F1 G1 H1 I1 J1 K1 L1 M1 N1 O1 P1 Q1 S1 T1 U1 V1 W1 X1 Y1 Z1 a2 b2 c2 d2 e2 f2 g2 h2 i2 j2 k2 l2 m2 n2 k4,q1 s1 t1 u1 v1 w1 x1 y1 z1 A1 B1 C1 D1 E1 F1 G1 H1 I1 J1 K1 L1 M1 N1 O1 P1 Q1 S1 T1 U1 V1 W1 X1 Y1 Z1 a2 b2 c2 d2 e2 f2 g2 h2 i2 j2 k2 l2 m2 n2 k4->
 q1 (setD s1 36) t1 u1 v1 w1 x1 y1 z1 A1 B1 O0 D1 E1 F1 G1 H1 I1 J1 K1 L1 M1 N1 O1 P1 Q1 S1 T1 U1 V1 W1 X1 Y1 Z1 a2 b2 c2 d2 e2 f2 g2 h2 i2 j2 k2 l2 m2 n2 k4)/\
 (∀ s1:Nat->Bool,s1 37=false->∀ t1 u1 v1 w1 x1 y1 z1 A1 B1 C1 D1 E1 F1 G1 H1 I1 J1 K1 L1 M1 N1 O1 P1 Q1 S1 T1 U1 V1 W1 X1 Y1 Z1 a2 b2 c2 d2 e2 f2 g2 h2 i2 j2 k2 l2 m2 n2 l4,q1 s1 t1 u1 v1 w1 x1 y1 z1 A1 B1 C1 D1 E1 F1 G1 H1 I1 J1 K1 L1 M1 N1 O1 P1 Q1 S1 T1 U1 V1 W1 X1 Y1 Z1 a2 b2 c2 d2 e2 f2 g2 h2 i2 j2 k2 l2 m2 n2 l4->
 q1 (setD s1 37) t1 u1 v1 w1 x1 y1 z1 A1 p0 C1 D1 E1 F1 G1 H1 I1 J1 K1 L1 M1 N1 O1 P1 Q1 S1 T1 U1 V1 W1 X1 Y1 Z1 a2 b2 c2 d2 e2 f2 g2 h2 i2 j2 k2 l2 m2 n2 l4)/\
 (∀ s1:Nat->Bool,s1 38=false->s1 37=true->∀ t1 u1 v1 w1 x1 y1 z1 A1 B1 C1 D1 E1 F1 G1 H1 I1 J1 K1 L1 M1 N1 O1 P1 Q1 S1 T1 U1 V1 W1 X1 Y1 Z1 a2 b2 c2 d2 e2 f2 g2 h2 i2 j2 k2 l2 m2 n2 m4,q1 s1 t1 u1 v1 w1 x1 y1 z1 A1 B1 C1 D1 E1 F1 G1 H1 I1 J1 K1 L1 M1 N1 O1 P1 Q1 S1 T1 U1 V1 W1 X1 Y1 Z1 a2 b2 c2 d2 e2 f2 g2 h2 i2 j2 k2 l2 m2 n2 m4->
 RR (sOp (.nilCheck (.const B1)) 0) m4 fun n4 o4=>
 q1 (setD s1 38) t1 u1 v1 w1 x1 y1 z1 n4 B1 C1 D1 E1 F1 G1 H1 I1 J1 K1 L1 M1 N1 O1 P1 Q1 S1 T1 U1 V1 W1 X1 Y1 Z1 a2 b2 c2 d2 e2 f2 g2 h2 i2 j2 k2 l2 m2 n2 o4)/\
 (∀ s1:Nat->Bool,s1 39=false->s1 38=true->∀ t1 u1 v1 w1 x1 y1 z1 A1 B1 C1 D1 E1 F1 G1 H1 I1 J1 K1 L1 M1 N1 O1 P1 Q1 S1 T1 U1 V1 W1 X1 Y1 Z1 a2 b2 c2 d2 e2 f2 g2 h2 i2 j2 k2 l2 m2 n2 q4,q1 s1 t1 u1 v1 w1 x1 y1 z1 A1 B1 C1 D1 E1 F1 G1 H1 I1 J1 K1 L1 M1 N1 O1 P1 Q1 S1 T1 U1 V1 W1 X1 Y1 Z1 a2 b2 c2 d2 e2 f2 g2 h2 i2 j2 k2 l2 m2 n2 q4->
 RR (sOp (.fieldAddr 102 (.const A1) 0) 0) q4 fun s4 t4=>
 q1 (setD s1 39) t1 u1 v1 w1 x1 y1 s4 A1 B1 C1 D1 E1 F1 G1 H1 I1 J1 K1 L1 M1 N1 O1 P1 Q1 S1 T1 U1 V1 W1 X1 Y1 Z1 a2 b2 c2 d2 e2 f2 g2 h2 i2 j2 k2 l2 m2 n2 t4)/\
 (∀ s1:Nat->Bool,s1 40=false->s1 39=true->∀ t1 u1 v1 w1 x1 y1 z1 A1 B1 C1 D1 E1 F1 G1 H1 I1 J1 K1 L1 M1 N1 O1 P1 Q1 S1 T1 U1 V1 W1 X1 Y1 Z1 a2 b2 c2 d2 e2 f2 g2 h2 i2 j2 k2 l2 m2 n2 u4,q1 s1 t1 u1 v1 w1 x1 y1 z1 A1 B1 C1 D1 E1 F1 G1 H1 I1 J1 K1 L1 M1 N1 O1 P1 Q1 S1 T1 U1 V1 W1 X1 Y1 Z1 a2 b2 c2 d2 e2 f2 g2 h2 i2 j2 k2 l2 m2 n2 u4->
 RR (sOp (.load 22 (.const z1)) 22) u4 fun v4 w4=>
 q1 (setD s1 40) t1 u1 v1 w1 x1 v4 z1 A1 B1 C1 D1 E1 F1 G1 H1 I1 J1 K1 L1 M1 N1 O1 P1 Q1 S1 T1 U1 V1 W1 X1 Y1 Z1 a2 b2 c2 d2 e2 f2 g2 h2 i2 j2 k2 l2 m2 n2 w4)/\
 (∀ s1:Nat->Bool,s1 41=false->s1 40=true->∀ t1 u1 v1 w1 x1 y1 z1 A1 B1 C1 D1 E1 F1 G1 H1 I1 J1 K1 L1 M1 N1 O1 P1 Q1 S1 T1 U1 V1 W1 X1 Y1 Z1 a2 b2 c2 d2 e2 f2 g2 h2 i2 j2 k2 l2 m2 n2 x4,q1 s1 t1 u1 v1 w1 x1 y1 z1 A1 B1 C1 D1 E1 F1 G1 H1 I1 J1 K1 L1 M1 N1 O1 P1 Q1 S1 T1 U1 V1 W1 X1 Y1 Z1 a2 b2 c2 d2 e2 f2 g2 h2 i2 j2 k2 l2 m2 n2 x4->
 RR (sBuiltin .len #[22] 3 [false] [y1]) x4 fun y4 z4=>
 q1 (setD s1 41) t1 u1 v1 w1 y4 y1 z1 A1 B1 C1 D1 E1 F1 G1 H1 I1 J1 K1 L1 M1 N1 O1 P1 Q1 S1 T1 U1 V1 W1 X1 Y1 Z1 a2 b2 c2 d2 e2 f2 g2 h2 i2 j2 k2 l2 m2 n2 z4)/\
 (∀ s1:Nat->Bool,s1 42=false->s1 36=true->s1 41=true->∀ t1 u1 v1 w1 x1 y1 z1 A1 B1 C1 D1 E1 F1 G1 H1 I1 J1 K1 L1 M1 N1 O1 P1 Q1 S1 T1 U1 V1 W1 X1 Y1 Z1 a2 b2 c2 d2 e2 f2 g2 h2 i2 j2 k2 l2 m2 n2 A4,q1 s1 t1 u1 v1 w1 x1 y1 z1 A1 B1 C1 D1 E1 F1 G1 H1 I1 J1 K1 L1 M1 N1 O1 P1 Q1 S1 T1 U1 V1 W1 X1 Y1 Z1 a2 b2 c2 d2 e2 f2 g2 h2 i2 j2 k2 l2 m2 n2 A4->
 RR (sBin .quo 3 false false C1 x1) A4 fun B4 C4=>
 q1 (setD s1 42) t1 u1 v1 B4 x1 y1 z1 A1 B1 C1 D1 E1 F1 G1 H1 I1 J1 K1 L1 M1 N1 O1 P1 Q1 S1 T1 U1 V1 W1 X1 Y1 Z1 a2 b2 c2 d2 e2 f2 g2 h2 i2 j2 k2 l2 m2 n2 C4)/\
 (∀ s1:Nat->Bool,s1 43=false->s1 42=true->∀ t1 u1 v1 w1 x1 y1 z1 A1 B1 C1 D1 E1 F1 G1 H1 I1 J1 K1 L1 M1 N1 O1 P1 Q1 S1 T1 U1 V1 W1 X1 Y1 Z1 a2 b2 c2 d2 e2 f2 g2 h2 i2 j2 k2 l2 m2 n2 D4,q1 s1 t1 u1 v1 w1 x1 y1 z1 A1 B1 C1 D1 E1 F1 G1 H1 I1 J1 K1 L1 M1 N1 O1 P1 Q1 S1 T1 U1 V1 W1 X1 Y1 Z1 a2 b2 c2 d2 e2 f2 g2 h2 i2 j2 k2 l2 m2 n2 D4->
 RR (sBin .mul 3 false true w1 (Value.int .i64 53)) D4 fun E4 F4=>
 q1 (setD s1 43) t1 u1 E4 w1 x1 y1 z1 A1 B1 C1 D1 E1 F1 G1 H1 I1 J1 K1 L1 M1 N1 O1 P1 Q1 S1 T1 U1 V1 W1 X1 Y1 Z1 a2 b2 c2 d2 e2 f2 g2 h2 i2 j2 k2 l2 m2 n2 F4)/\
 (∀ s1:Nat->Bool,s1 44=false->s1 35=true->s1 43=true->∀ t1 u1 v1 w1 x1 y1 z1 A1 B1 C1 D1 E1 F1 G1 H1 I1 J1 K1 L1 M1 N1 O1 P1 Q1 S1 T1 U1 V1 W1 X1 Y1 Z1 a2 b2 c2 d2 e2 f2 g2 h2 i2 j2 k2 l2 m2 n2 G4,q1 s1 t1 u1 v1 w1 x1 y1 z1 A1 B1 C1 D1 E1 F1 G1 H1 I1 J1 K1 L1 M1 N1 O1 P1 Q1 S1 T1 U1 V1 W1 X1 Y1 Z1 a2 b2 c2 d2 e2 f2 g2 h2 i2 j2 k2 l2 m2 n2 G4->
 RR (sBin .add 3 false false D1 v1) G4 fun H4 I4=>
 q1 (setD s1 44) t1 H4 v1 w1 x1 y1 z1 A1 B1 C1 D1 E1 F1 G1 H1 I1 J1 K1 L1 M1 N1 O1 P1 Q1 S1 T1 U1 V1 W1 X1 Y1 Z1 a2 b2 c2 d2 e2 f2 g2 h2 i2 j2 k2 l2 m2 n2 I4)/\
 (∀ s1:Nat->Bool,s1 45=false->s1 44=true->s1 0=true->s1 1=true->s1 2=true->s1 3=true->s1 4=true->s1 5=true->s1 6=true->s1 7=true->s1 8=true->s1 9=true->s1 10=true->s1 11=true->s1 12=true->s1 13=true->s1 14=true->s1 15=true->s1 16=true->s1 17=true->s1 18=true->s1 19=true->s1 20=true->s1 21=true->s1 22=true->s1 23=true->s1 24=true->s1 25=true->s1 26=true->s1 27=true->s1 28=true->s1 29=true->s1 30=true->s1 31=true->s1 32=true->s1 33=true->s1 34=true->s1 35=true->s1 36=true->s1 37=true->s1 38=true->s1 39=true->s1 40=true->s1 41=true->s1 42=true->s1 43=true->s1 44=true->∀ t1 u1 v1 w1 x1 y1 z1 A1 B1 C1 D1 E1 F1 G1 H1 I1 J1 K1 L1 M1 N1 O1 P1 Q1 S1 T1 U1 V1 W1 X1 Y1 Z1 a2 b2 c2 d2 e2 f2 g2 h2 i2 j2 k2 l2 m2 n2 J4,q1 s1 t1 u1 v1 w1 x1 y1 z1 A1 B1 C1 D1 E1 F1 G1 H1 I1 J1 K1 L1 M1 N1 O1 P1 Q1 S1 T1 U1 V1 W1 X1 Y1 Z1 a2 b2 c2 d2 e2 f2 g2 h2 i2 j2 k2 l2 m2 n2 J4->
 q1 (setD s1 45) u1 u1 v1 w1 x1 y1 z1 A1 B1 C1 D1 E1 F1 G1 H1 I1 J1 K1 L1 M1 N1 O1 P1 Q1 S1 T1 U1 V1 W1 X1 Y1 Z1 a2 b2 c2 d2 e2 f2 g2 h2 i2 j2 k2 l2 m2 n2 J4)/\
 True)/\
 ∀ s1:Nat->Bool,s1 45=true->s1 44=true->s1 43=true->s1 42=true->s1 41=true->s1 40=true->s1 39=true->s1 38=true->s1 37=true->s1 36=true->s1 35=true->s1 34=true->s1 33=true->s1 32=true->s1 31=true->s1 30=true->s1 29=true->s1 28=true->s1 27=true->s1 26=true->s1 25=true->s1 24=true->s1 23=true->s1 22=true->s1 21=true->s1 20=true->s1 19=true->s1 18=true->s1 17=true->s1 16=true->s1 15=true->s1 14=true->s1 13=true->s1 12=true->s1 11=true->s1 10=true->s1 9=true->s1 8=true->s1 7=true->s1 6=true->s1 5=true->s1 4=true->s1 3=true->s1 2=true->s1 1=true->s1 0=true->∀ t1 u1 v1 w1 x1 y1 z1 A1 B1 C1 D1 E1 F1 G1 H1 I1 J1 K1 L1 M1 N1 O1 P1 Q1 S1 T1 U1 V1 W1 X1 Y1 Z1 a2 b2 c2 d2 e2 f2 g2 h2 i2 j2 k2 l2 m2 n2 K4,q1 s1 t1 u1 v1 w1 x1 y1 z1 A1 B1 C1 D1 E1 F1 G1 H1 I1 J1 K1 L1 M1 N1 O1 P1 Q1 S1 T1 U1 V1 W1 X1 Y1 Z1 a2 b2 c2 d2 e2 f2 g2 h2 i2 j2 k2 l2 m2 n2 K4->
 RR (sBin .quo 3 false true t1 (Value.int .i64 64)) K4 fun L4 M4=>
 RR (sBin .xor 3 false false t1 L4) M4 fun N4 O4=>
 RR (sBin .rem 3 false false N4 p1) O4 fun P4 Q4=>
 R (.returned P4) Q4))))
theorem lY {p0 p1:Value} {w:World} {R:Ending->World->Prop} (h:gX p0 p1 w R):Calls Tryz.prog 61 #[p0,p1] w R:=
  calls_sh (.seq none .leaf (.seq none .leaf (.seq none (.seq (some [24]) .leaf .leaf) .leaf))) [p0,p1] aw Tryz.func61 (by kernel_rfl) (by kernel_rfl) h


/- loop.example/prologserver/spec.l4Mutate : function 62 -/
def lK (p0 p1:Value) (w:World) (R:Ending->World->Prop):Prop:=
 RR (sOp (.box 34 (.const p1)) 0) w fun a0 b0=>
 RR (sOp (.alloc 34) 0) b0 fun c0 d0=>
 RR (sOp (.load 34 (.const a0)) 34) d0 fun e0 f0=>
 RR (sCall (Value.func (.func 111) #[] #[]) [e0]) f0 fun g0 h0=>
 RR (sOp (.alloc 34) 0) h0 fun i0 j0=>
 RR (sOp (.store 34 (.const i0) (.const g0)) 0) j0 fun _u k0=>
 (∃ l0:World->Prop,(
 RR (sCall (Value.func (.func 61) #[] #[]) [p0,(Value.int .i64 40)]) k0 fun m0 n0=>
 RR (sBin .eql 3 false true m0 (Value.int .i64 0)) n0 fun o0 q0=>
 CondV o0 (
 RR (sCall (Value.func (.func 113) #[] #[]) [p0]) q0 fun s0 t0=>
 RR (sCall (Value.func (.func 112) #[] #[]) [p0,s0]) t0 fun u0 v0=>
 RR (sOp (.fieldAddr 34 (.const i0) 0) 0) v0 fun w0 x0=>
 RR (sOp (.store 32 (.const w0) (.const u0)) 0) x0 fun _u y0=>
 l0 y0) (
 RR (sBin .eql 3 false true m0 (Value.int .i64 1)) q0 fun z0 A0=>
 CondV z0 (
 (∃ B0:(Nat->Bool)->Value->Value->Value->Value->Value->Value->Value->Value->Value->World->Prop,B0 (fun _=>false) undef undef undef undef undef undef undef undef undef { A0 with drawn:=A0.drawn+1 }/\(
 (∀ C0:Nat->Bool,C0 0=false->∀ D0 E0 F0 G0 H0 I0 J0 K0 L0 M0,B0 C0 D0 E0 F0 G0 H0 I0 J0 K0 L0 M0->
 RR (sOp (.fieldAddr 34 (.const i0) 1) 0) M0 fun N0 O0=>
 B0 (setD C0 0) D0 E0 F0 G0 H0 I0 J0 K0 N0 O0)/\
 (∀ C0:Nat->Bool,C0 1=false->C0 0=true->∀ D0 E0 F0 G0 H0 I0 J0 K0 L0 P0,B0 C0 D0 E0 F0 G0 H0 I0 J0 K0 L0 P0->
 RR (sOp (.load 30 (.const L0)) 30) P0 fun Q0 S0=>
 B0 (setD C0 1) D0 E0 F0 G0 H0 I0 J0 Q0 L0 S0)/\
 (∀ C0:Nat->Bool,C0 2=false->∀ D0 E0 F0 G0 H0 I0 J0 K0 L0 T0,B0 C0 D0 E0 F0 G0 H0 I0 J0 K0 L0 T0->
 B0 (setD C0 2) D0 E0 F0 G0 H0 I0 p0 K0 L0 T0)/\
 (∀ C0:Nat->Bool,C0 3=false->∀ D0 E0 F0 G0 H0 I0 J0 K0 L0 U0,B0 C0 D0 E0 F0 G0 H0 I0 J0 K0 L0 U0->
 B0 (setD C0 3) D0 E0 F0 G0 H0 p0 J0 K0 L0 U0)/\
 (∀ C0:Nat->Bool,C0 4=false->C0 3=true->∀ D0 E0 F0 G0 H0 I0 J0 K0 L0 V0,B0 C0 D0 E0 F0 G0 H0 I0 J0 K0 L0 V0->
 RR (sCall (Value.func (.func 113) #[] #[]) [I0]) V0 fun W0 X0=>
 B0 (setD C0 4) D0 E0 F0 G0 W0 I0 J0 K0 L0 X0)/\
 (∀ C0:Nat->Bool,C0 5=false->C0 2=true->C0 4=true->C0 4=true->∀ D0 E0 F0 G0 H0 I0 J0 K0 L0 Y0,B0 C0 D0 E0 F0 G0 H0 I0 J0 K0 L0 Y0->
 RR (sCall (Value.func (.func 112) #[] #[]) [J0,H0]) Y0 fun Z0 a1=>
 B0 (setD C0 5) D0 E0 F0 Z0 H0 I0 J0 K0 L0 a1)/\
 (∀ C0:Nat->Bool,C0 6=false->C0 5=true->∀ D0 E0 F0 G0 H0 I0 J0 K0 L0 b1,B0 C0 D0 E0 F0 G0 H0 I0 J0 K0 L0 b1->
 RR (sBuildSlice 30 1 [(0,G0)]) b1 fun c1 d1=>
 B0 (setD C0 6) D0 E0 c1 G0 H0 I0 J0 K0 L0 d1)/\
 (∀ C0:Nat->Bool,C0 7=false->C0 1=true->C0 6=true->C0 5=true->∀ D0 E0 F0 G0 H0 I0 J0 K0 L0 e1,B0 C0 D0 E0 F0 G0 H0 I0 J0 K0 L0 e1->
 RR (sBuiltin .append #[30,30] 30 [false,false] [K0,F0]) e1 fun f1 g1=>
 B0 (setD C0 7) D0 f1 F0 G0 H0 I0 J0 K0 L0 g1)/\
 (∀ C0:Nat->Bool,C0 8=false->C0 0=true->C0 1=true->C0 2=true->C0 3=true->C0 4=true->C0 5=true->C0 6=true->C0 7=true->∀ D0 E0 F0 G0 H0 I0 J0 K0 L0 h1,B0 C0 D0 E0 F0 G0 H0 I0 J0 K0 L0 h1->
 RR (sOp (.fieldAddr 34 (.const i0) 1) 0) h1 fun i1 j1=>
 B0 (setD C0 8) i1 E0 F0 G0 H0 I0 J0 K0 L0 j1)/\
 (∀ C0:Nat->Bool,C0 9=false->C0 8=true->C0 7=true->C0 7=true->C0 0=true->C0 1=true->C0 2=true->C0 3=true->C0 4=true->C0 5=true->C0 6=true->C0 7=true->∀ D0 E0 F0 G0 H0 I0 J0 K0 L0 k1,B0 C0 D0 E0 F0 G0 H0 I0 J0 K0 L0 k1->
 RR (sOp (.store 30 (.const D0) (.const E0)) 0) k1 fun _u l1=>
 B0 (setD C0 9) D0 E0 F0 G0 H0 I0 J0 K0 L0 l1)/\
 True)/\
 ∀ C0:Nat->Bool,C0 9=true->C0 8=true->C0 7=true->C0 6=true->C0 5=true->C0 4=true->C0 3=true->C0 2=true->C0 1=true->C0 0=true->∀ D0 E0 F0 G0 H0 I0 J0 K0 L0 m1,B0 C0 D0 E0 F0 G0 H0 I0 J0 K0 L0 m1->
 l0 m1)) (
 RR (sBin .eql 3 false true m0 (Value.int .i64 2)) A0 fun n1 o1=>
 CondV n1 (
 (∃ (q1:World->Prop) (s1:World->Nat),q1 o1/\
 ∀ t1 u1 v1 w1 x1 y1 _ _ _ _:Value,∀ z1:World,q1 z1->
 RR (sOp (.fieldAddr 34 (.const i0) 1) 0) z1 fun A1 B1=>
 RR (sOp (.load 30 (.const A1)) 30) B1 fun C1 D1=>
 RR (sBuiltin .len #[30] 3 [false] [C1]) D1 fun E1 F1=>
 RR (sBin .leq 3 false true E1 (Value.int .i64 6)) F1 fun G1 H1=>
 CondV G1 (
 (∃ I1:(Nat->Bool)->Value->Value->Value->Value->Value->Value->World->Prop,I1 (fun _=>false) t1 u1 v1 w1 x1 y1 { H1 with drawn:=H1.drawn+1 }/\(
 (∀ J1:Nat->Bool,J1 0=false->∀ K1 L1 M1 N1 O1 P1 Q1,I1 J1 K1 L1 M1 N1 O1 P1 Q1->
 RR (sOp (.fieldAddr 34 (.const i0) 1) 0) Q1 fun S1 T1=>
 I1 (setD J1 0) K1 L1 M1 N1 O1 S1 T1)/\
 (∀ J1:Nat->Bool,J1 1=false->J1 0=true->∀ K1 L1 M1 N1 O1 P1 U1,I1 J1 K1 L1 M1 N1 O1 P1 U1->
 RR (sOp (.load 30 (.const P1)) 30) U1 fun V1 W1=>
 I1 (setD J1 1) K1 L1 M1 N1 V1 P1 W1)/\
 (∀ J1:Nat->Bool,J1 2=false->∀ K1 L1 M1 N1 O1 P1 X1,I1 J1 K1 L1 M1 N1 O1 P1 X1->
 RR (sCall (Value.func (.func 106) #[] #[]) [(Value.string ⟨#[116,114,117,101]⟩),(Value.slice none 0 0)]) X1 fun Y1 Z1=>
 I1 (setD J1 2) K1 L1 M1 Y1 O1 P1 Z1)/\
 (∀ J1:Nat->Bool,J1 3=false->J1 2=true->∀ K1 L1 M1 N1 O1 P1 a2,I1 J1 K1 L1 M1 N1 O1 P1 a2->
 RR (sBuildSlice 30 1 [(0,N1)]) a2 fun b2 c2=>
 I1 (setD J1 3) K1 L1 b2 N1 O1 P1 c2)/\
 (∀ J1:Nat->Bool,J1 4=false->J1 1=true->J1 3=true->J1 2=true->∀ K1 L1 M1 N1 O1 P1 d2,I1 J1 K1 L1 M1 N1 O1 P1 d2->
 RR (sBuiltin .append #[30,30] 30 [false,false] [O1,M1]) d2 fun e2 f2=>
 I1 (setD J1 4) K1 e2 M1 N1 O1 P1 f2)/\
 (∀ J1:Nat->Bool,J1 5=false->J1 0=true->J1 1=true->J1 2=true->J1 3=true->J1 4=true->∀ K1 L1 M1 N1 O1 P1 g2,I1 J1 K1 L1 M1 N1 O1 P1 g2->
 RR (sOp (.fieldAddr 34 (.const i0) 1) 0) g2 fun h2 i2=>
 I1 (setD J1 5) h2 L1 M1 N1 O1 P1 i2)/\
 (∀ J1:Nat->Bool,J1 6=false->J1 5=true->J1 4=true->J1 4=true->J1 0=true->J1 1=true->J1 2=true->J1 3=true->J1 4=true->∀ K1 L1 M1 N1 O1 P1 j2,I1 J1 K1 L1 M1 N1 O1 P1 j2->
 RR (sOp (.store 30 (.const K1) (.const L1)) 0) j2 fun _u k2=>
 I1 (setD J1 6) K1 L1 M1 N1 O1 P1 k2)/\
 True)/\
 ∀ J1:Nat->Bool,J1 6=true->J1 5=true->J1 4=true->J1 3=true->J1 2=true->J1 1=true->J1 0=true->∀ K1 L1 M1 N1 O1 P1 l2,I1 J1 K1 L1 M1 N1 O1 P1 l2->
 q1 l2/\s1 l2<s1 z1)) (
 l0 H1))) (
 RR (sBin .eql 3 false true m0 (Value.int .i64 3)) o1 fun m2 n2=>
 CondV m2 (
 RR (sBuildSlice 82 5 [(0,(Value.string ⟨#[116,114,117,101]⟩)),(1,(Value.string ⟨#[105,115]⟩)),(2,(Value.string ⟨#[61]⟩)),(3,(Value.string ⟨#[109,111,100]⟩)),(4,(Value.string ⟨#[113]⟩))]) n2 fun o2 q2=>
 RR (sCall (Value.func (.func 109) #[] #[]) [p0,o2]) q2 fun s2 t2=>
 RR (sOp (.fieldAddr 34 (.const i0) 0) 0) t2 fun u2 v2=>
 RR (sOp (.fieldAddr 32 (.const u2) 2) 0) v2 fun w2 x2=>
 RR (sOp (.store 9 (.const w2) (.const s2)) 0) x2 fun _u y2=>
 l0 y2) (
 l0 n2)))))/\
 ∀ _ _ _ _ _ _ _ _ _ _ _ _ _ _ _ _ _ _ _ _ _ _ _ _ _ _ _ _ _ _ _ _ _ _ _ _ _ _ _:Value,∀ z2:World,l0 z2->
 RR (sOp (.load 34 (.const i0)) 34) z2 fun A2 B2=>
 RR (sOp (.store 34 (.const c0) (.const A2)) 0) B2 fun _ C2=>
 (LoadV Tryz.prog 34 c0 C2 fun r0=>R (.returned r0) C2))
theorem pp {p0 p1:Value} {w:World} {R:Ending->World->Prop} (h:lK p0 p1 w R):Calls Tryz.prog 62 #[p0,p1] w R:=
  calls_sh (.seq none .leaf (.seq none .leaf (.seq (some []) (.seq none .leaf (.one (.seq none .leaf (.two .leaf (.seq none .leaf (.two .leaf (.seq none .leaf (.two (.one (.loop [] .leaf)) .leaf)))))))) .leaf))) [p0,p1] aw Tryz.func62 (by kernel_rfl) (by kernel_rfl) h


/- loop.example/prologserver/spec.ClauseValid : function 64 -/
def fR (p0:Value) (w:World) (R:Ending->World->Prop):Prop:=
 RR (sOp (.box 34 (.const p0)) 0) w fun a0 b0=>
 (∃ (c0:Value->World->Prop) (d0:Value->World->Nat),c0 (Value.int .i64 0) b0/\
 ∀ e0 _ _ _ _ _ _ _ _ _ _ _ _ _ _ _ _ _ _ _:Value,∀ f0:World,c0 e0 f0->
 (∃ g0:Value->World->Prop,(
 RR (sOp (.fieldAddr 34 (.const a0) 1) 0) f0 fun h0 i0=>
 RR (sOp (.load 30 (.const h0)) 30) i0 fun j0 k0=>
 RR (sBuiltin .len #[30] 3 [false] [j0]) k0 fun l0 m0=>
 RR (sBin .lss 3 false false e0 l0) m0 fun n0 o0=>
 GuardV n0 true (
 RR (sBin .leq 3 false true e0 (Value.int .i64 6)) o0 fun q0 s0=>
 RR (sOp (.pick (.const n0) (.const q0) (.const (Value.bool false))) 4) s0 fun t0 u0=>
 g0 t0 u0) (
 RR (sOp (.pick (.const n0) (.const undef) (.const (Value.bool false))) 4) o0 fun v0 w0=>
 g0 v0 w0))/\
 ∀ x0 _ _ _ _ _ _ _ _:Value,∀ y0:World,g0 x0 y0->
 CondV x0 (
 RR (sOp (.fieldAddr 34 (.const a0) 1) 0) y0 fun z0 A0=>
 RR (sOp (.load 30 (.const z0)) 30) A0 fun B0 C0=>
 RR (sOp (.indexAddr 30 (.const B0) (.const e0)) 0) C0 fun D0 E0=>
 RR (sOp (.load 32 (.const D0)) 32) E0 fun F0 G0=>
 RR (sCall (Value.func (.func 114) #[] #[]) [F0]) G0 fun H0 I0=>
 RR (sOp (.unOp .not 4 (.const H0)) 4) I0 fun J0 K0=>
 CondV J0 (
 R (.returned (Value.bool false)) K0) (
 RR (sBin .add 3 false true e0 (Value.int .i64 1)) K0 fun L0 M0=>
 c0 L0 M0/\d0 L0 M0<d0 e0 f0)) (
 RR (sOp (.fieldAddr 34 (.const a0) 1) 0) y0 fun N0 O0=>
 RR (sOp (.load 30 (.const N0)) 30) O0 fun P0 Q0=>
 RR (sBuiltin .len #[30] 3 [false] [P0]) Q0 fun S0 T0=>
 RR (sBin .leq 3 false true S0 (Value.int .i64 6)) T0 fun U0 V0=>
 GuardV U0 true (
 RR (sOp (.fieldAddr 34 (.const a0) 0) 0) V0 fun W0 X0=>
 RR (sOp (.load 32 (.const W0)) 32) X0 fun Y0 Z0=>
 RR (sCall (Value.func (.func 115) #[] #[]) [Y0]) Z0 fun a1 b1=>
 RR (sOp (.pick (.const U0) (.const a1) (.const (Value.bool false))) 4) b1 fun c1 d1=>
 GuardV c1 true (
 RR (sOp (.fieldAddr 34 (.const a0) 0) 0) d1 fun e1 f1=>
 RR (sOp (.load 32 (.const e1)) 32) f1 fun g1 h1=>
 RR (sCall (Value.func (.func 116) #[] #[]) [g1]) h1 fun i1 j1=>
 RR (sOp (.pick (.const c1) (.const i1) (.const (Value.bool false))) 4) j1 fun k1 l1=>
 R (.returned k1) l1) (
 RR (sOp (.pick (.const c1) (.const undef) (.const (Value.bool false))) 4) d1 fun m1 n1=>
 R (.returned m1) n1)) (
 RR (sOp (.pick (.const U0) (.const undef) (.const (Value.bool false))) 4) V0 fun o1 q1=>
 GuardV o1 true (
 RR (sOp (.fieldAddr 34 (.const a0) 0) 0) q1 fun s1 t1=>
 RR (sOp (.load 32 (.const s1)) 32) t1 fun u1 v1=>
 RR (sCall (Value.func (.func 116) #[] #[]) [u1]) v1 fun w1 x1=>
 RR (sOp (.pick (.const o1) (.const w1) (.const (Value.bool false))) 4) x1 fun y1 z1=>
 R (.returned y1) z1) (
 RR (sOp (.pick (.const o1) (.const undef) (.const (Value.bool false))) 4) q1 fun A1 B1=>
 R (.returned A1) B1)))))
theorem kO {p0:Value} {w:World} {R:Ending->World->Prop} (h:fR p0 w R):Calls Tryz.prog 64 #[p0] w R:=
  calls_sh (.seq none .leaf (.seq none (.seq none .leaf (.one (.loop [3] (.seq none (.seq (some [12]) .leaf .leaf) .leaf)))) .leaf)) [p0] aw Tryz.func64 (by kernel_rfl) (by kernel_rfl) h


/- loop.example/prologserver/impl.TermValid : function 66 -/
def jf (p0:Value) (w:World) (R:Ending->World->Prop):Prop:=
 RR (sOp (.box 32 (.const p0)) 0) w fun a0 b0=>
 RR (sOp (.alloc 3) 0) b0 fun c0 d0=>
 RR (sOp (.store 3 (.const c0) (.const (Value.int .i64 0))) 0) d0 fun _ e0=>
 RR (sOp (.load 32 (.const a0)) 32) e0 fun f0 g0=>
 RR (sCall (Value.func (.func 118) #[] #[]) [f0,(Value.int .i64 1),c0]) g0 fun h0 i0=>
 R (.returned h0) i0
theorem oH {p0:Value} {w:World} {R:Ending->World->Prop} (h:jf p0 w R):Calls Tryz.prog 66 #[p0] w R:=
  calls_sh .leaf [p0] aw Tryz.func66 (by kernel_rfl) (by kernel_rfl) h


/- loop.example/prologserver/impl.isPlain : function 67 -/
def nK (p0:Value) (w:World) (R:Ending->World->Prop):Prop:=
 RR (sOp (.box 32 (.const p0)) 0) w fun a0 b0=>
 RR (sOp (.fieldAddr 32 (.const a0) 0) 0) b0 fun c0 d0=>
 RR (sOp (.load 3 (.const c0)) 3) d0 fun e0 f0=>
 RR (sBin .eql 3 false true e0 (Value.int .i64 3)) f0 fun g0 h0=>
 GuardV g0 true (
 RR (sOp (.fieldAddr 32 (.const a0) 2) 0) h0 fun i0 j0=>
 RR (sOp (.load 9 (.const i0)) 9) j0 fun k0 l0=>
 RR (sCall (Value.func (.func 119) #[] #[]) [k0]) l0 fun m0 n0=>
 RR (sOp (.pick (.const g0) (.const m0) (.const (Value.bool false))) 4) n0 fun o0 q0=>
 GuardV o0 true (
 RR (sOp (.fieldAddr 32 (.const a0) 2) 0) q0 fun s0 t0=>
 RR (sOp (.load 9 (.const s0)) 9) t0 fun u0 v0=>
 RR (sCall (Value.func (.func 120) #[] #[]) [u0]) v0 fun w0 x0=>
 RR (sOp (.unOp .not 4 (.const w0)) 4) x0 fun y0 z0=>
 RR (sOp (.pick (.const o0) (.const y0) (.const (Value.bool false))) 4) z0 fun A0 B0=>
 GuardV A0 true (
 RR (sOp (.load 32 (.const a0)) 32) B0 fun C0 D0=>
 RR (sCall (Value.func (.func 121) #[] #[]) [C0]) D0 fun E0 F0=>
 RR (sOp (.unOp .not 4 (.const E0)) 4) F0 fun G0 H0=>
 RR (sOp (.pick (.const A0) (.const G0) (.const (Value.bool false))) 4) H0 fun I0 J0=>
 R (.returned I0) J0) (
 RR (sOp (.pick (.const A0) (.const undef) (.const (Value.bool false))) 4) B0 fun K0 L0=>
 R (.returned K0) L0)) (
 RR (sOp (.pick (.const o0) (.const undef) (.const (Value.bool false))) 4) q0 fun M0 N0=>
 GuardV M0 true (
 RR (sOp (.load 32 (.const a0)) 32) N0 fun O0 P0=>
 RR (sCall (Value.func (.func 121) #[] #[]) [O0]) P0 fun Q0 S0=>
 RR (sOp (.unOp .not 4 (.const Q0)) 4) S0 fun T0 U0=>
 RR (sOp (.pick (.const M0) (.const T0) (.const (Value.bool false))) 4) U0 fun V0 W0=>
 R (.returned V0) W0) (
 RR (sOp (.pick (.const M0) (.const undef) (.const (Value.bool false))) 4) N0 fun X0 Y0=>
 R (.returned X0) Y0))) (
 RR (sOp (.pick (.const g0) (.const undef) (.const (Value.bool false))) 4) h0 fun Z0 a1=>
 GuardV Z0 true (
 RR (sOp (.fieldAddr 32 (.const a0) 2) 0) a1 fun b1 c1=>
 RR (sOp (.load 9 (.const b1)) 9) c1 fun d1 e1=>
 RR (sCall (Value.func (.func 120) #[] #[]) [d1]) e1 fun f1 g1=>
 RR (sOp (.unOp .not 4 (.const f1)) 4) g1 fun h1 i1=>
 RR (sOp (.pick (.const Z0) (.const h1) (.const (Value.bool false))) 4) i1 fun j1 k1=>
 GuardV j1 true (
 RR (sOp (.load 32 (.const a0)) 32) k1 fun l1 m1=>
 RR (sCall (Value.func (.func 121) #[] #[]) [l1]) m1 fun n1 o1=>
 RR (sOp (.unOp .not 4 (.const n1)) 4) o1 fun q1 s1=>
 RR (sOp (.pick (.const j1) (.const q1) (.const (Value.bool false))) 4) s1 fun t1 u1=>
 R (.returned t1) u1) (
 RR (sOp (.pick (.const j1) (.const undef) (.const (Value.bool false))) 4) k1 fun v1 w1=>
 R (.returned v1) w1)) (
 RR (sOp (.pick (.const Z0) (.const undef) (.const (Value.bool false))) 4) a1 fun x1 y1=>
 GuardV x1 true (
 RR (sOp (.load 32 (.const a0)) 32) y1 fun z1 A1=>
 RR (sCall (Value.func (.func 121) #[] #[]) [z1]) A1 fun B1 C1=>
 RR (sOp (.unOp .not 4 (.const B1)) 4) C1 fun D1 E1=>
 RR (sOp (.pick (.const x1) (.const D1) (.const (Value.bool false))) 4) E1 fun F1 G1=>
 R (.returned F1) G1) (
 RR (sOp (.pick (.const x1) (.const undef) (.const (Value.bool false))) 4) y1 fun H1 I1=>
 R (.returned H1) I1)))
theorem rT {p0:Value} {w:World} {R:Ending->World->Prop} (h:nK p0 w R):Calls Tryz.prog 67 #[p0] w R:=
  calls_sh .leaf [p0] aw Tryz.func67 (by kernel_rfl) (by kernel_rfl) h


/- loop.example/prologserver/impl.goalsValid : function 68 -/
def ia (p0:Value) (w:World) (R:Ending->World->Prop):Prop:=
 RR (sBuiltin .len #[30] 3 [false] [p0]) w fun a0 b0=>
 RR (sBin .leq 3 false true a0 (Value.int .i64 6)) b0 fun c0 d0=>
 GuardV c0 true (
 RR (sCall (Value.func (.func 122) #[] #[]) [p0,(Value.func (.func 123) #[] #[])]) d0 fun e0 f0=>
 RR (sOp (.unOp .not 4 (.const e0)) 4) f0 fun g0 h0=>
 RR (sOp (.pick (.const c0) (.const g0) (.const (Value.bool false))) 4) h0 fun i0 j0=>
 R (.returned i0) j0) (
 RR (sOp (.pick (.const c0) (.const undef) (.const (Value.bool false))) 4) d0 fun k0 l0=>
 R (.returned k0) l0)
theorem lM {p0:Value} {w:World} {R:Ending->World->Prop} (h:ia p0 w R):Calls Tryz.prog 68 #[p0] w R:=
  calls_sh .leaf [p0] aw Tryz.func68 (by kernel_rfl) (by kernel_rfl) h


/- loop.example/prologserver/impl.ownProgram : function 69 -/
def ir (p0:Value) (w:World) (R:Ending->World->Prop):Prop:=
 RR (sBuiltin .len #[23] 3 [false] [p0]) w fun a0 b0=>
 (∃ (c0:Value->Value->World->Prop) (d0:Value->Value->World->Nat),c0 (Value.int .i64 0) (Value.slice none 0 0) b0/\
 ∀ e0 _ f0 _ _ _ _ _ _ _ _ _:Value,∀ g0:World,c0 e0 f0 g0->
 RR (sBin .lss 3 false false e0 a0) g0 fun h0 i0=>
 CondV h0 (
 RR (sOp (.indexAddr 23 (.const p0) (.const e0)) 0) i0 fun j0 k0=>
 RR (sOp (.load 34 (.const j0)) 34) k0 fun l0 m0=>
 RR (sOp (.alloc 34) 0) m0 fun n0 o0=>
 RR (sOp (.store 34 (.const n0) (.const l0)) 0) o0 fun _ q0=>
 RR (sOp (.load 34 (.const n0)) 34) q0 fun s0 t0=>
 RR (sCall (Value.func (.func 81) #[] #[]) [s0]) t0 fun u0 v0=>
 RR (sBuildSlice 23 1 [(0,u0)]) v0 fun w0 x0=>
 RR (sBuiltin .append #[23,23] 23 [false,false] [f0,w0]) x0 fun y0 z0=>
 RR (sBin .add 3 false true e0 (Value.int .i64 1)) z0 fun A0 B0=>
 c0 A0 y0 B0/\d0 A0 y0 B0<d0 e0 f0 g0) (
 R (.returned f0) i0))
theorem mw {p0:Value} {w:World} {R:Ending->World->Prop} (h:ir p0 w R):Calls Tryz.prog 69 #[p0] w R:=
  calls_sh (.seq none .leaf (.seq none .leaf (.seq none (.seq none .leaf (.one (.loop [8,3] .leaf))) .leaf))) [p0] aw Tryz.func69 (by kernel_rfl) (by kernel_rfl) h


/- loop.example/prologserver/spec.ParseProgram : function 72 -/
def fl (p0:Value) (w:World) (R:Ending->World->Prop):Prop:=
 RR (sBuildSlice 23 0 []) w fun a0 b0=>
 RR (sCall (Value.func (.func 125) #[] #[]) [p0,(Value.int .u8 10)]) b0 fun c0 d0=>
 (∃ e0:Value->World->Prop,(
 RR (sBuiltin .len #[82] 3 [false] [c0]) d0 fun f0 g0=>
 RR (sBin .gtr 3 false true f0 (Value.int .i64 21)) g0 fun h0 i0=>
 GuardV h0 false (
 RR (sBuiltin .len #[82] 3 [false] [c0]) i0 fun j0 k0=>
 RR (sBin .sub 3 false true j0 (Value.int .i64 1)) k0 fun l0 m0=>
 RR (sOp (.indexAddr 82 (.const c0) (.const l0)) 0) m0 fun n0 o0=>
 RR (sOp (.load 9 (.const n0)) 9) o0 fun q0 s0=>
 RR (sBin .neq 9 false true q0 (Value.string ⟨#[]⟩)) s0 fun t0 u0=>
 RR (sOp (.pick (.const h0) (.const (Value.bool true)) (.const t0)) 4) u0 fun v0 w0=>
 e0 v0 w0) (
 RR (sOp (.pick (.const h0) (.const (Value.bool true)) (.const undef)) 4) i0 fun x0 y0=>
 e0 x0 y0))/\
 ∀ z0 _ _ _ _ _ _ _ _ _ _ _:Value,∀ A0:World,e0 z0 A0->
 CondV z0 (
 R (.returned (.tuple #[a0,(Value.bool false)])) A0) (
 (∃ (B0:Value->Value->World->Prop) (C0:Value->Value->World->Nat),B0 (Value.int .i64 0) a0 A0/\
 ∀ D0 _ _ E0 _ _ _ _ _ _ _ _ _ _ _ _ _ _ _ _ _ _ _ _ _ _ _ _:Value,∀ F0:World,B0 D0 E0 F0->
 RR (sBin .add 3 false true D0 (Value.int .i64 1)) F0 fun G0 H0=>
 RR (sBuiltin .len #[82] 3 [false] [c0]) H0 fun I0 J0=>
 RR (sBin .lss 3 false false G0 I0) J0 fun K0 L0=>
 CondV K0 (
 RR (sOp (.indexAddr 82 (.const c0) (.const D0)) 0) L0 fun M0 N0=>
 RR (sOp (.load 9 (.const M0)) 9) N0 fun O0 P0=>
 RR (sCall (Value.func (.func 126) #[] #[]) [O0]) P0 fun Q0 S0=>
 RR (sOp (.extract (.const Q0) 0) 34) S0 fun T0 U0=>
 RR (sOp (.extract (.const Q0) 1) 4) U0 fun V0 W0=>
 RR (sOp (.alloc 34) 0) W0 fun X0 Y0=>
 RR (sOp (.store 34 (.const X0) (.const T0)) 0) Y0 fun _ Z0=>
 RR (sOp (.unOp .not 4 (.const V0)) 4) Z0 fun a1 b1=>
 CondV a1 (
 RR (sBuildSlice 23 0 []) b1 fun c1 d1=>
 R (.returned (.tuple #[c1,(Value.bool false)])) d1) (
 RR (sOp (.load 34 (.const X0)) 34) b1 fun e1 f1=>
 RR (sBuildSlice 23 1 [(0,e1)]) f1 fun g1 h1=>
 RR (sBuiltin .append #[23,23] 23 [false,false] [E0,g1]) h1 fun i1 j1=>
 RR (sBin .add 3 false true D0 (Value.int .i64 1)) j1 fun k1 l1=>
 B0 k1 i1 l1/\C0 k1 i1 l1<C0 D0 E0 F0)) (
 R (.returned (.tuple #[E0,(Value.bool true)])) L0))))
theorem jb {p0:Value} {w:World} {R:Ending->World->Prop} (h:fl p0 w R):Calls Tryz.prog 72 #[p0] w R:=
  calls_sh (.seq none .leaf (.seq none .leaf (.seq none .leaf (.seq none (.seq (some [23]) .leaf .leaf) (.seq none (.seq none .leaf (.one (.loop [6,4] .leaf))) .leaf))))) [p0] aw Tryz.func72 (by kernel_rfl) (by kernel_rfl) h


/- loop.example/prologserver/impl.ownClause : function 81 -/
def jK (p0:Value) (w:World) (R:Ending->World->Prop):Prop:=
 RR (sOp (.box 34 (.const p0)) 0) w fun a0 b0=>
 RR (sOp (.alloc 34) 0) b0 fun c0 d0=>
 (∃ e0:(Nat->Bool)->Value->Value->Value->Value->Value->Value->Value->World->Prop,e0 (fun _=>false) undef undef undef undef undef undef undef { d0 with drawn:=d0.drawn+1 }/\(
 (∀ f0:Nat->Bool,f0 0=false->∀ g0 h0 i0 j0 k0 l0 m0 n0,e0 f0 g0 h0 i0 j0 k0 l0 m0 n0->
 RR (sOp (.fieldAddr 34 (.const a0) 0) 0) n0 fun o0 q0=>
 e0 (setD f0 0) g0 h0 i0 j0 k0 l0 o0 q0)/\
 (∀ f0:Nat->Bool,f0 1=false->f0 0=true->∀ g0 h0 i0 j0 k0 l0 m0 s0,e0 f0 g0 h0 i0 j0 k0 l0 m0 s0->
 RR (sOp (.load 32 (.const m0)) 32) s0 fun t0 u0=>
 e0 (setD f0 1) g0 h0 i0 j0 k0 t0 m0 u0)/\
 (∀ f0:Nat->Bool,f0 2=false->f0 1=true->∀ g0 h0 i0 j0 k0 l0 m0 v0,e0 f0 g0 h0 i0 j0 k0 l0 m0 v0->
 RR (sCall (Value.func (.func 89) #[] #[]) [l0]) v0 fun w0 x0=>
 e0 (setD f0 2) g0 h0 i0 j0 w0 l0 m0 x0)/\
 (∀ f0:Nat->Bool,f0 3=false->∀ g0 h0 i0 j0 k0 l0 m0 y0,e0 f0 g0 h0 i0 j0 k0 l0 m0 y0->
 RR (sOp (.fieldAddr 34 (.const a0) 1) 0) y0 fun z0 A0=>
 e0 (setD f0 3) g0 h0 i0 z0 k0 l0 m0 A0)/\
 (∀ f0:Nat->Bool,f0 4=false->f0 3=true->∀ g0 h0 i0 j0 k0 l0 m0 B0,e0 f0 g0 h0 i0 j0 k0 l0 m0 B0->
 RR (sOp (.load 30 (.const j0)) 30) B0 fun C0 D0=>
 e0 (setD f0 4) g0 h0 C0 j0 k0 l0 m0 D0)/\
 (∀ f0:Nat->Bool,f0 5=false->f0 4=true->f0 2=true->∀ g0 h0 i0 j0 k0 l0 m0 E0,e0 f0 g0 h0 i0 j0 k0 l0 m0 E0->
 RR (sCall (Value.func (.func 128) #[] #[]) [i0]) E0 fun F0 G0=>
 e0 (setD f0 5) g0 F0 i0 j0 k0 l0 m0 G0)/\
 (∀ f0:Nat->Bool,f0 6=false->f0 2=true->f0 5=true->∀ g0 h0 i0 j0 k0 l0 m0 H0,e0 f0 g0 h0 i0 j0 k0 l0 m0 H0->
 RR (sBuild 34 [(0,k0),(1,h0)]) H0 fun I0 J0=>
 e0 (setD f0 6) I0 h0 i0 j0 k0 l0 m0 J0)/\
 (∀ f0:Nat->Bool,f0 7=false->f0 6=true->f0 5=true->f0 0=true->f0 1=true->f0 2=true->f0 3=true->f0 4=true->f0 5=true->f0 6=true->∀ g0 h0 i0 j0 k0 l0 m0 K0,e0 f0 g0 h0 i0 j0 k0 l0 m0 K0->
 RR (sOp (.store 34 (.const c0) (.const g0)) 0) K0 fun _ L0=>
 e0 (setD f0 7) g0 h0 i0 j0 k0 l0 m0 L0)/\
 True)/\
 ∀ f0:Nat->Bool,f0 7=true->f0 6=true->f0 5=true->f0 4=true->f0 3=true->f0 2=true->f0 1=true->f0 0=true->∀ g0 h0 i0 j0 k0 l0 m0 M0,e0 f0 g0 h0 i0 j0 k0 l0 m0 M0->
 (LoadV Tryz.prog 34 c0 M0 fun r0=>R (.returned r0) M0))
theorem oe {p0:Value} {w:World} {R:Ending->World->Prop} (h:jK p0 w R):Calls Tryz.prog 81 #[p0] w R:=
  calls_sh .leaf [p0] aw Tryz.func81 (by kernel_rfl) (by kernel_rfl) h


/- loop.example/prologserver/impl.numbered : function 82 -/
def lq (p0:Value) (w:World) (R:Ending->World->Prop):Prop:=
 RR (sOp (.box 34 (.const p0)) 0) w fun a0 b0=>
 RR (sOp (.alloc 34) 0) b0 fun c0 d0=>
 RR (sOp (.fieldAddr 34 (.const a0) 0) 0) d0 fun e0 f0=>
 RR (sOp (.load 32 (.const e0)) 32) f0 fun g0 h0=>
 RR (sBuildSlice 30 1 [(0,g0)]) h0 fun i0 j0=>
 RR (sOp (.fieldAddr 34 (.const a0) 1) 0) j0 fun k0 l0=>
 RR (sOp (.load 30 (.const k0)) 30) l0 fun m0 n0=>
 RR (sBuiltin .append #[30,30] 30 [false,false] [i0,m0]) n0 fun o0 q0=>
 RR (sCall (Value.func (.func 86) #[] #[]) [o0]) q0 fun s0 t0=>
 (∃ u0:(Nat->Bool)->Value->Value->Value->Value->Value->Value->Value->World->Prop,u0 (fun _=>false) undef undef undef undef undef undef undef { t0 with drawn:=t0.drawn+1 }/\(
 (∀ v0:Nat->Bool,v0 0=false->∀ w0 x0 y0 z0 A0 B0 C0 D0,u0 v0 w0 x0 y0 z0 A0 B0 C0 D0->
 u0 (setD v0 0) w0 x0 y0 z0 A0 B0 s0 D0)/\
 (∀ v0:Nat->Bool,v0 1=false->v0 0=true->∀ w0 x0 y0 z0 A0 B0 C0 E0,u0 v0 w0 x0 y0 z0 A0 B0 C0 E0->
 RR (sOp (.indexAddr 30 (.const C0) (.const (Value.int .i64 0))) 0) E0 fun F0 G0=>
 u0 (setD v0 1) w0 x0 y0 z0 A0 F0 C0 G0)/\
 (∀ v0:Nat->Bool,v0 2=false->v0 1=true->∀ w0 x0 y0 z0 A0 B0 C0 H0,u0 v0 w0 x0 y0 z0 A0 B0 C0 H0->
 RR (sOp (.load 32 (.const B0)) 32) H0 fun I0 J0=>
 u0 (setD v0 2) w0 x0 y0 z0 I0 B0 C0 J0)/\
 (∀ v0:Nat->Bool,v0 3=false->∀ w0 x0 y0 z0 A0 B0 C0 K0,u0 v0 w0 x0 y0 z0 A0 B0 C0 K0->
 u0 (setD v0 3) w0 x0 y0 s0 A0 B0 C0 K0)/\
 (∀ v0:Nat->Bool,v0 4=false->v0 3=true->∀ w0 x0 y0 z0 A0 B0 C0 L0,u0 v0 w0 x0 y0 z0 A0 B0 C0 L0->
 RR (sOp (.slice 30 (.const z0) (some (.const (Value.int .i64 1))) none none) 30) L0 fun M0 N0=>
 u0 (setD v0 4) w0 x0 M0 z0 A0 B0 C0 N0)/\
 (∀ v0:Nat->Bool,v0 5=false->v0 4=true->∀ w0 x0 y0 z0 A0 B0 C0 O0,u0 v0 w0 x0 y0 z0 A0 B0 C0 O0->
 RR (sCall (Value.func (.func 129) #[] #[]) [y0]) O0 fun P0 Q0=>
 u0 (setD v0 5) w0 P0 y0 z0 A0 B0 C0 Q0)/\
 (∀ v0:Nat->Bool,v0 6=false->v0 2=true->v0 5=true->∀ w0 x0 y0 z0 A0 B0 C0 S0,u0 v0 w0 x0 y0 z0 A0 B0 C0 S0->
 RR (sBuild 34 [(0,A0),(1,x0)]) S0 fun T0 U0=>
 u0 (setD v0 6) T0 x0 y0 z0 A0 B0 C0 U0)/\
 (∀ v0:Nat->Bool,v0 7=false->v0 6=true->v0 5=true->v0 0=true->v0 1=true->v0 2=true->v0 3=true->v0 4=true->v0 5=true->v0 6=true->∀ w0 x0 y0 z0 A0 B0 C0 V0,u0 v0 w0 x0 y0 z0 A0 B0 C0 V0->
 RR (sOp (.store 34 (.const c0) (.const w0)) 0) V0 fun _ W0=>
 u0 (setD v0 7) w0 x0 y0 z0 A0 B0 C0 W0)/\
 True)/\
 ∀ v0:Nat->Bool,v0 7=true->v0 6=true->v0 5=true->v0 4=true->v0 3=true->v0 2=true->v0 1=true->v0 0=true->∀ w0 x0 y0 z0 A0 B0 C0 X0,u0 v0 w0 x0 y0 z0 A0 B0 C0 X0->
 (LoadV Tryz.prog 34 c0 X0 fun r0=>R (.returned r0) X0))
theorem pQ {p0:Value} {w:World} {R:Ending->World->Prop} (h:lq p0 w R):Calls Tryz.prog 82 #[p0] w R:=
  calls_sh .leaf [p0] aw Tryz.func82 (by kernel_rfl) (by kernel_rfl) h


/- loop.example/prologserver/impl.renumbered : function 86 -/
def ig (p0:Value) (w:World) (R:Ending->World->Prop):Prop:=
 RR (sCall (Value.func (.func 131) #[] #[]) [p0]) w fun a0 b0=>
 RR (sOp (.alloc 63) 0) b0 fun c0 d0=>
 RR (sOp (.store 63 (.const c0) (.const a0)) 0) d0 fun _u e0=>
 RR (sBuiltin .len #[30] 3 [false] [p0]) e0 fun f0 g0=>
 (∃ (h0:Value->Value->World->Prop) (i0:Value->Value->World->Nat),h0 (Value.int .i64 0) (Value.slice none 0 0) g0/\
 ∀ j0 _ k0 _ _ _ _ _ _ _ _ _ _:Value,∀ l0:World,h0 j0 k0 l0->
 RR (sBin .lss 3 false false j0 f0) l0 fun m0 n0=>
 CondV m0 (
 RR (sOp (.indexAddr 30 (.const p0) (.const j0)) 0) n0 fun o0 q0=>
 RR (sOp (.load 32 (.const o0)) 32) q0 fun s0 t0=>
 RR (sOp (.alloc 32) 0) t0 fun u0 v0=>
 RR (sOp (.store 32 (.const u0) (.const s0)) 0) v0 fun _ w0=>
 RR (sOp (.load 32 (.const u0)) 32) w0 fun x0 y0=>
 RR (sMakeFunc (.func 133) [] [c0]) y0 fun z0 A0=>
 RR (sCall (Value.func (.func 132) #[] #[]) [x0,z0]) A0 fun B0 C0=>
 RR (sBuildSlice 30 1 [(0,B0)]) C0 fun D0 E0=>
 RR (sBuiltin .append #[30,30] 30 [false,false] [k0,D0]) E0 fun F0 G0=>
 RR (sBin .add 3 false true j0 (Value.int .i64 1)) G0 fun H0 I0=>
 h0 H0 F0 I0/\i0 H0 F0 I0<i0 j0 k0 l0) (
 R (.returned k0) n0))
theorem lX {p0:Value} {w:World} {R:Ending->World->Prop} (h:ig p0 w R):Calls Tryz.prog 86 #[p0] w R:=
  calls_sh (.seq none .leaf (.seq none .leaf (.seq none .leaf (.seq none (.seq none .leaf (.one (.loop [11,4] .leaf))) .leaf)))) [p0] aw Tryz.func86 (by kernel_rfl) (by kernel_rfl) h


/- loop.example/prologserver/impl.clausesFor : function 88 -/
def hH (p0 p1:Value) (w:World) (R:Ending->World->Prop):Prop:=
 RR (sOp (.box 36 (.const p1)) 0) w fun a0 b0=>
 RR (sBuiltin .len #[23] 3 [false] [p0]) b0 fun c0 d0=>
 (∃ (e0:Value->Value->World->Prop) (f0:Value->Value->World->Nat),e0 (Value.int .i64 0) (Value.slice none 0 0) d0/\
 ∀ g0 _ h0 _ _ _ _ i0 j0 k0 l0 m0 _ _ _ _ _ _:Value,∀ n0:World,e0 g0 h0 n0->
 RR (sBin .lss 3 false false g0 c0) n0 fun o0 q0=>
 CondV o0 (
 (∃ s0:Value->World->Prop,(
 RR (sOp (.indexAddr 23 (.const p0) (.const g0)) 0) q0 fun t0 u0=>
 RR (sOp (.load 34 (.const t0)) 34) u0 fun v0 w0=>
 RR (sOp (.alloc 34) 0) w0 fun x0 y0=>
 RR (sOp (.store 34 (.const x0) (.const v0)) 0) y0 fun _ z0=>
 (∃ A0:(Nat->Bool)->Value->Value->Value->Value->Value->World->Prop,A0 (fun _=>false) i0 j0 k0 l0 m0 { z0 with drawn:=z0.drawn+1 }/\(
 (∀ B0:Nat->Bool,B0 0=false->∀ C0 D0 E0 F0 G0 H0,A0 B0 C0 D0 E0 F0 G0 H0->
 RR (sOp (.fieldAddr 34 (.const x0) 0) 0) H0 fun I0 J0=>
 A0 (setD B0 0) C0 D0 E0 F0 I0 J0)/\
 (∀ B0:Nat->Bool,B0 1=false->B0 0=true->∀ C0 D0 E0 F0 G0 K0,A0 B0 C0 D0 E0 F0 G0 K0->
 RR (sOp (.load 32 (.const G0)) 32) K0 fun L0 M0=>
 A0 (setD B0 1) C0 D0 E0 L0 G0 M0)/\
 (∀ B0:Nat->Bool,B0 2=false->B0 1=true->∀ C0 D0 E0 F0 G0 N0,A0 B0 C0 D0 E0 F0 G0 N0->
 RR (sCall (Value.func (.func 54) #[] #[]) [F0]) N0 fun O0 P0=>
 A0 (setD B0 2) C0 D0 O0 F0 G0 P0)/\
 (∀ B0:Nat->Bool,B0 3=false->∀ C0 D0 E0 F0 G0 Q0,A0 B0 C0 D0 E0 F0 G0 Q0->
 RR (sOp (.load 36 (.const a0)) 36) Q0 fun S0 T0=>
 A0 (setD B0 3) C0 S0 E0 F0 G0 T0)/\
 (∀ B0:Nat->Bool,B0 4=false->B0 2=true->B0 3=true->∀ C0 D0 E0 F0 G0 U0,A0 B0 C0 D0 E0 F0 G0 U0->
 RR (sBin .eql 36 false false E0 D0) U0 fun V0 W0=>
 A0 (setD B0 4) V0 D0 E0 F0 G0 W0)/\
 True)/\
 ∀ B0:Nat->Bool,B0 4=true->B0 3=true->B0 2=true->B0 1=true->B0 0=true->∀ C0 D0 E0 F0 G0 X0,A0 B0 C0 D0 E0 F0 G0 X0->
 CondV C0 (
 RR (sBuildSlice 63 1 [(0,g0)]) X0 fun Y0 Z0=>
 RR (sBuiltin .append #[63,63] 63 [false,false] [h0,Y0]) Z0 fun a1 b1=>
 s0 a1 b1) (
 s0 h0 X0)))/\
 ∀ c1 _ _ _ _ _ _ _ _ _ _ _ _ _ _:Value,∀ d1:World,s0 c1 d1->
 RR (sBin .add 3 false true g0 (Value.int .i64 1)) d1 fun e1 f1=>
 e0 e1 c1 f1/\f0 e1 c1 f1<f0 g0 h0 n0)) (
 R (.returned h0) q0))
theorem mC {p0 p1:Value} {w:World} {R:Ending->World->Prop} (h:hH p0 p1 w R):Calls Tryz.prog 88 #[p0,p1] w R:=
  calls_sh (.seq none .leaf (.seq none .leaf (.seq none (.seq none .leaf (.one (.loop [10,5] (.seq none .leaf (.seq none .leaf (.seq (some [5]) .leaf .leaf)))))) .leaf))) [p0,p1] aw Tryz.func88 (by kernel_rfl) (by kernel_rfl) h


/- loop.example/prologserver/impl.own : function 89 -/
def yE (p0:Value) (w:World) (R:Ending->World->Prop):Prop:=
 RR (sOp (.box 32 (.const p0)) 0) w fun a0 b0=>
 RR (sOp (.alloc 32) 0) b0 fun c0 d0=>
 RR (sOp (.fieldAddr 32 (.const a0) 3) 0) d0 fun e0 f0=>
 RR (sOp (.load 30 (.const e0)) 30) f0 fun g0 h0=>
 RR (sCall (Value.func (.func 128) #[] #[]) [g0]) h0 fun i0 j0=>
 RR (sOp (.fieldAddr 32 (.const a0) 3) 0) j0 fun k0 l0=>
 RR (sOp (.store 30 (.const k0) (.const i0)) 0) l0 fun _u m0=>
 RR (sOp (.load 32 (.const a0)) 32) m0 fun n0 o0=>
 RR (sOp (.store 32 (.const c0) (.const n0)) 0) o0 fun _ q0=>
 (LoadV Tryz.prog 32 c0 q0 fun r0=>R (.returned r0) q0)
theorem zK {p0:Value} {w:World} {R:Ending->World->Prop} (h:yE p0 w R):Calls Tryz.prog 89 #[p0] w R:=
  calls_sh .leaf [p0] aw Tryz.func89 (by kernel_rfl) (by kernel_rfl) h


/- loop.example/prologserver/spec.l4Program : function 91 -/
def jo (p0:Value) (w:World) (R:Ending->World->Prop):Prop:=
 RR (sCall (Value.func (.func 136) #[] #[]) []) w fun a0 b0=>
 RR (sBuiltin .len #[82] 3 [false] [a0]) b0 fun c0 d0=>
 RR (sCall (Value.func (.func 61) #[] #[]) [p0,c0]) d0 fun e0 f0=>
 RR (sOp (.indexAddr 82 (.const a0) (.const e0)) 0) f0 fun g0 h0=>
 RR (sOp (.load 9 (.const g0)) 9) h0 fun i0 j0=>
 RR (sCall (Value.func (.func 72) #[] #[]) [i0]) j0 fun k0 l0=>
 RR (sOp (.extract (.const k0) 0) 23) l0 fun m0 n0=>
 RR (sOp (.extract (.const k0) 1) 4) n0 fun _ o0=>
 R (.returned m0) o0
theorem oS {p0:Value} {w:World} {R:Ending->World->Prop} (h:jo p0 w R):Calls Tryz.prog 91 #[p0] w R:=
  calls_sh .leaf [p0] aw Tryz.func91 (by kernel_rfl) (by kernel_rfl) h


/- loop.example/prologserver/spec.QueryValid : function 93 -/
def gU (p0:Value) (w:World) (R:Ending->World->Prop):Prop:=
 (∃ (a0:Value->World->Prop) (b0:Value->World->Nat),a0 (Value.int .i64 0) w/\
 ∀ c0 _ _ _ _ _ _ _ _ _ _ _ _ _ _ _ _ _:Value,∀ d0:World,a0 c0 d0->
 (∃ e0:Value->World->Prop,(
 RR (sBuiltin .len #[30] 3 [false] [p0]) d0 fun f0 g0=>
 RR (sBin .lss 3 false false c0 f0) g0 fun h0 i0=>
 GuardV h0 true (
 RR (sBin .leq 3 false true c0 (Value.int .i64 6)) i0 fun j0 k0=>
 RR (sOp (.pick (.const h0) (.const j0) (.const (Value.bool false))) 4) k0 fun l0 m0=>
 e0 l0 m0) (
 RR (sOp (.pick (.const h0) (.const undef) (.const (Value.bool false))) 4) i0 fun n0 o0=>
 e0 n0 o0))/\
 ∀ q0 _ _ _ _ _ _ _:Value,∀ s0:World,e0 q0 s0->
 CondV q0 (
 RR (sOp (.indexAddr 30 (.const p0) (.const c0)) 0) s0 fun t0 u0=>
 RR (sOp (.load 32 (.const t0)) 32) u0 fun v0 w0=>
 RR (sCall (Value.func (.func 114) #[] #[]) [v0]) w0 fun x0 y0=>
 RR (sOp (.unOp .not 4 (.const x0)) 4) y0 fun z0 A0=>
 CondV z0 (
 R (.returned (Value.bool false)) A0) (
 RR (sBin .add 3 false true c0 (Value.int .i64 1)) A0 fun B0 C0=>
 a0 B0 C0/\b0 B0 C0<b0 c0 d0)) (
 RR (sBuiltin .len #[30] 3 [false] [p0]) s0 fun D0 E0=>
 RR (sBin .leq 3 false true D0 (Value.int .i64 6)) E0 fun F0 G0=>
 R (.returned F0) G0)))
theorem mu {p0:Value} {w:World} {R:Ending->World->Prop} (h:gU p0 w R):Calls Tryz.prog 93 #[p0] w R:=
  calls_sh (.seq none .leaf (.seq none (.seq none .leaf (.one (.loop [3] (.seq none (.seq (some [11]) .leaf .leaf) .leaf)))) .leaf)) [p0] aw Tryz.func93 (by kernel_rfl) (by kernel_rfl) h


/- loop.example/prologserver/spec.DrawUnfoldClause : function 95 -/
def dk (p0:Value) (w:World) (R:Ending->World->Prop):Prop:=
 RR (sCall (Value.func (.func 50) #[] #[]) [p0]) w fun a0 b0=>
 RR (sCall (Value.func (.func 139) #[] #[]) [a0]) b0 fun c0 d0=>
 RR (sOp (.extract (.const c0) 0) 23) d0 fun e0 f0=>
 RR (sOp (.extract (.const c0) 1) 30) f0 fun _ g0=>
 (∃ h0:Value->World->Prop,(
 RR (sCall (Value.func (.func 61) #[] #[]) [a0,(Value.int .i64 6)]) g0 fun i0 j0=>
 RR (sBin .eql 3 false true i0 (Value.int .i64 0)) j0 fun k0 l0=>
 CondV k0 (
 RR (sCall (Value.func (.func 91) #[] #[]) [a0]) l0 fun m0 n0=>
 RR (sCall (Value.func (.func 51) #[] #[]) [a0,m0]) n0 fun o0 q0=>
 h0 o0 q0) (
 h0 e0 l0))/\
 ∀ s0 _ _ _ _ _ _ _:Value,∀ t0:World,h0 s0 t0->
 RR (sCall (Value.func (.func 61) #[] #[]) [a0,(Value.int .i64 3)]) t0 fun u0 v0=>
 RR (sBin .gtr 3 false true u0 (Value.int .i64 0)) v0 fun w0 x0=>
 CondV w0 (
 R (.returned (.tuple #[s0,(Value.int .i64 0)])) x0) (
 RR (sBuildSlice 63 5 [(0,(Value.int .i64 0)),(1,(Value.int .i64 1)),(2,(Value.int .i64 2)),(3,(Value.int .i64 (-1))),(4,(Value.int .i64 30))]) x0 fun y0 z0=>
 RR (sCall (Value.func (.func 140) #[] #[]) [a0,y0]) z0 fun A0 B0=>
 R (.returned (.tuple #[s0,A0])) B0))
theorem fy {p0:Value} {w:World} {R:Ending->World->Prop} (h:dk p0 w R):Calls Tryz.prog 95 #[p0] w R:=
  calls_sh (.seq none .leaf (.seq none .leaf (.seq none .leaf (.seq (some [5]) .leaf .leaf)))) [p0] aw Tryz.func95 (by kernel_rfl) (by kernel_rfl) h


/- loop.example/prologserver/impl.within : function 96 -/
def rb (p0 p1 p2:Value) (w:World) (R:Ending->World->Prop):Prop:=
 RR (sBin .leq 3 false false p1 p0) w fun a0 b0=>
 GuardV a0 true (
 RR (sBin .leq 3 false false p0 p2) b0 fun c0 d0=>
 RR (sOp (.pick (.const a0) (.const c0) (.const (Value.bool false))) 4) d0 fun e0 f0=>
 R (.returned e0) f0) (
 RR (sOp (.pick (.const a0) (.const undef) (.const (Value.bool false))) 4) b0 fun g0 h0=>
 R (.returned g0) h0)
theorem sO {p0 p1 p2:Value} {w:World} {R:Ending->World->Prop} (h:rb p0 p1 p2 w R):Calls Tryz.prog 96 #[p0,p1,p2] w R:=
  calls_sh .leaf [p0,p1,p2] aw Tryz.func96 (by kernel_rfl) (by kernel_rfl) h


/- loop.example/prologserver/impl.firstPlain : function 97 -/
def gQ (p0:Value) (w:World) (R:Ending->World->Prop):Prop:=
 RR (sOp (.box 34 (.const p0)) 0) w fun a0 b0=>
 RR (sOp (.fieldAddr 34 (.const a0) 1) 0) b0 fun c0 d0=>
 RR (sOp (.load 30 (.const c0)) 30) d0 fun e0 f0=>
 RR (sBuiltin .len #[30] 3 [false] [e0]) f0 fun g0 h0=>
 RR (sBin .gtr 3 false true g0 (Value.int .i64 0)) h0 fun i0 j0=>
 GuardV i0 true (
 RR (sOp (.fieldAddr 34 (.const a0) 1) 0) j0 fun k0 l0=>
 RR (sOp (.load 30 (.const k0)) 30) l0 fun m0 n0=>
 RR (sOp (.indexAddr 30 (.const m0) (.const (Value.int .i64 0))) 0) n0 fun o0 q0=>
 RR (sOp (.load 32 (.const o0)) 32) q0 fun s0 t0=>
 RR (sCall (Value.func (.func 67) #[] #[]) [s0]) t0 fun u0 v0=>
 RR (sOp (.pick (.const i0) (.const u0) (.const (Value.bool false))) 4) v0 fun w0 x0=>
 R (.returned w0) x0) (
 RR (sOp (.pick (.const i0) (.const undef) (.const (Value.bool false))) 4) j0 fun y0 z0=>
 R (.returned y0) z0)
theorem ms {p0:Value} {w:World} {R:Ending->World->Prop} (h:gQ p0 w R):Calls Tryz.prog 97 #[p0] w R:=
  calls_sh .leaf [p0] aw Tryz.func97 (by kernel_rfl) (by kernel_rfl) h


/- loop.example/prologserver/impl.hasCut : function 98 -/
def qC (p0:Value) (w:World) (R:Ending->World->Prop):Prop:=
 RR (sOp (.box 34 (.const p0)) 0) w fun a0 b0=>
 RR (sOp (.fieldAddr 34 (.const a0) 1) 0) b0 fun c0 d0=>
 RR (sOp (.load 30 (.const c0)) 30) d0 fun e0 f0=>
 RR (sCall (Value.func (.func 122) #[] #[]) [e0,(Value.func (.func 141) #[] #[])]) f0 fun g0 h0=>
 R (.returned g0) h0
theorem tz {p0:Value} {w:World} {R:Ending->World->Prop} (h:qC p0 w R):Calls Tryz.prog 98 #[p0] w R:=
  calls_sh .leaf [p0] aw Tryz.func98 (by kernel_rfl) (by kernel_rfl) h


/- slices.Contains[[]int,int] : function 99 -/
def fp (p0 p1:Value) (w:World) (R:Ending->World->Prop):Prop:=
 RR (sCall (Value.func (.func 135) #[] #[]) [p0,p1]) w fun a0 b0=>
 RR (sBin .geq 3 false true a0 (Value.int .i64 0)) b0 fun c0 d0=>
 R (.returned c0) d0
theorem jd {p0 p1:Value} {w:World} {R:Ending->World->Prop} (h:fp p0 p1 w R):Calls Tryz.prog 99 #[p0,p1] w R:=
  calls_sh .leaf [p0,p1] aw Tryz.func99 (by kernel_rfl) (by kernel_rfl) h


/- slices.ContainsFunc[[]int,int] : function 100 -/
def dl (p0 p1:Value) (w:World) (R:Ending->World->Prop):Prop:=
 RR (sCall (Value.func (.func 142) #[] #[]) [p0,p1]) w fun a0 b0=>
 RR (sBin .geq 3 false true a0 (Value.int .i64 0)) b0 fun c0 d0=>
 R (.returned c0) d0
theorem fE {p0 p1:Value} {w:World} {R:Ending->World->Prop} (h:dl p0 p1 w R):Calls Tryz.prog 100 #[p0,p1] w R:=
  calls_sh .leaf [p0,p1] aw Tryz.func100 (by kernel_rfl) (by kernel_rfl) h


/- loop.example/prologserver/impl.CanUnfold$1 : function 101 -/
def fQ (p0 p1:Value) (w:World) (R:Ending->World->Prop):Prop:=
 RR (sOp (.load 23 (.const p1)) 23) w fun a0 b0=>
 RR (sOp (.indexAddr 23 (.const a0) (.const p0)) 0) b0 fun c0 d0=>
 RR (sOp (.load 34 (.const c0)) 34) d0 fun e0 f0=>
 RR (sCall (Value.func (.func 98) #[] #[]) [e0]) f0 fun g0 h0=>
 R (.returned g0) h0
theorem kP {p0 p1:Value} {w:World} {R:Ending->World->Prop} (h:fQ p0 p1 w R):Calls Tryz.prog 101 #[p0,p1] w R:=
  calls_sh .leaf [p0,p1] aw Tryz.func101 (by kernel_rfl) (by kernel_rfl) h


/- loop.example/prologserver/impl.resolvent : function 102 -/
def jI (p0 p1:Value) (w:World) (R:Ending->World->Prop):Prop:=
 RR (sOp (.box 34 (.const p0)) 0) w fun a0 b0=>
 RR (sOp (.box 34 (.const p1)) 0) b0 fun c0 d0=>
 RR (sOp (.alloc 34) 0) d0 fun e0 f0=>
 RR (sCall (Value.func (.func 143) #[] #[]) []) f0 fun g0 h0=>
 (∃ i0:(Nat->Bool)->Value->Value->Value->Value->Value->Value->Value->Value->Value->Value->Value->World->Prop,i0 (fun _=>false) undef undef undef undef undef undef undef undef undef undef undef { h0 with drawn:=h0.drawn+1 }/\(
 (∀ j0:Nat->Bool,j0 0=false->∀ k0 l0 m0 n0 o0 q0 s0 t0 u0 v0 w0 x0,i0 j0 k0 l0 m0 n0 o0 q0 s0 t0 u0 v0 w0 x0->
 i0 (setD j0 0) k0 l0 m0 n0 o0 q0 s0 t0 u0 v0 g0 x0)/\
 (∀ j0:Nat->Bool,j0 1=false->∀ k0 l0 m0 n0 o0 q0 s0 t0 u0 v0 w0 y0,i0 j0 k0 l0 m0 n0 o0 q0 s0 t0 u0 v0 w0 y0->
 RR (sOp (.fieldAddr 34 (.const a0) 1) 0) y0 fun z0 A0=>
 i0 (setD j0 1) k0 l0 m0 n0 o0 q0 s0 t0 u0 z0 w0 A0)/\
 (∀ j0:Nat->Bool,j0 2=false->j0 1=true->∀ k0 l0 m0 n0 o0 q0 s0 t0 u0 v0 w0 B0,i0 j0 k0 l0 m0 n0 o0 q0 s0 t0 u0 v0 w0 B0->
 RR (sOp (.load 30 (.const v0)) 30) B0 fun C0 D0=>
 i0 (setD j0 2) k0 l0 m0 n0 o0 q0 s0 t0 C0 v0 w0 D0)/\
 (∀ j0:Nat->Bool,j0 3=false->j0 2=true->∀ k0 l0 m0 n0 o0 q0 s0 t0 u0 v0 w0 E0,i0 j0 k0 l0 m0 n0 o0 q0 s0 t0 u0 v0 w0 E0->
 RR (sOp (.indexAddr 30 (.const u0) (.const (Value.int .i64 0))) 0) E0 fun F0 G0=>
 i0 (setD j0 3) k0 l0 m0 n0 o0 q0 s0 F0 u0 v0 w0 G0)/\
 (∀ j0:Nat->Bool,j0 4=false->j0 3=true->∀ k0 l0 m0 n0 o0 q0 s0 t0 u0 v0 w0 H0,i0 j0 k0 l0 m0 n0 o0 q0 s0 t0 u0 v0 w0 H0->
 RR (sOp (.load 32 (.const t0)) 32) H0 fun I0 J0=>
 i0 (setD j0 4) k0 l0 m0 n0 o0 q0 I0 t0 u0 v0 w0 J0)/\
 (∀ j0:Nat->Bool,j0 5=false->∀ k0 l0 m0 n0 o0 q0 s0 t0 u0 v0 w0 K0,i0 j0 k0 l0 m0 n0 o0 q0 s0 t0 u0 v0 w0 K0->
 RR (sOp (.fieldAddr 34 (.const c0) 0) 0) K0 fun L0 M0=>
 i0 (setD j0 5) k0 l0 m0 n0 o0 L0 s0 t0 u0 v0 w0 M0)/\
 (∀ j0:Nat->Bool,j0 6=false->j0 5=true->∀ k0 l0 m0 n0 o0 q0 s0 t0 u0 v0 w0 N0,i0 j0 k0 l0 m0 n0 o0 q0 s0 t0 u0 v0 w0 N0->
 RR (sOp (.load 32 (.const q0)) 32) N0 fun O0 P0=>
 i0 (setD j0 6) k0 l0 m0 n0 O0 q0 s0 t0 u0 v0 w0 P0)/\
 (∀ j0:Nat->Bool,j0 7=false->∀ k0 l0 m0 n0 o0 q0 s0 t0 u0 v0 w0 Q0,i0 j0 k0 l0 m0 n0 o0 q0 s0 t0 u0 v0 w0 Q0->
 i0 (setD j0 7) k0 l0 m0 (Value.func (.func 144) #[] #[]) o0 q0 s0 t0 u0 v0 w0 Q0)/\
 (∀ j0:Nat->Bool,j0 8=false->j0 6=true->j0 7=true->∀ k0 l0 m0 n0 o0 q0 s0 t0 u0 v0 w0 S0,i0 j0 k0 l0 m0 n0 o0 q0 s0 t0 u0 v0 w0 S0->
 RR (sCall (Value.func (.func 132) #[] #[]) [o0,n0]) S0 fun T0 U0=>
 i0 (setD j0 8) k0 l0 T0 n0 o0 q0 s0 t0 u0 v0 w0 U0)/\
 (∀ j0:Nat->Bool,j0 9=false->j0 0=true->j0 4=true->j0 8=true->j0 8=true->∀ k0 l0 m0 n0 o0 q0 s0 t0 u0 v0 w0 V0,i0 j0 k0 l0 m0 n0 o0 q0 s0 t0 u0 v0 w0 V0->
 RR (sCall (Value.func (.func 145) #[] #[]) [w0,s0,m0]) V0 fun W0 X0=>
 i0 (setD j0 9) k0 W0 m0 n0 o0 q0 s0 t0 u0 v0 w0 X0)/\
 (∀ j0:Nat->Bool,j0 10=false->j0 9=true->∀ k0 l0 m0 n0 o0 q0 s0 t0 u0 v0 w0 Y0,i0 j0 k0 l0 m0 n0 o0 q0 s0 t0 u0 v0 w0 Y0->
 RR (sOp (.unOp .not 4 (.const l0)) 4) Y0 fun Z0 a1=>
 i0 (setD j0 10) Z0 l0 m0 n0 o0 q0 s0 t0 u0 v0 w0 a1)/\
 True)/\
 ∀ j0:Nat->Bool,j0 10=true->j0 9=true->j0 8=true->j0 7=true->j0 6=true->j0 5=true->j0 4=true->j0 3=true->j0 2=true->j0 1=true->j0 0=true->∀ k0 l0 m0 n0 o0 q0 s0 t0 u0 v0 w0 b1,i0 j0 k0 l0 m0 n0 o0 q0 s0 t0 u0 v0 w0 b1->
 CondV k0 (
 RR (sBuild 34 []) b1 fun c1 d1=>
 RR (sOp (.store 34 (.const e0) (.const c1)) 0) d1 fun _u e1=>
 (LoadV Tryz.prog 34 e0 e1 fun r0=>R (.returned (.tuple #[r0,(Value.bool false),(Value.bool false)])) e1)) (
 RR (sOp (.fieldAddr 34 (.const a0) 0) 0) b1 fun f1 g1=>
 RR (sOp (.load 32 (.const f1)) 32) g1 fun h1 i1=>
 RR (sBuildSlice 30 1 [(0,h1)]) i1 fun j1 k1=>
 RR (sOp (.fieldAddr 34 (.const c0) 1) 0) k1 fun l1 m1=>
 RR (sOp (.load 30 (.const l1)) 30) m1 fun n1 o1=>
 RR (sBuiltin .len #[30] 3 [false] [n1]) o1 fun q1 s1=>
 (∃ (t1:Value->Value->World->Prop) (u1:Value->Value->World->Nat),t1 (Value.int .i64 0) j1 s1/\
 ∀ v1 _ w1 _ _ _ _ _ _ _ _ _ _:Value,∀ x1:World,t1 v1 w1 x1->
 RR (sBin .lss 3 false false v1 q1) x1 fun y1 z1=>
 CondV y1 (
 RR (sOp (.indexAddr 30 (.const n1) (.const v1)) 0) z1 fun A1 B1=>
 RR (sOp (.load 32 (.const A1)) 32) B1 fun C1 D1=>
 RR (sOp (.alloc 32) 0) D1 fun E1 F1=>
 RR (sOp (.store 32 (.const E1) (.const C1)) 0) F1 fun _u G1=>
 RR (sOp (.load 32 (.const E1)) 32) G1 fun H1 I1=>
 RR (sCall (Value.func (.func 132) #[] #[]) [H1,(Value.func (.func 144) #[] #[])]) I1 fun J1 K1=>
 RR (sBuildSlice 30 1 [(0,J1)]) K1 fun L1 M1=>
 RR (sBuiltin .append #[30,30] 30 [false,false] [w1,L1]) M1 fun N1 O1=>
 RR (sBin .add 3 false true v1 (Value.int .i64 1)) O1 fun P1 Q1=>
 t1 P1 N1 Q1/\u1 P1 N1 Q1<u1 v1 w1 x1) (
 RR (sOp (.fieldAddr 34 (.const a0) 1) 0) z1 fun S1 T1=>
 RR (sOp (.load 30 (.const S1)) 30) T1 fun U1 V1=>
 RR (sOp (.slice 30 (.const U1) (some (.const (Value.int .i64 1))) none none) 30) V1 fun W1 X1=>
 RR (sBuiltin .append #[30,30] 30 [false,false] [w1,W1]) X1 fun Y1 Z1=>
 RR (sBuiltin .len #[30] 3 [false] [Y1]) Z1 fun a2 b2=>
 (∃ (c2:Value->World->Prop) (d2:Value->World->Nat),c2 (Value.int .i64 0) b2/\
 ∀ e2 _ _ _ _ _ f2 g2 _ _ _ _ _ _ _ _ _ _ _ _ _ _ _ _ _:Value,∀ h2:World,c2 e2 h2->
 RR (sBin .lss 3 false false e2 a2) h2 fun i2 j2=>
 CondV i2 (
 RR (sOp (.indexAddr 30 (.const Y1) (.const e2)) 0) j2 fun k2 l2=>
 RR (sOp (.load 32 (.const k2)) 32) l2 fun m2 n2=>
 RR (sOp (.alloc 32) 0) n2 fun o2 q2=>
 RR (sOp (.store 32 (.const o2) (.const m2)) 0) q2 fun _u s2=>
 RR (sOp (.load 32 (.const o2)) 32) s2 fun t2 u2=>
 RR (sCall (Value.func (.func 146) #[] #[]) [g0,t2]) u2 fun v2 w2=>
 RR (sOp (.extract (.const v2) 0) 32) w2 fun x2 y2=>
 RR (sOp (.extract (.const v2) 1) 4) y2 fun z2 A2=>
 RR (sOp (.alloc 32) 0) A2 fun B2 C2=>
 RR (sOp (.store 32 (.const B2) (.const x2)) 0) C2 fun _u D2=>
 RR (sOp (.unOp .not 4 (.const z2)) 4) D2 fun E2 F2=>
 CondV E2 (
 RR (sBuild 34 []) F2 fun G2 H2=>
 RR (sOp (.store 34 (.const e0) (.const G2)) 0) H2 fun _u I2=>
 (LoadV Tryz.prog 34 e0 I2 fun r0=>R (.returned (.tuple #[r0,(Value.bool true),(Value.bool false)])) I2)) (
 RR (sOp (.load 32 (.const B2)) 32) F2 fun J2 K2=>
 RR (sOp (.indexAddr 30 (.const Y1) (.const e2)) 0) K2 fun L2 M2=>
 RR (sOp (.store 32 (.const L2) (.const J2)) 0) M2 fun _u N2=>
 RR (sBin .add 3 false true e2 (Value.int .i64 1)) N2 fun O2 P2=>
 c2 O2 P2/\d2 O2 P2<d2 e2 h2)) (
 (∃ Q2:(Nat->Bool)->Value->Value->Value->Value->Value->Value->Value->World->Prop,Q2 (fun _=>false) undef undef undef undef undef undef undef { j2 with drawn:=j2.drawn+1 }/\(
 (∀ S2:Nat->Bool,S2 0=false->∀ T2 U2 V2 W2 X2 Y2 Z2 a3,Q2 S2 T2 U2 V2 W2 X2 Y2 Z2 a3->
 Q2 (setD S2 0) T2 U2 V2 W2 X2 Y2 Y1 a3)/\
 (∀ S2:Nat->Bool,S2 1=false->S2 0=true->∀ T2 U2 V2 W2 X2 Y2 Z2 b3,Q2 S2 T2 U2 V2 W2 X2 Y2 Z2 b3->
 RR (sOp (.indexAddr 30 (.const Z2) (.const (Value.int .i64 0))) 0) b3 fun c3 d3=>
 Q2 (setD S2 1) T2 U2 V2 W2 X2 c3 Z2 d3)/\
 (∀ S2:Nat->Bool,S2 2=false->S2 1=true->∀ T2 U2 V2 W2 X2 Y2 Z2 e3,Q2 S2 T2 U2 V2 W2 X2 Y2 Z2 e3->
 RR (sOp (.load 32 (.const Y2)) 32) e3 fun f3 g3=>
 Q2 (setD S2 2) T2 U2 V2 W2 f3 Y2 Z2 g3)/\
 (∀ S2:Nat->Bool,S2 3=false->∀ T2 U2 V2 W2 X2 Y2 Z2 h3,Q2 S2 T2 U2 V2 W2 X2 Y2 Z2 h3->
 Q2 (setD S2 3) T2 U2 V2 Y1 X2 Y2 Z2 h3)/\
 (∀ S2:Nat->Bool,S2 4=false->S2 3=true->∀ T2 U2 V2 W2 X2 Y2 Z2 i3,Q2 S2 T2 U2 V2 W2 X2 Y2 Z2 i3->
 RR (sOp (.slice 30 (.const W2) (some (.const (Value.int .i64 1))) none none) 30) i3 fun j3 k3=>
 Q2 (setD S2 4) T2 U2 j3 W2 X2 Y2 Z2 k3)/\
 (∀ S2:Nat->Bool,S2 5=false->S2 2=true->S2 4=true->∀ T2 U2 V2 W2 X2 Y2 Z2 l3,Q2 S2 T2 U2 V2 W2 X2 Y2 Z2 l3->
 RR (sBuild 34 [(0,X2),(1,V2)]) l3 fun m3 n3=>
 Q2 (setD S2 5) T2 m3 V2 W2 X2 Y2 Z2 n3)/\
 (∀ S2:Nat->Bool,S2 6=false->S2 5=true->∀ T2 U2 V2 W2 X2 Y2 Z2 o3,Q2 S2 T2 U2 V2 W2 X2 Y2 Z2 o3->
 RR (sCall (Value.func (.func 82) #[] #[]) [U2]) o3 fun q3 s3=>
 Q2 (setD S2 6) q3 U2 V2 W2 X2 Y2 Z2 s3)/\
 (∀ S2:Nat->Bool,S2 7=false->S2 6=true->S2 6=true->S2 0=true->S2 1=true->S2 2=true->S2 3=true->S2 4=true->S2 5=true->S2 6=true->∀ T2 U2 V2 W2 X2 Y2 Z2 t3,Q2 S2 T2 U2 V2 W2 X2 Y2 Z2 t3->
 RR (sOp (.store 34 (.const e0) (.const T2)) 0) t3 fun _u u3=>
 Q2 (setD S2 7) T2 U2 V2 W2 X2 Y2 Z2 u3)/\
 True)/\
 ∀ S2:Nat->Bool,S2 7=true->S2 6=true->S2 5=true->S2 4=true->S2 3=true->S2 2=true->S2 1=true->S2 0=true->∀ T2 U2 V2 W2 X2 Y2 Z2 v3,Q2 S2 T2 U2 V2 W2 X2 Y2 Z2 v3->
 (∃ w3:(Nat->Bool)->Value->Value->Value->Value->Value->Value->World->Prop,w3 (fun _=>false) f2 g2 undef undef undef undef { v3 with drawn:=v3.drawn+1 }/\(
 (∀ x3:Nat->Bool,x3 0=false->∀ y3 z3 A3 B3 C3 D3 E3,w3 x3 y3 z3 A3 B3 C3 D3 E3->
 RR (sOp (.load 34 (.const e0)) 34) E3 fun F3 G3=>
 w3 (setD x3 0) y3 z3 A3 B3 C3 F3 G3)/\
 (∀ x3:Nat->Bool,x3 1=false->x3 0=true->∀ y3 z3 A3 B3 C3 D3 H3,w3 x3 y3 z3 A3 B3 C3 D3 H3->
 RR (sCall (Value.func (.func 81) #[] #[]) [D3]) H3 fun I3 J3=>
 w3 (setD x3 1) y3 z3 A3 B3 I3 D3 J3)/\
 (∀ x3:Nat->Bool,x3 2=false->∀ y3 z3 A3 B3 C3 D3 K3,w3 x3 y3 z3 A3 B3 C3 D3 K3->
 RR (sOp (.load 34 (.const e0)) 34) K3 fun L3 M3=>
 w3 (setD x3 2) y3 z3 A3 L3 C3 D3 M3)/\
 (∀ x3:Nat->Bool,x3 3=false->x3 2=true->x3 1=true->∀ y3 z3 A3 B3 C3 D3 N3,w3 x3 y3 z3 A3 B3 C3 D3 N3->
 RR (sCall (Value.func (.func 22) #[] #[]) [B3]) N3 fun O3 P3=>
 w3 (setD x3 3) y3 z3 O3 B3 C3 D3 P3)/\
 (∀ x3:Nat->Bool,x3 4=false->x3 1=true->x3 3=true->x3 0=true->x3 1=true->x3 2=true->∀ y3 z3 A3 B3 C3 D3 Q3,w3 x3 y3 z3 A3 B3 C3 D3 Q3->
 RR (sOp (.store 34 (.const e0) (.const C3)) 0) Q3 fun _ S3=>
 w3 (setD x3 4) y3 z3 A3 B3 C3 D3 S3)/\
 (∀ x3:Nat->Bool,x3 5=false->x3 4=true->x3 0=true->x3 1=true->x3 2=true->x3 4=true->∀ y3 z3 A3 B3 C3 D3 T3,w3 x3 y3 z3 A3 B3 C3 D3 T3->
 w3 (setD x3 5) y3 (Value.bool true) A3 B3 C3 D3 T3)/\
 (∀ x3:Nat->Bool,x3 6=false->x3 3=true->x3 5=true->x3 0=true->x3 1=true->x3 2=true->x3 3=true->x3 4=true->x3 5=true->∀ y3 z3 A3 B3 C3 D3 U3,w3 x3 y3 z3 A3 B3 C3 D3 U3->
 w3 (setD x3 6) A3 z3 A3 B3 C3 D3 U3)/\
 True)/\
 ∀ x3:Nat->Bool,x3 6=true->x3 5=true->x3 4=true->x3 3=true->x3 2=true->x3 1=true->x3 0=true->∀ y3 z3 A3 B3 C3 D3 V3,w3 x3 y3 z3 A3 B3 C3 D3 V3->
 (LoadV Tryz.prog 34 e0 V3 fun r0=>R (.returned (.tuple #[r0,z3,y3])) V3)))))))))
theorem nC {p0 p1:Value} {w:World} {R:Ending->World->Prop} (h:jI p0 p1 w R):Calls Tryz.prog 102 #[p0,p1] w R:=
  calls_sh (.seq none .leaf (.seq none .leaf (.seq none .leaf (.seq none .leaf (.seq none .leaf (.seq none (.seq none .leaf (.one (.loop [35,9] .leaf))) (.seq none .leaf (.seq none (.seq none .leaf (.one (.loop [53] .leaf))) .leaf)))))))) [p0,p1] aw Tryz.func102 (by kernel_rfl) (by kernel_rfl) h


/- loop.example/prologserver/spec.l15First : function 103 -/
def lI (p0:Value) (w:World) (R:Ending->World->Prop):Prop:=
 RR (sOp (.box 34 (.const p0)) 0) w fun a0 b0=>
 RR (sOp (.fieldAddr 34 (.const a0) 1) 0) b0 fun c0 d0=>
 RR (sOp (.load 30 (.const c0)) 30) d0 fun e0 f0=>
 RR (sBuiltin .len #[30] 3 [false] [e0]) f0 fun g0 h0=>
 RR (sBin .gtr 3 false true g0 (Value.int .i64 0)) h0 fun i0 j0=>
 GuardV i0 true (
 RR (sOp (.fieldAddr 34 (.const a0) 1) 0) j0 fun k0 l0=>
 RR (sOp (.load 30 (.const k0)) 30) l0 fun m0 n0=>
 RR (sOp (.indexAddr 30 (.const m0) (.const (Value.int .i64 0))) 0) n0 fun o0 q0=>
 RR (sOp (.load 32 (.const o0)) 32) q0 fun s0 t0=>
 RR (sCall (Value.func (.func 116) #[] #[]) [s0]) t0 fun u0 v0=>
 RR (sOp (.pick (.const i0) (.const u0) (.const (Value.bool false))) 4) v0 fun w0 x0=>
 R (.returned w0) x0) (
 RR (sOp (.pick (.const i0) (.const undef) (.const (Value.bool false))) 4) j0 fun y0 z0=>
 R (.returned y0) z0)
theorem px {p0:Value} {w:World} {R:Ending->World->Prop} (h:lI p0 w R):Calls Tryz.prog 103 #[p0] w R:=
  calls_sh .leaf [p0] aw Tryz.func103 (by kernel_rfl) (by kernel_rfl) h


/- loop.example/prologserver/spec.l4For : function 104 -/
def sd (p0 p1:Value) (w:World) (R:Ending->World->Prop):Prop:=
 RR (sOp (.box 32 (.const p1)) 0) w fun a0 b0=>
 RR (sBuildSlice 63 0 []) b0 fun c0 d0=>
 (∃ (e0:Value->Value->World->Prop) (f0:Value->Value->World->Nat),e0 (Value.int .i64 0) c0 d0/\
 ∀ g0 _ _ h0 _ _ _ _ i0 j0 k0 l0 m0 n0 o0 q0 s0 t0 u0 v0 w0 x0 y0 z0 A0 B0 C0 D0 E0 F0 _ _ _ _:Value,∀ G0:World,e0 g0 h0 G0->
 RR (sBuiltin .len #[23] 3 [false] [p0]) G0 fun H0 I0=>
 RR (sBin .lss 3 false false g0 H0) I0 fun J0 K0=>
 CondV J0 (
 (∃ L0:Value->World->Prop,(
 (∃ M0:(Nat->Bool)->Value->Value->Value->Value->Value->Value->Value->Value->Value->Value->Value->Value->Value->Value->Value->Value->Value->Value->Value->Value->Value->Value->World->Prop,M0 (fun _=>false) i0 j0 k0 l0 m0 n0 o0 q0 s0 t0 u0 v0 w0 x0 y0 z0 A0 B0 C0 D0 E0 F0 { K0 with drawn:=K0.drawn+1 }/\(
 (∀ N0:Nat->Bool,N0 0=false->∀ O0 P0 Q0 S0 T0 U0 V0 W0 X0 Y0 Z0 a1 b1 c1 d1 e1 f1 g1 h1 i1 j1 k1 l1,M0 N0 O0 P0 Q0 S0 T0 U0 V0 W0 X0 Y0 Z0 a1 b1 c1 d1 e1 f1 g1 h1 i1 j1 k1 l1->
 M0 (setD N0 0) O0 P0 Q0 S0 T0 U0 V0 W0 X0 Y0 Z0 a1 b1 c1 d1 e1 f1 g1 h1 i1 j1 p0 l1)/\
 (∀ N0:Nat->Bool,N0 1=false->∀ O0 P0 Q0 S0 T0 U0 V0 W0 X0 Y0 Z0 a1 b1 c1 d1 e1 f1 g1 h1 i1 j1 k1 m1,M0 N0 O0 P0 Q0 S0 T0 U0 V0 W0 X0 Y0 Z0 a1 b1 c1 d1 e1 f1 g1 h1 i1 j1 k1 m1->
 M0 (setD N0 1) O0 P0 Q0 S0 T0 U0 V0 W0 X0 Y0 Z0 a1 b1 c1 d1 e1 f1 g1 h1 i1 g0 k1 m1)/\
 (∀ N0:Nat->Bool,N0 2=false->N0 0=true->N0 1=true->∀ O0 P0 Q0 S0 T0 U0 V0 W0 X0 Y0 Z0 a1 b1 c1 d1 e1 f1 g1 h1 i1 j1 k1 n1,M0 N0 O0 P0 Q0 S0 T0 U0 V0 W0 X0 Y0 Z0 a1 b1 c1 d1 e1 f1 g1 h1 i1 j1 k1 n1->
 RR (sOp (.indexAddr 23 (.const k1) (.const j1)) 0) n1 fun o1 q1=>
 M0 (setD N0 2) O0 P0 Q0 S0 T0 U0 V0 W0 X0 Y0 Z0 a1 b1 c1 d1 e1 f1 g1 h1 o1 j1 k1 q1)/\
 (∀ N0:Nat->Bool,N0 3=false->N0 2=true->∀ O0 P0 Q0 S0 T0 U0 V0 W0 X0 Y0 Z0 a1 b1 c1 d1 e1 f1 g1 h1 i1 j1 k1 s1,M0 N0 O0 P0 Q0 S0 T0 U0 V0 W0 X0 Y0 Z0 a1 b1 c1 d1 e1 f1 g1 h1 i1 j1 k1 s1->
 RR (sOp (.fieldAddr 34 (.const i1) 0) 0) s1 fun t1 u1=>
 M0 (setD N0 3) O0 P0 Q0 S0 T0 U0 V0 W0 X0 Y0 Z0 a1 b1 c1 d1 e1 f1 g1 t1 i1 j1 k1 u1)/\
 (∀ N0:Nat->Bool,N0 4=false->N0 3=true->∀ O0 P0 Q0 S0 T0 U0 V0 W0 X0 Y0 Z0 a1 b1 c1 d1 e1 f1 g1 h1 i1 j1 k1 v1,M0 N0 O0 P0 Q0 S0 T0 U0 V0 W0 X0 Y0 Z0 a1 b1 c1 d1 e1 f1 g1 h1 i1 j1 k1 v1->
 RR (sOp (.fieldAddr 32 (.const h1) 2) 0) v1 fun w1 x1=>
 M0 (setD N0 4) O0 P0 Q0 S0 T0 U0 V0 W0 X0 Y0 Z0 a1 b1 c1 d1 e1 f1 w1 h1 i1 j1 k1 x1)/\
 (∀ N0:Nat->Bool,N0 5=false->N0 4=true->∀ O0 P0 Q0 S0 T0 U0 V0 W0 X0 Y0 Z0 a1 b1 c1 d1 e1 f1 g1 h1 i1 j1 k1 y1,M0 N0 O0 P0 Q0 S0 T0 U0 V0 W0 X0 Y0 Z0 a1 b1 c1 d1 e1 f1 g1 h1 i1 j1 k1 y1->
 RR (sOp (.load 9 (.const g1)) 9) y1 fun z1 A1=>
 M0 (setD N0 5) O0 P0 Q0 S0 T0 U0 V0 W0 X0 Y0 Z0 a1 b1 c1 d1 e1 z1 g1 h1 i1 j1 k1 A1)/\
 (∀ N0:Nat->Bool,N0 6=false->∀ O0 P0 Q0 S0 T0 U0 V0 W0 X0 Y0 Z0 a1 b1 c1 d1 e1 f1 g1 h1 i1 j1 k1 B1,M0 N0 O0 P0 Q0 S0 T0 U0 V0 W0 X0 Y0 Z0 a1 b1 c1 d1 e1 f1 g1 h1 i1 j1 k1 B1->
 RR (sOp (.fieldAddr 32 (.const a0) 2) 0) B1 fun C1 D1=>
 M0 (setD N0 6) O0 P0 Q0 S0 T0 U0 V0 W0 X0 Y0 Z0 a1 b1 c1 d1 C1 f1 g1 h1 i1 j1 k1 D1)/\
 (∀ N0:Nat->Bool,N0 7=false->N0 6=true->∀ O0 P0 Q0 S0 T0 U0 V0 W0 X0 Y0 Z0 a1 b1 c1 d1 e1 f1 g1 h1 i1 j1 k1 E1,M0 N0 O0 P0 Q0 S0 T0 U0 V0 W0 X0 Y0 Z0 a1 b1 c1 d1 e1 f1 g1 h1 i1 j1 k1 E1->
 RR (sOp (.load 9 (.const e1)) 9) E1 fun F1 G1=>
 M0 (setD N0 7) O0 P0 Q0 S0 T0 U0 V0 W0 X0 Y0 Z0 a1 b1 c1 F1 e1 f1 g1 h1 i1 j1 k1 G1)/\
 (∀ N0:Nat->Bool,N0 8=false->N0 5=true->N0 7=true->∀ O0 P0 Q0 S0 T0 U0 V0 W0 X0 Y0 Z0 a1 b1 c1 d1 e1 f1 g1 h1 i1 j1 k1 H1,M0 N0 O0 P0 Q0 S0 T0 U0 V0 W0 X0 Y0 Z0 a1 b1 c1 d1 e1 f1 g1 h1 i1 j1 k1 H1->
 RR (sBin .eql 9 false false f1 d1) H1 fun I1 J1=>
 M0 (setD N0 8) O0 P0 Q0 S0 T0 U0 V0 W0 X0 Y0 Z0 a1 b1 I1 d1 e1 f1 g1 h1 i1 j1 k1 J1)/\
 (∀ N0:Nat->Bool,N0 9=false->N0 8=true->∀ O0 P0 Q0 S0 T0 U0 V0 W0 X0 Y0 Z0 a1 b1 c1 d1 e1 f1 g1 h1 i1 j1 k1 K1,M0 N0 O0 P0 Q0 S0 T0 U0 V0 W0 X0 Y0 Z0 a1 b1 c1 d1 e1 f1 g1 h1 i1 j1 k1 K1->
 M0 (setD N0 9) O0 P0 Q0 S0 T0 U0 V0 W0 X0 Y0 Z0 a1 c1 c1 d1 e1 f1 g1 h1 i1 j1 k1 K1)/\
 (∀ N0:Nat->Bool,N0 10=false->N0 9=true->∀ O0 P0 Q0 S0 T0 U0 V0 W0 X0 Y0 Z0 a1 b1 c1 d1 e1 f1 g1 h1 i1 j1 k1 L1,M0 N0 O0 P0 Q0 S0 T0 U0 V0 W0 X0 Y0 Z0 a1 b1 c1 d1 e1 f1 g1 h1 i1 j1 k1 L1->
 GuardV b1 true (M0 (setD N0 10) O0 P0 Q0 S0 T0 U0 V0 W0 X0 Y0 Z0 p0 b1 c1 d1 e1 f1 g1 h1 i1 j1 k1 L1) (M0 (setD N0 10) O0 P0 Q0 S0 T0 U0 V0 W0 X0 Y0 Z0 undef b1 c1 d1 e1 f1 g1 h1 i1 j1 k1 L1))/\
 (∀ N0:Nat->Bool,N0 11=false->N0 9=true->∀ O0 P0 Q0 S0 T0 U0 V0 W0 X0 Y0 Z0 a1 b1 c1 d1 e1 f1 g1 h1 i1 j1 k1 M1,M0 N0 O0 P0 Q0 S0 T0 U0 V0 W0 X0 Y0 Z0 a1 b1 c1 d1 e1 f1 g1 h1 i1 j1 k1 M1->
 GuardV b1 true (M0 (setD N0 11) O0 P0 Q0 S0 T0 U0 V0 W0 X0 Y0 g0 a1 b1 c1 d1 e1 f1 g1 h1 i1 j1 k1 M1) (M0 (setD N0 11) O0 P0 Q0 S0 T0 U0 V0 W0 X0 Y0 undef a1 b1 c1 d1 e1 f1 g1 h1 i1 j1 k1 M1))/\
 (∀ N0:Nat->Bool,N0 12=false->N0 10=true->N0 11=true->N0 9=true->∀ O0 P0 Q0 S0 T0 U0 V0 W0 X0 Y0 Z0 a1 b1 c1 d1 e1 f1 g1 h1 i1 j1 k1 N1,M0 N0 O0 P0 Q0 S0 T0 U0 V0 W0 X0 Y0 Z0 a1 b1 c1 d1 e1 f1 g1 h1 i1 j1 k1 N1->
 GuardV b1 true (RR (sOp (.indexAddr 23 (.const a1) (.const Z0)) 0) N1 fun O1 P1=>
 M0 (setD N0 12) O0 P0 Q0 S0 T0 U0 V0 W0 X0 O1 Z0 a1 b1 c1 d1 e1 f1 g1 h1 i1 j1 k1 P1) (M0 (setD N0 12) O0 P0 Q0 S0 T0 U0 V0 W0 X0 undef Z0 a1 b1 c1 d1 e1 f1 g1 h1 i1 j1 k1 N1))/\
 (∀ N0:Nat->Bool,N0 13=false->N0 12=true->N0 9=true->∀ O0 P0 Q0 S0 T0 U0 V0 W0 X0 Y0 Z0 a1 b1 c1 d1 e1 f1 g1 h1 i1 j1 k1 Q1,M0 N0 O0 P0 Q0 S0 T0 U0 V0 W0 X0 Y0 Z0 a1 b1 c1 d1 e1 f1 g1 h1 i1 j1 k1 Q1->
 GuardV b1 true (RR (sOp (.fieldAddr 34 (.const Y0) 0) 0) Q1 fun S1 T1=>
 M0 (setD N0 13) O0 P0 Q0 S0 T0 U0 V0 W0 S1 Y0 Z0 a1 b1 c1 d1 e1 f1 g1 h1 i1 j1 k1 T1) (M0 (setD N0 13) O0 P0 Q0 S0 T0 U0 V0 W0 undef Y0 Z0 a1 b1 c1 d1 e1 f1 g1 h1 i1 j1 k1 Q1))/\
 (∀ N0:Nat->Bool,N0 14=false->N0 13=true->N0 9=true->∀ O0 P0 Q0 S0 T0 U0 V0 W0 X0 Y0 Z0 a1 b1 c1 d1 e1 f1 g1 h1 i1 j1 k1 U1,M0 N0 O0 P0 Q0 S0 T0 U0 V0 W0 X0 Y0 Z0 a1 b1 c1 d1 e1 f1 g1 h1 i1 j1 k1 U1->
 GuardV b1 true (RR (sOp (.fieldAddr 32 (.const X0) 3) 0) U1 fun V1 W1=>
 M0 (setD N0 14) O0 P0 Q0 S0 T0 U0 V0 V1 X0 Y0 Z0 a1 b1 c1 d1 e1 f1 g1 h1 i1 j1 k1 W1) (M0 (setD N0 14) O0 P0 Q0 S0 T0 U0 V0 undef X0 Y0 Z0 a1 b1 c1 d1 e1 f1 g1 h1 i1 j1 k1 U1))/\
 (∀ N0:Nat->Bool,N0 15=false->N0 14=true->N0 9=true->∀ O0 P0 Q0 S0 T0 U0 V0 W0 X0 Y0 Z0 a1 b1 c1 d1 e1 f1 g1 h1 i1 j1 k1 X1,M0 N0 O0 P0 Q0 S0 T0 U0 V0 W0 X0 Y0 Z0 a1 b1 c1 d1 e1 f1 g1 h1 i1 j1 k1 X1->
 GuardV b1 true (RR (sOp (.load 30 (.const W0)) 30) X1 fun Y1 Z1=>
 M0 (setD N0 15) O0 P0 Q0 S0 T0 U0 Y1 W0 X0 Y0 Z0 a1 b1 c1 d1 e1 f1 g1 h1 i1 j1 k1 Z1) (M0 (setD N0 15) O0 P0 Q0 S0 T0 U0 undef W0 X0 Y0 Z0 a1 b1 c1 d1 e1 f1 g1 h1 i1 j1 k1 X1))/\
 (∀ N0:Nat->Bool,N0 16=false->N0 15=true->N0 9=true->∀ O0 P0 Q0 S0 T0 U0 V0 W0 X0 Y0 Z0 a1 b1 c1 d1 e1 f1 g1 h1 i1 j1 k1 a2,M0 N0 O0 P0 Q0 S0 T0 U0 V0 W0 X0 Y0 Z0 a1 b1 c1 d1 e1 f1 g1 h1 i1 j1 k1 a2->
 GuardV b1 true (RR (sBuiltin .len #[30] 3 [false] [V0]) a2 fun b2 c2=>
 M0 (setD N0 16) O0 P0 Q0 S0 T0 b2 V0 W0 X0 Y0 Z0 a1 b1 c1 d1 e1 f1 g1 h1 i1 j1 k1 c2) (M0 (setD N0 16) O0 P0 Q0 S0 T0 undef V0 W0 X0 Y0 Z0 a1 b1 c1 d1 e1 f1 g1 h1 i1 j1 k1 a2))/\
 (∀ N0:Nat->Bool,N0 17=false->N0 9=true->∀ O0 P0 Q0 S0 T0 U0 V0 W0 X0 Y0 Z0 a1 b1 c1 d1 e1 f1 g1 h1 i1 j1 k1 d2,M0 N0 O0 P0 Q0 S0 T0 U0 V0 W0 X0 Y0 Z0 a1 b1 c1 d1 e1 f1 g1 h1 i1 j1 k1 d2->
 GuardV b1 true (RR (sOp (.fieldAddr 32 (.const a0) 3) 0) d2 fun e2 f2=>
 M0 (setD N0 17) O0 P0 Q0 S0 e2 U0 V0 W0 X0 Y0 Z0 a1 b1 c1 d1 e1 f1 g1 h1 i1 j1 k1 f2) (M0 (setD N0 17) O0 P0 Q0 S0 undef U0 V0 W0 X0 Y0 Z0 a1 b1 c1 d1 e1 f1 g1 h1 i1 j1 k1 d2))/\
 (∀ N0:Nat->Bool,N0 18=false->N0 17=true->N0 9=true->∀ O0 P0 Q0 S0 T0 U0 V0 W0 X0 Y0 Z0 a1 b1 c1 d1 e1 f1 g1 h1 i1 j1 k1 g2,M0 N0 O0 P0 Q0 S0 T0 U0 V0 W0 X0 Y0 Z0 a1 b1 c1 d1 e1 f1 g1 h1 i1 j1 k1 g2->
 GuardV b1 true (RR (sOp (.load 30 (.const T0)) 30) g2 fun h2 i2=>
 M0 (setD N0 18) O0 P0 Q0 h2 T0 U0 V0 W0 X0 Y0 Z0 a1 b1 c1 d1 e1 f1 g1 h1 i1 j1 k1 i2) (M0 (setD N0 18) O0 P0 Q0 undef T0 U0 V0 W0 X0 Y0 Z0 a1 b1 c1 d1 e1 f1 g1 h1 i1 j1 k1 g2))/\
 (∀ N0:Nat->Bool,N0 19=false->N0 18=true->N0 9=true->∀ O0 P0 Q0 S0 T0 U0 V0 W0 X0 Y0 Z0 a1 b1 c1 d1 e1 f1 g1 h1 i1 j1 k1 j2,M0 N0 O0 P0 Q0 S0 T0 U0 V0 W0 X0 Y0 Z0 a1 b1 c1 d1 e1 f1 g1 h1 i1 j1 k1 j2->
 GuardV b1 true (RR (sBuiltin .len #[30] 3 [false] [S0]) j2 fun k2 l2=>
 M0 (setD N0 19) O0 P0 k2 S0 T0 U0 V0 W0 X0 Y0 Z0 a1 b1 c1 d1 e1 f1 g1 h1 i1 j1 k1 l2) (M0 (setD N0 19) O0 P0 undef S0 T0 U0 V0 W0 X0 Y0 Z0 a1 b1 c1 d1 e1 f1 g1 h1 i1 j1 k1 j2))/\
 (∀ N0:Nat->Bool,N0 20=false->N0 16=true->N0 19=true->N0 9=true->∀ O0 P0 Q0 S0 T0 U0 V0 W0 X0 Y0 Z0 a1 b1 c1 d1 e1 f1 g1 h1 i1 j1 k1 m2,M0 N0 O0 P0 Q0 S0 T0 U0 V0 W0 X0 Y0 Z0 a1 b1 c1 d1 e1 f1 g1 h1 i1 j1 k1 m2->
 GuardV b1 true (RR (sBin .eql 3 false false U0 Q0) m2 fun n2 o2=>
 M0 (setD N0 20) O0 n2 Q0 S0 T0 U0 V0 W0 X0 Y0 Z0 a1 b1 c1 d1 e1 f1 g1 h1 i1 j1 k1 o2) (M0 (setD N0 20) O0 undef Q0 S0 T0 U0 V0 W0 X0 Y0 Z0 a1 b1 c1 d1 e1 f1 g1 h1 i1 j1 k1 m2))/\
 (∀ N0:Nat->Bool,N0 21=false->N0 9=true->N0 20=true->∀ O0 P0 Q0 S0 T0 U0 V0 W0 X0 Y0 Z0 a1 b1 c1 d1 e1 f1 g1 h1 i1 j1 k1 q2,M0 N0 O0 P0 Q0 S0 T0 U0 V0 W0 X0 Y0 Z0 a1 b1 c1 d1 e1 f1 g1 h1 i1 j1 k1 q2->
 RR (sOp (.pick (.const b1) (.const P0) (.const (Value.bool false))) 4) q2 fun s2 t2=>
 M0 (setD N0 21) s2 P0 Q0 S0 T0 U0 V0 W0 X0 Y0 Z0 a1 b1 c1 d1 e1 f1 g1 h1 i1 j1 k1 t2)/\
 True)/\
 ∀ N0:Nat->Bool,N0 21=true->N0 20=true->N0 19=true->N0 18=true->N0 17=true->N0 16=true->N0 15=true->N0 14=true->N0 13=true->N0 12=true->N0 11=true->N0 10=true->N0 9=true->N0 8=true->N0 7=true->N0 6=true->N0 5=true->N0 4=true->N0 3=true->N0 2=true->N0 1=true->N0 0=true->∀ O0 P0 Q0 S0 T0 U0 V0 W0 X0 Y0 Z0 a1 b1 c1 d1 e1 f1 g1 h1 i1 j1 k1 u2,M0 N0 O0 P0 Q0 S0 T0 U0 V0 W0 X0 Y0 Z0 a1 b1 c1 d1 e1 f1 g1 h1 i1 j1 k1 u2->
 CondV O0 (
 RR (sBuildSlice 63 1 [(0,g0)]) u2 fun v2 w2=>
 RR (sBuiltin .append #[63,63] 63 [false,false] [h0,v2]) w2 fun x2 y2=>
 L0 x2 y2) (
 L0 h0 u2)))/\
 ∀ z2 _ _ _ _ _ _ _ _ _ _ _ _ _ _ _ _ _ _ _ _ _ _ _ _ _ _:Value,∀ A2:World,L0 z2 A2->
 RR (sBin .add 3 false true g0 (Value.int .i64 1)) A2 fun B2 C2=>
 e0 B2 z2 C2/\f0 B2 z2 C2<f0 g0 h0 G0)) (
 R (.returned h0) K0))
theorem uM {p0 p1:Value} {w:World} {R:Ending->World->Prop} (h:sd p0 p1 w R):Calls Tryz.prog 104 #[p0,p1] w R:=
  calls_sh (.seq none .leaf (.seq none .leaf (.seq none (.seq none .leaf (.one (.loop [6,5] (.seq none .leaf (.seq (some [5]) .leaf .leaf))))) .leaf))) [p0,p1] aw Tryz.func104 (by kernel_rfl) (by kernel_rfl) h


/- loop.example/prologserver/spec.l15Cuts : function 105 -/
def nQ (p0:Value) (w:World) (R:Ending->World->Prop):Prop:=
 RR (sOp (.box 34 (.const p0)) 0) w fun a0 b0=>
 (∃ (c0:Value->World->Prop) (d0:Value->World->Nat),c0 (Value.int .i64 0) b0/\
 ∀ e0 _ _ _ _ _ _ _ _ _ _ _ _ _ _:Value,∀ f0:World,c0 e0 f0->
 RR (sOp (.fieldAddr 34 (.const a0) 1) 0) f0 fun g0 h0=>
 RR (sOp (.load 30 (.const g0)) 30) h0 fun i0 j0=>
 RR (sBuiltin .len #[30] 3 [false] [i0]) j0 fun k0 l0=>
 RR (sBin .lss 3 false false e0 k0) l0 fun m0 n0=>
 CondV m0 (
 RR (sOp (.fieldAddr 34 (.const a0) 1) 0) n0 fun o0 q0=>
 RR (sOp (.load 30 (.const o0)) 30) q0 fun s0 t0=>
 RR (sOp (.indexAddr 30 (.const s0) (.const e0)) 0) t0 fun u0 v0=>
 RR (sOp (.load 32 (.const u0)) 32) v0 fun w0 x0=>
 RR (sCall (Value.func (.func 147) #[] #[]) [w0]) x0 fun y0 z0=>
 CondV y0 (
 R (.returned (Value.bool true)) z0) (
 RR (sBin .add 3 false true e0 (Value.int .i64 1)) z0 fun A0 B0=>
 c0 A0 B0/\d0 A0 B0<d0 e0 f0)) (
 R (.returned (Value.bool false)) n0))
theorem rZ {p0:Value} {w:World} {R:Ending->World->Prop} (h:nQ p0 w R):Calls Tryz.prog 105 #[p0] w R:=
  calls_sh (.seq none .leaf (.seq none (.seq none .leaf (.one (.loop [3] .leaf))) .leaf)) [p0] aw Tryz.func105 (by kernel_rfl) (by kernel_rfl) h


/- loop.example/prologserver/spec.l1Struct : function 106 -/
def lB (p0 p1:Value) (w:World) (R:Ending->World->Prop):Prop:=
 RR (sOp (.alloc 32) 0) w fun a0 b0=>
 RR (sBuildSlice 30 0 []) b0 fun c0 d0=>
 RR (sBuiltin .append #[30,30] 30 [false,false] [c0,p1]) d0 fun e0 f0=>
 RR (sBuild 32 [(0,(Value.int .i64 3)),(2,p0),(3,e0)]) f0 fun g0 h0=>
 RR (sOp (.store 32 (.const a0) (.const g0)) 0) h0 fun _ i0=>
 (LoadV Tryz.prog 32 a0 i0 fun r0=>R (.returned r0) i0)
theorem pZ {p0 p1:Value} {w:World} {R:Ending->World->Prop} (h:lB p0 p1 w R):Calls Tryz.prog 106 #[p0,p1] w R:=
  calls_sh .leaf [p0,p1] aw Tryz.func106 (by kernel_rfl) (by kernel_rfl) h


/- slices.IndexFunc[[]loop.example/prologserver/impl.Clause,loop.example/prologserver/impl.Clause] : function 108 -/
def dj (p0 p1:Value) (w:World) (R:Ending->World->Prop):Prop:=
 RR (sBuiltin .len #[23] 3 [false] [p0]) w fun a0 b0=>
 (∃ (c0:Value->World->Prop) (d0:Value->World->Nat),c0 (Value.int .i64 0) b0/\
 ∀ e0 _ _ _ _ _ _ _ _ _ _ _ _:Value,∀ f0:World,c0 e0 f0->
 RR (sBin .lss 3 false false e0 a0) f0 fun g0 h0=>
 CondV g0 (
 RR (sOp (.indexAddr 23 (.const p0) (.const e0)) 0) h0 fun i0 j0=>
 RR (sOp (.load 34 (.const i0)) 34) j0 fun k0 l0=>
 RR (sCall p1 [k0]) l0 fun m0 n0=>
 CondV m0 (
 R (.returned e0) n0) (
 RR (sBin .add 3 false true e0 (Value.int .i64 1)) n0 fun o0 q0=>
 c0 o0 q0/\d0 o0 q0<d0 e0 f0)) (
 R (.returned (Value.int .i64 (-1))) h0))
theorem fD {p0 p1:Value} {w:World} {R:Ending->World->Prop} (h:dj p0 p1 w R):Calls Tryz.prog 108 #[p0,p1] w R:=
  calls_sh (.seq none .leaf (.seq none (.seq none .leaf (.one (.loop [8] .leaf))) .leaf)) [p0,p1] aw Tryz.func108 (by kernel_rfl) (by kernel_rfl) h


/- (*loop.example/prologserver/spec.l18Rd).of : function 109 -/
def lj (p0 p1:Value) (w:World) (R:Ending->World->Prop):Prop:=
 RR (sBuiltin .len #[82] 3 [false] [p1]) w fun a0 b0=>
 RR (sCall (Value.func (.func 61) #[] #[]) [p0,a0]) b0 fun c0 d0=>
 RR (sOp (.indexAddr 82 (.const p1) (.const c0)) 0) d0 fun e0 f0=>
 RR (sOp (.load 9 (.const e0)) 9) f0 fun g0 h0=>
 R (.returned g0) h0
theorem pS {p0 p1:Value} {w:World} {R:Ending->World->Prop} (h:lj p0 p1 w R):Calls Tryz.prog 109 #[p0,p1] w R:=
  calls_sh .leaf [p0,p1] aw Tryz.func109 (by kernel_rfl) (by kernel_rfl) h


/- loop.example/prologserver/spec.l1Draw : function 110 -/
def qp (p0 p1:Value) (w:World) (R:Ending->World->Prop):Prop:=
 RR (sOp (.alloc 32) 0) w fun a0 b0=>
 (∃ c0:Value->World->Prop,(
 RR (sBin .lss 3 false true p1 (Value.int .i64 2)) b0 fun d0 e0=>
 GuardV d0 false (
 RR (sCall (Value.func (.func 61) #[] #[]) [p0,(Value.int .i64 4)]) e0 fun f0 g0=>
 RR (sBin .eql 3 false true f0 (Value.int .i64 0)) g0 fun h0 i0=>
 RR (sOp (.pick (.const d0) (.const (Value.bool true)) (.const h0)) 4) i0 fun j0 k0=>
 c0 j0 k0) (
 RR (sOp (.pick (.const d0) (.const (Value.bool true)) (.const undef)) 4) e0 fun l0 m0=>
 c0 l0 m0))/\
 ∀ n0 _ _ _ _ _ _:Value,∀ o0:World,c0 n0 o0->
 CondV n0 (
 RR (sCall (Value.func (.func 61) #[] #[]) [p0,(Value.int .i64 4)]) o0 fun q0 s0=>
 RR (sBin .eql 3 false true q0 (Value.int .i64 0)) s0 fun t0 u0=>
 CondV t0 (
 RR (sCall (Value.func (.func 61) #[] #[]) [p0,(Value.int .i64 4)]) u0 fun v0 w0=>
 RR (sCall (Value.func (.func 148) #[] #[]) [v0]) w0 fun x0 y0=>
 RR (sOp (.store 32 (.const a0) (.const x0)) 0) y0 fun _u z0=>
 (LoadV Tryz.prog 32 a0 z0 fun r0=>R (.returned r0) z0)) (
 RR (sBin .eql 3 false true q0 (Value.int .i64 1)) u0 fun A0 B0=>
 CondV A0 (
 RR (sBuildSlice 63 6 [(0,(Value.int .i64 0)),(1,(Value.int .i64 1)),(2,(Value.int .i64 7)),(3,(Value.int .i64 (-3))),(4,(Value.int .i64 999)),(5,(Value.int .i64 (-999)))]) B0 fun C0 D0=>
 RR (sCall (Value.func (.func 140) #[] #[]) [p0,C0]) D0 fun E0 F0=>
 RR (sCall (Value.func (.func 149) #[] #[]) [E0]) F0 fun G0 H0=>
 RR (sOp (.store 32 (.const a0) (.const G0)) 0) H0 fun _u I0=>
 (LoadV Tryz.prog 32 a0 I0 fun r0=>R (.returned r0) I0)) (
 RR (sBuildSlice 82 6 [(0,(Value.string ⟨#[97]⟩)),(1,(Value.string ⟨#[98]⟩)),(2,(Value.string ⟨#[110,105,108]⟩)),(3,(Value.string ⟨#[91,93]⟩)),(4,(Value.string ⟨#[102,111,111]⟩)),(5,(Value.string ⟨#[43]⟩))]) B0 fun J0 K0=>
 RR (sCall (Value.func (.func 109) #[] #[]) [p0,J0]) K0 fun L0 M0=>
 RR (sCall (Value.func (.func 106) #[] #[]) [L0,(Value.slice none 0 0)]) M0 fun N0 O0=>
 RR (sOp (.store 32 (.const a0) (.const N0)) 0) O0 fun _u P0=>
 (LoadV Tryz.prog 32 a0 P0 fun r0=>R (.returned r0) P0)))) (
 RR (sCall (Value.func (.func 61) #[] #[]) [p0,(Value.int .i64 3)]) o0 fun Q0 S0=>
 RR (sBin .eql 3 false true Q0 (Value.int .i64 0)) S0 fun T0 U0=>
 CondV T0 (
 RR (sBin .sub 3 false true p1 (Value.int .i64 1)) U0 fun V0 W0=>
 RR (sCall (Value.func (.func 110) #[] #[]) [p0,V0]) W0 fun X0 Y0=>
 RR (sBin .sub 3 false true p1 (Value.int .i64 1)) Y0 fun Z0 a1=>
 RR (sCall (Value.func (.func 110) #[] #[]) [p0,Z0]) a1 fun b1 c1=>
 RR (sBuildSlice 30 2 [(0,X0),(1,b1)]) c1 fun d1 e1=>
 RR (sCall (Value.func (.func 106) #[] #[]) [(Value.string ⟨#[46]⟩),d1]) e1 fun f1 g1=>
 RR (sOp (.store 32 (.const a0) (.const f1)) 0) g1 fun _u h1=>
 (LoadV Tryz.prog 32 a0 h1 fun r0=>R (.returned r0) h1)) (
 RR (sBuildSlice 82 7 [(0,(Value.string ⟨#[102]⟩)),(1,(Value.string ⟨#[103]⟩)),(2,(Value.string ⟨#[115]⟩)),(3,(Value.string ⟨#[43]⟩)),(4,(Value.string ⟨#[61]⟩)),(5,(Value.string ⟨#[105,115]⟩)),(6,(Value.string ⟨#[102,111,111]⟩))]) U0 fun i1 j1=>
 RR (sCall (Value.func (.func 109) #[] #[]) [p0,i1]) j1 fun k1 l1=>
 RR (sCall (Value.func (.func 106) #[] #[]) [k1,(Value.slice none 0 0)]) l1 fun m1 n1=>
 RR (sOp (.alloc 32) 0) n1 fun o1 q1=>
 RR (sOp (.store 32 (.const o1) (.const m1)) 0) q1 fun _u s1=>
 RR (sBuildSlice 63 4 [(0,(Value.int .i64 2)),(1,(Value.int .i64 1)),(2,(Value.int .i64 3)),(3,(Value.int .i64 2))]) s1 fun t1 u1=>
 RR (sCall (Value.func (.func 140) #[] #[]) [p0,t1]) u1 fun v1 w1=>
 (∃ (x1:Value->World->Prop) (y1:Value->World->Nat),x1 v1 w1/\
 ∀ z1 _ _ A1 B1 C1 D1 E1 F1 G1 H1 I1 _ _:Value,∀ J1:World,x1 z1 J1->
 RR (sBin .gtr 3 false true z1 (Value.int .i64 0)) J1 fun K1 L1=>
 CondV K1 (
 (∃ M1:(Nat->Bool)->Value->Value->Value->Value->Value->Value->Value->Value->Value->World->Prop,M1 (fun _=>false) A1 B1 C1 D1 E1 F1 G1 H1 I1 { L1 with drawn:=L1.drawn+1 }/\(
 (∀ N1:Nat->Bool,N1 0=false->∀ O1 P1 Q1 S1 T1 U1 V1 W1 X1 Y1,M1 N1 O1 P1 Q1 S1 T1 U1 V1 W1 X1 Y1->
 RR (sOp (.fieldAddr 32 (.const o1) 3) 0) Y1 fun Z1 a2=>
 M1 (setD N1 0) O1 P1 Q1 S1 T1 U1 V1 W1 Z1 a2)/\
 (∀ N1:Nat->Bool,N1 1=false->N1 0=true->∀ O1 P1 Q1 S1 T1 U1 V1 W1 X1 b2,M1 N1 O1 P1 Q1 S1 T1 U1 V1 W1 X1 b2->
 RR (sOp (.load 30 (.const X1)) 30) b2 fun c2 d2=>
 M1 (setD N1 1) O1 P1 Q1 S1 T1 U1 V1 c2 X1 d2)/\
 (∀ N1:Nat->Bool,N1 2=false->∀ O1 P1 Q1 S1 T1 U1 V1 W1 X1 e2,M1 N1 O1 P1 Q1 S1 T1 U1 V1 W1 X1 e2->
 M1 (setD N1 2) O1 P1 Q1 S1 T1 U1 p0 W1 X1 e2)/\
 (∀ N1:Nat->Bool,N1 3=false->∀ O1 P1 Q1 S1 T1 U1 V1 W1 X1 f2,M1 N1 O1 P1 Q1 S1 T1 U1 V1 W1 X1 f2->
 M1 (setD N1 3) O1 P1 Q1 S1 T1 p1 V1 W1 X1 f2)/\
 (∀ N1:Nat->Bool,N1 4=false->N1 3=true->∀ O1 P1 Q1 S1 T1 U1 V1 W1 X1 g2,M1 N1 O1 P1 Q1 S1 T1 U1 V1 W1 X1 g2->
 RR (sBin .sub 3 false true U1 (Value.int .i64 1)) g2 fun h2 i2=>
 M1 (setD N1 4) O1 P1 Q1 S1 h2 U1 V1 W1 X1 i2)/\
 (∀ N1:Nat->Bool,N1 5=false->N1 2=true->N1 4=true->∀ O1 P1 Q1 S1 T1 U1 V1 W1 X1 j2,M1 N1 O1 P1 Q1 S1 T1 U1 V1 W1 X1 j2->
 RR (sCall (Value.func (.func 110) #[] #[]) [V1,T1]) j2 fun k2 l2=>
 M1 (setD N1 5) O1 P1 Q1 k2 T1 U1 V1 W1 X1 l2)/\
 (∀ N1:Nat->Bool,N1 6=false->N1 5=true->∀ O1 P1 Q1 S1 T1 U1 V1 W1 X1 m2,M1 N1 O1 P1 Q1 S1 T1 U1 V1 W1 X1 m2->
 RR (sBuildSlice 30 1 [(0,S1)]) m2 fun n2 o2=>
 M1 (setD N1 6) O1 P1 n2 S1 T1 U1 V1 W1 X1 o2)/\
 (∀ N1:Nat->Bool,N1 7=false->N1 1=true->N1 6=true->N1 5=true->∀ O1 P1 Q1 S1 T1 U1 V1 W1 X1 q2,M1 N1 O1 P1 Q1 S1 T1 U1 V1 W1 X1 q2->
 RR (sBuiltin .append #[30,30] 30 [false,false] [W1,Q1]) q2 fun s2 t2=>
 M1 (setD N1 7) O1 s2 Q1 S1 T1 U1 V1 W1 X1 t2)/\
 (∀ N1:Nat->Bool,N1 8=false->N1 0=true->N1 1=true->N1 2=true->N1 3=true->N1 4=true->N1 5=true->N1 6=true->N1 7=true->∀ O1 P1 Q1 S1 T1 U1 V1 W1 X1 u2,M1 N1 O1 P1 Q1 S1 T1 U1 V1 W1 X1 u2->
 RR (sOp (.fieldAddr 32 (.const o1) 3) 0) u2 fun v2 w2=>
 M1 (setD N1 8) v2 P1 Q1 S1 T1 U1 V1 W1 X1 w2)/\
 (∀ N1:Nat->Bool,N1 9=false->N1 8=true->N1 7=true->N1 7=true->N1 0=true->N1 1=true->N1 2=true->N1 3=true->N1 4=true->N1 5=true->N1 6=true->N1 7=true->∀ O1 P1 Q1 S1 T1 U1 V1 W1 X1 x2,M1 N1 O1 P1 Q1 S1 T1 U1 V1 W1 X1 x2->
 RR (sOp (.store 30 (.const O1) (.const P1)) 0) x2 fun _u y2=>
 M1 (setD N1 9) O1 P1 Q1 S1 T1 U1 V1 W1 X1 y2)/\
 True)/\
 ∀ N1:Nat->Bool,N1 9=true->N1 8=true->N1 7=true->N1 6=true->N1 5=true->N1 4=true->N1 3=true->N1 2=true->N1 1=true->N1 0=true->∀ O1 P1 Q1 S1 T1 U1 V1 W1 X1 z2,M1 N1 O1 P1 Q1 S1 T1 U1 V1 W1 X1 z2->
 RR (sBin .sub 3 false true z1 (Value.int .i64 1)) z2 fun A2 B2=>
 x1 A2 B2/\y1 A2 B2<y1 z1 J1)) (
 RR (sOp (.load 32 (.const o1)) 32) L1 fun C2 D2=>
 RR (sOp (.store 32 (.const a0) (.const C2)) 0) D2 fun _ E2=>
 (LoadV Tryz.prog 32 a0 E2 fun r0=>R (.returned r0) E2))))))
theorem tR {p0 p1:Value} {w:World} {R:Ending->World->Prop} (h:qp p0 p1 w R):Calls Tryz.prog 110 #[p0,p1] w R:=
  calls_sh (.seq none .leaf (.seq none (.seq (some [13]) .leaf .leaf) (.seq none .leaf (.seq none .leaf (.seq none (.seq none .leaf (.one (.loop [6] .leaf))) .leaf))))) [p0,p1] aw Tryz.func110 (by kernel_rfl) (by kernel_rfl) h


/- loop.example/prologserver/spec.l4Copy : function 111 -/
def jE (p0:Value) (w:World) (R:Ending->World->Prop):Prop:=
 RR (sOp (.box 34 (.const p0)) 0) w fun a0 b0=>
 RR (sOp (.alloc 34) 0) b0 fun c0 d0=>
 RR (sOp (.fieldAddr 34 (.const a0) 0) 0) d0 fun e0 f0=>
 RR (sOp (.load 32 (.const e0)) 32) f0 fun g0 h0=>
 RR (sCall (Value.func (.func 150) #[] #[]) [g0]) h0 fun i0 j0=>
 RR (sBuild 34 [(0,i0)]) j0 fun k0 l0=>
 RR (sOp (.alloc 34) 0) l0 fun m0 n0=>
 RR (sOp (.store 34 (.const m0) (.const k0)) 0) n0 fun _u o0=>
 (∃ (q0:Value->World->Prop) (s0:Value->World->Nat),q0 (Value.int .i64 0) o0/\
 ∀ t0 _ _ u0 v0 w0 x0 y0 z0 A0 B0 C0 D0 E0 _ _ _ _ _:Value,∀ F0:World,q0 t0 F0->
 RR (sOp (.fieldAddr 34 (.const a0) 1) 0) F0 fun G0 H0=>
 RR (sOp (.load 30 (.const G0)) 30) H0 fun I0 J0=>
 RR (sBuiltin .len #[30] 3 [false] [I0]) J0 fun K0 L0=>
 RR (sBin .lss 3 false false t0 K0) L0 fun M0 N0=>
 CondV M0 (
 (∃ O0:(Nat->Bool)->Value->Value->Value->Value->Value->Value->Value->Value->Value->Value->Value->World->Prop,O0 (fun _=>false) u0 v0 w0 x0 y0 z0 A0 B0 C0 D0 E0 { N0 with drawn:=N0.drawn+1 }/\(
 (∀ P0:Nat->Bool,P0 0=false->∀ Q0 S0 T0 U0 V0 W0 X0 Y0 Z0 a1 b1 c1,O0 P0 Q0 S0 T0 U0 V0 W0 X0 Y0 Z0 a1 b1 c1->
 RR (sOp (.fieldAddr 34 (.const m0) 1) 0) c1 fun d1 e1=>
 O0 (setD P0 0) Q0 S0 T0 U0 V0 W0 X0 Y0 Z0 a1 d1 e1)/\
 (∀ P0:Nat->Bool,P0 1=false->P0 0=true->∀ Q0 S0 T0 U0 V0 W0 X0 Y0 Z0 a1 b1 f1,O0 P0 Q0 S0 T0 U0 V0 W0 X0 Y0 Z0 a1 b1 f1->
 RR (sOp (.load 30 (.const b1)) 30) f1 fun g1 h1=>
 O0 (setD P0 1) Q0 S0 T0 U0 V0 W0 X0 Y0 Z0 g1 b1 h1)/\
 (∀ P0:Nat->Bool,P0 2=false->∀ Q0 S0 T0 U0 V0 W0 X0 Y0 Z0 a1 b1 i1,O0 P0 Q0 S0 T0 U0 V0 W0 X0 Y0 Z0 a1 b1 i1->
 RR (sOp (.fieldAddr 34 (.const a0) 1) 0) i1 fun j1 k1=>
 O0 (setD P0 2) Q0 S0 T0 U0 V0 W0 X0 Y0 j1 a1 b1 k1)/\
 (∀ P0:Nat->Bool,P0 3=false->P0 2=true->∀ Q0 S0 T0 U0 V0 W0 X0 Y0 Z0 a1 b1 l1,O0 P0 Q0 S0 T0 U0 V0 W0 X0 Y0 Z0 a1 b1 l1->
 RR (sOp (.load 30 (.const Z0)) 30) l1 fun m1 n1=>
 O0 (setD P0 3) Q0 S0 T0 U0 V0 W0 X0 m1 Z0 a1 b1 n1)/\
 (∀ P0:Nat->Bool,P0 4=false->∀ Q0 S0 T0 U0 V0 W0 X0 Y0 Z0 a1 b1 o1,O0 P0 Q0 S0 T0 U0 V0 W0 X0 Y0 Z0 a1 b1 o1->
 O0 (setD P0 4) Q0 S0 T0 U0 V0 W0 t0 Y0 Z0 a1 b1 o1)/\
 (∀ P0:Nat->Bool,P0 5=false->P0 3=true->P0 4=true->∀ Q0 S0 T0 U0 V0 W0 X0 Y0 Z0 a1 b1 q1,O0 P0 Q0 S0 T0 U0 V0 W0 X0 Y0 Z0 a1 b1 q1->
 RR (sOp (.indexAddr 30 (.const Y0) (.const X0)) 0) q1 fun s1 t1=>
 O0 (setD P0 5) Q0 S0 T0 U0 V0 s1 X0 Y0 Z0 a1 b1 t1)/\
 (∀ P0:Nat->Bool,P0 6=false->P0 5=true->∀ Q0 S0 T0 U0 V0 W0 X0 Y0 Z0 a1 b1 u1,O0 P0 Q0 S0 T0 U0 V0 W0 X0 Y0 Z0 a1 b1 u1->
 RR (sOp (.load 32 (.const W0)) 32) u1 fun v1 w1=>
 O0 (setD P0 6) Q0 S0 T0 U0 v1 W0 X0 Y0 Z0 a1 b1 w1)/\
 (∀ P0:Nat->Bool,P0 7=false->P0 6=true->∀ Q0 S0 T0 U0 V0 W0 X0 Y0 Z0 a1 b1 x1,O0 P0 Q0 S0 T0 U0 V0 W0 X0 Y0 Z0 a1 b1 x1->
 RR (sCall (Value.func (.func 150) #[] #[]) [V0]) x1 fun y1 z1=>
 O0 (setD P0 7) Q0 S0 T0 y1 V0 W0 X0 Y0 Z0 a1 b1 z1)/\
 (∀ P0:Nat->Bool,P0 8=false->P0 7=true->∀ Q0 S0 T0 U0 V0 W0 X0 Y0 Z0 a1 b1 A1,O0 P0 Q0 S0 T0 U0 V0 W0 X0 Y0 Z0 a1 b1 A1->
 RR (sBuildSlice 30 1 [(0,U0)]) A1 fun B1 C1=>
 O0 (setD P0 8) Q0 S0 B1 U0 V0 W0 X0 Y0 Z0 a1 b1 C1)/\
 (∀ P0:Nat->Bool,P0 9=false->P0 1=true->P0 8=true->P0 7=true->∀ Q0 S0 T0 U0 V0 W0 X0 Y0 Z0 a1 b1 D1,O0 P0 Q0 S0 T0 U0 V0 W0 X0 Y0 Z0 a1 b1 D1->
 RR (sBuiltin .append #[30,30] 30 [false,false] [a1,T0]) D1 fun E1 F1=>
 O0 (setD P0 9) Q0 E1 T0 U0 V0 W0 X0 Y0 Z0 a1 b1 F1)/\
 (∀ P0:Nat->Bool,P0 10=false->P0 0=true->P0 1=true->P0 2=true->P0 3=true->P0 4=true->P0 5=true->P0 6=true->P0 7=true->P0 8=true->P0 9=true->∀ Q0 S0 T0 U0 V0 W0 X0 Y0 Z0 a1 b1 G1,O0 P0 Q0 S0 T0 U0 V0 W0 X0 Y0 Z0 a1 b1 G1->
 RR (sOp (.fieldAddr 34 (.const m0) 1) 0) G1 fun H1 I1=>
 O0 (setD P0 10) H1 S0 T0 U0 V0 W0 X0 Y0 Z0 a1 b1 I1)/\
 (∀ P0:Nat->Bool,P0 11=false->P0 10=true->P0 9=true->P0 9=true->P0 0=true->P0 1=true->P0 2=true->P0 3=true->P0 4=true->P0 5=true->P0 6=true->P0 7=true->P0 8=true->P0 9=true->∀ Q0 S0 T0 U0 V0 W0 X0 Y0 Z0 a1 b1 J1,O0 P0 Q0 S0 T0 U0 V0 W0 X0 Y0 Z0 a1 b1 J1->
 RR (sOp (.store 30 (.const Q0) (.const S0)) 0) J1 fun _u K1=>
 O0 (setD P0 11) Q0 S0 T0 U0 V0 W0 X0 Y0 Z0 a1 b1 K1)/\
 True)/\
 ∀ P0:Nat->Bool,P0 11=true->P0 10=true->P0 9=true->P0 8=true->P0 7=true->P0 6=true->P0 5=true->P0 4=true->P0 3=true->P0 2=true->P0 1=true->P0 0=true->∀ Q0 S0 T0 U0 V0 W0 X0 Y0 Z0 a1 b1 L1,O0 P0 Q0 S0 T0 U0 V0 W0 X0 Y0 Z0 a1 b1 L1->
 RR (sBin .add 3 false true t0 (Value.int .i64 1)) L1 fun M1 N1=>
 q0 M1 N1/\s0 M1 N1<s0 t0 F0)) (
 RR (sOp (.load 34 (.const m0)) 34) N0 fun O1 P1=>
 RR (sOp (.store 34 (.const c0) (.const O1)) 0) P1 fun _ Q1=>
 (LoadV Tryz.prog 34 c0 Q1 fun r0=>R (.returned r0) Q1)))
theorem jF {p0:Value} {w:World} {R:Ending->World->Prop} (h:jE p0 w R):Calls Tryz.prog 111 #[p0] w R:=
  calls_sh (.seq none .leaf (.seq none .leaf (.seq none (.seq none .leaf (.one (.loop [4] .leaf))) .leaf))) [p0] aw Tryz.func111 (by kernel_rfl) (by kernel_rfl) h


/- loop.example/prologserver/spec.l1Mutate : function 112 -/
def lH (p0 p1:Value) (w:World) (R:Ending->World->Prop):Prop:=
 RR (sOp (.box 32 (.const p1)) 0) w fun a0 b0=>
 RR (sOp (.alloc 32) 0) b0 fun c0 d0=>
 RR (sOp (.load 32 (.const a0)) 32) d0 fun e0 f0=>
 RR (sCall (Value.func (.func 150) #[] #[]) [e0]) f0 fun g0 h0=>
 RR (sOp (.alloc 32) 0) h0 fun i0 j0=>
 RR (sOp (.store 32 (.const i0) (.const g0)) 0) j0 fun _u k0=>
 (∃ l0:World->Prop,(
 RR (sCall (Value.func (.func 61) #[] #[]) [p0,(Value.int .i64 50)]) k0 fun m0 n0=>
 RR (sBin .eql 3 false true m0 (Value.int .i64 0)) n0 fun o0 q0=>
 CondV o0 (
 RR (sBuildSlice 63 5 [(0,(Value.int .i64 0)),(1,(Value.int .i64 4)),(2,(Value.int .i64 1)),(3,(Value.int .i64 2)),(4,(Value.int .i64 3))]) q0 fun s0 t0=>
 RR (sCall (Value.func (.func 140) #[] #[]) [p0,s0]) t0 fun u0 v0=>
 RR (sOp (.fieldAddr 32 (.const i0) 0) 0) v0 fun w0 x0=>
 RR (sOp (.store 3 (.const w0) (.const u0)) 0) x0 fun _u y0=>
 l0 y0) (
 RR (sBin .eql 3 false true m0 (Value.int .i64 1)) q0 fun z0 A0=>
 CondV z0 (
 RR (sBuildSlice 63 5 [(0,(Value.int .i64 26)),(1,(Value.int .i64 1000)),(2,(Value.int .i64 (-1000))),(3,(Value.int .i64 (-1))),(4,(Value.int .i64 1))]) A0 fun B0 C0=>
 RR (sCall (Value.func (.func 140) #[] #[]) [p0,B0]) C0 fun D0 E0=>
 RR (sOp (.fieldAddr 32 (.const i0) 1) 0) E0 fun F0 G0=>
 RR (sOp (.store 3 (.const F0) (.const D0)) 0) G0 fun _u H0=>
 l0 H0) (
 RR (sBin .eql 3 false true m0 (Value.int .i64 2)) A0 fun I0 J0=>
 CondV I0 (
 RR (sBuildSlice 82 5 [(0,(Value.string ⟨#[]⟩)),(1,(Value.string ⟨#[88]⟩)),(2,(Value.string ⟨#[116,111,111,108,111,110,103]⟩)),(3,(Value.string ⟨#[195,169]⟩)),(4,(Value.string ⟨#[97]⟩))]) J0 fun K0 L0=>
 RR (sCall (Value.func (.func 109) #[] #[]) [p0,K0]) L0 fun M0 N0=>
 RR (sOp (.fieldAddr 32 (.const i0) 2) 0) N0 fun O0 P0=>
 RR (sOp (.store 9 (.const O0) (.const M0)) 0) P0 fun _u Q0=>
 l0 Q0) (
 RR (sBin .eql 3 false true m0 (Value.int .i64 3)) J0 fun S0 T0=>
 CondV S0 (
 (∃ (U0:World->Prop) (V0:World->Nat),U0 T0/\
 ∀ W0 X0 Y0 Z0 a1 b1 _ _ _ _:Value,∀ c1:World,U0 c1->
 RR (sOp (.fieldAddr 32 (.const i0) 3) 0) c1 fun d1 e1=>
 RR (sOp (.load 30 (.const d1)) 30) e1 fun f1 g1=>
 RR (sBuiltin .len #[30] 3 [false] [f1]) g1 fun h1 i1=>
 RR (sBin .leq 3 false true h1 (Value.int .i64 4)) i1 fun j1 k1=>
 CondV j1 (
 (∃ l1:(Nat->Bool)->Value->Value->Value->Value->Value->Value->World->Prop,l1 (fun _=>false) W0 X0 Y0 Z0 a1 b1 { k1 with drawn:=k1.drawn+1 }/\(
 (∀ m1:Nat->Bool,m1 0=false->∀ n1 o1 q1 s1 t1 u1 v1,l1 m1 n1 o1 q1 s1 t1 u1 v1->
 RR (sOp (.fieldAddr 32 (.const i0) 3) 0) v1 fun w1 x1=>
 l1 (setD m1 0) n1 o1 q1 s1 t1 w1 x1)/\
 (∀ m1:Nat->Bool,m1 1=false->m1 0=true->∀ n1 o1 q1 s1 t1 u1 y1,l1 m1 n1 o1 q1 s1 t1 u1 y1->
 RR (sOp (.load 30 (.const u1)) 30) y1 fun z1 A1=>
 l1 (setD m1 1) n1 o1 q1 s1 z1 u1 A1)/\
 (∀ m1:Nat->Bool,m1 2=false->∀ n1 o1 q1 s1 t1 u1 B1,l1 m1 n1 o1 q1 s1 t1 u1 B1->
 RR (sCall (Value.func (.func 149) #[] #[]) [(Value.int .i64 1)]) B1 fun C1 D1=>
 l1 (setD m1 2) n1 o1 q1 C1 t1 u1 D1)/\
 (∀ m1:Nat->Bool,m1 3=false->m1 2=true->∀ n1 o1 q1 s1 t1 u1 E1,l1 m1 n1 o1 q1 s1 t1 u1 E1->
 RR (sBuildSlice 30 1 [(0,s1)]) E1 fun F1 G1=>
 l1 (setD m1 3) n1 o1 F1 s1 t1 u1 G1)/\
 (∀ m1:Nat->Bool,m1 4=false->m1 1=true->m1 3=true->m1 2=true->∀ n1 o1 q1 s1 t1 u1 H1,l1 m1 n1 o1 q1 s1 t1 u1 H1->
 RR (sBuiltin .append #[30,30] 30 [false,false] [t1,q1]) H1 fun I1 J1=>
 l1 (setD m1 4) n1 I1 q1 s1 t1 u1 J1)/\
 (∀ m1:Nat->Bool,m1 5=false->m1 0=true->m1 1=true->m1 2=true->m1 3=true->m1 4=true->∀ n1 o1 q1 s1 t1 u1 K1,l1 m1 n1 o1 q1 s1 t1 u1 K1->
 RR (sOp (.fieldAddr 32 (.const i0) 3) 0) K1 fun L1 M1=>
 l1 (setD m1 5) L1 o1 q1 s1 t1 u1 M1)/\
 (∀ m1:Nat->Bool,m1 6=false->m1 5=true->m1 4=true->m1 4=true->m1 0=true->m1 1=true->m1 2=true->m1 3=true->m1 4=true->∀ n1 o1 q1 s1 t1 u1 N1,l1 m1 n1 o1 q1 s1 t1 u1 N1->
 RR (sOp (.store 30 (.const n1) (.const o1)) 0) N1 fun _u O1=>
 l1 (setD m1 6) n1 o1 q1 s1 t1 u1 O1)/\
 True)/\
 ∀ m1:Nat->Bool,m1 6=true->m1 5=true->m1 4=true->m1 3=true->m1 2=true->m1 1=true->m1 0=true->∀ n1 o1 q1 s1 t1 u1 P1,l1 m1 n1 o1 q1 s1 t1 u1 P1->
 U0 P1/\V0 P1<V0 c1)) (
 l0 k1))) (
 RR (sBin .eql 3 false true m0 (Value.int .i64 4)) T0 fun Q1 S1=>
 CondV Q1 (
 (∃ (T1:Value->World->Prop) (U1:Value->World->Nat),T1 (Value.int .i64 0) S1/\
 ∀ V1 _ _ _ _ _ _ _:Value,∀ W1:World,T1 V1 W1->
 RR (sBin .lss 3 false true V1 (Value.int .i64 30)) W1 fun X1 Y1=>
 CondV X1 (
 RR (sOp (.load 32 (.const i0)) 32) Y1 fun Z1 a2=>
 RR (sBuildSlice 30 1 [(0,Z1)]) a2 fun b2 c2=>
 RR (sCall (Value.func (.func 106) #[] #[]) [(Value.string ⟨#[115]⟩),b2]) c2 fun d2 e2=>
 RR (sOp (.store 32 (.const i0) (.const d2)) 0) e2 fun _u f2=>
 RR (sBin .add 3 false true V1 (Value.int .i64 1)) f2 fun g2 h2=>
 T1 g2 h2/\U1 g2 h2<U1 V1 W1) (
 l0 Y1))) (
 l0 S1))))))/\
 ∀ _ _ _ _ _ _ _ _ _ _ _ _ _ _ _ _ _ _ _ _ _ _ _ _ _ _ _ _ _ _ _ _ _ _ _ _ _ _ _ _ _ _:Value,∀ i2:World,l0 i2->
 RR (sOp (.load 32 (.const i0)) 32) i2 fun j2 k2=>
 RR (sOp (.store 32 (.const c0) (.const j2)) 0) k2 fun _ l2=>
 (LoadV Tryz.prog 32 c0 l2 fun r0=>R (.returned r0) l2))
theorem pl {p0 p1:Value} {w:World} {R:Ending->World->Prop} (h:lH p0 p1 w R):Calls Tryz.prog 112 #[p0,p1] w R:=
  calls_sh (.seq none .leaf (.seq none .leaf (.seq (some []) (.seq none .leaf (.one (.seq none .leaf (.two .leaf (.seq none .leaf (.two .leaf (.seq none .leaf (.two .leaf (.seq none .leaf (.two (.one (.loop [] .leaf)) (.seq none .leaf (.two (.seq none .leaf (.one (.loop [6] .leaf))) .leaf)))))))))))) .leaf))) [p0,p1] aw Tryz.func112 (by kernel_rfl) (by kernel_rfl) h


/- loop.example/prologserver/spec.l1Some : function 113 -/
def qM (p0:Value) (w:World) (R:Ending->World->Prop):Prop:=
 RR (sOp (.alloc 32) 0) w fun a0 b0=>
 RR (sBuildSlice 63 4 [(0,(Value.int .i64 3)),(1,(Value.int .i64 2)),(2,(Value.int .i64 4)),(3,(Value.int .i64 1))]) b0 fun c0 d0=>
 RR (sCall (Value.func (.func 140) #[] #[]) [p0,c0]) d0 fun e0 f0=>
 RR (sCall (Value.func (.func 110) #[] #[]) [p0,e0]) f0 fun g0 h0=>
 RR (sOp (.store 32 (.const a0) (.const g0)) 0) h0 fun _ i0=>
 (LoadV Tryz.prog 32 a0 i0 fun r0=>R (.returned r0) i0)
theorem tQ {p0:Value} {w:World} {R:Ending->World->Prop} (h:qM p0 w R):Calls Tryz.prog 113 #[p0] w R:=
  calls_sh .leaf [p0] aw Tryz.func113 (by kernel_rfl) (by kernel_rfl) h


/- loop.example/prologserver/spec.GoalValid : function 114 -/
def ja (p0:Value) (w:World) (R:Ending->World->Prop):Prop:=
 RR (sOp (.box 32 (.const p0)) 0) w fun a0 b0=>
 RR (sOp (.load 32 (.const a0)) 32) b0 fun c0 d0=>
 RR (sCall (Value.func (.func 115) #[] #[]) [c0]) d0 fun e0 f0=>
 GuardV e0 true (
 RR (sOp (.load 32 (.const a0)) 32) f0 fun g0 h0=>
 RR (sCall (Value.func (.func 151) #[] #[]) [g0]) h0 fun i0 j0=>
 RR (sOp (.pick (.const e0) (.const i0) (.const (Value.bool false))) 4) j0 fun k0 l0=>
 R (.returned k0) l0) (
 RR (sOp (.pick (.const e0) (.const undef) (.const (Value.bool false))) 4) f0 fun m0 n0=>
 R (.returned m0) n0)
theorem oq {p0:Value} {w:World} {R:Ending->World->Prop} (h:ja p0 w R):Calls Tryz.prog 114 #[p0] w R:=
  calls_sh .leaf [p0] aw Tryz.func114 (by kernel_rfl) (by kernel_rfl) h


/- loop.example/prologserver/spec.TermValid : function 115 -/
def jr (p0:Value) (w:World) (R:Ending->World->Prop):Prop:=
 RR (sOp (.box 32 (.const p0)) 0) w fun a0 b0=>
 RR (sOp (.load 32 (.const a0)) 32) b0 fun c0 d0=>
 RR (sCall (Value.func (.func 152) #[] #[]) [c0,(Value.int .i64 30)]) d0 fun e0 f0=>
 GuardV e0 true (
 RR (sOp (.load 32 (.const a0)) 32) f0 fun g0 h0=>
 RR (sCall (Value.func (.func 153) #[] #[]) [g0,(Value.int .i64 120)]) h0 fun i0 j0=>
 RR (sBin .leq 3 false true i0 (Value.int .i64 120)) j0 fun k0 l0=>
 RR (sOp (.pick (.const e0) (.const k0) (.const (Value.bool false))) 4) l0 fun m0 n0=>
 R (.returned m0) n0) (
 RR (sOp (.pick (.const e0) (.const undef) (.const (Value.bool false))) 4) f0 fun o0 q0=>
 R (.returned o0) q0)
theorem od {p0:Value} {w:World} {R:Ending->World->Prop} (h:jr p0 w R):Calls Tryz.prog 115 #[p0] w R:=
  calls_sh .leaf [p0] aw Tryz.func115 (by kernel_rfl) (by kernel_rfl) h


/- loop.example/prologserver/spec.l4Plain : function 116 -/
def oG (p0:Value) (w:World) (R:Ending->World->Prop):Prop:=
 RR (sOp (.box 32 (.const p0)) 0) w fun a0 b0=>
 RR (sOp (.fieldAddr 32 (.const a0) 0) 0) b0 fun c0 d0=>
 RR (sOp (.load 3 (.const c0)) 3) d0 fun e0 f0=>
 RR (sBin .eql 3 false true e0 (Value.int .i64 3)) f0 fun g0 h0=>
 GuardV g0 true (
 RR (sOp (.fieldAddr 32 (.const a0) 2) 0) h0 fun i0 j0=>
 RR (sOp (.load 9 (.const i0)) 9) j0 fun k0 l0=>
 RR (sCall (Value.func (.func 154) #[] #[]) [k0]) l0 fun m0 n0=>
 RR (sOp (.pick (.const g0) (.const m0) (.const (Value.bool false))) 4) n0 fun o0 q0=>
 GuardV o0 true (
 RR (sOp (.fieldAddr 32 (.const a0) 2) 0) q0 fun s0 t0=>
 RR (sOp (.load 9 (.const s0)) 9) t0 fun u0 v0=>
 RR (sOp (.fieldAddr 32 (.const a0) 3) 0) v0 fun w0 x0=>
 RR (sOp (.load 30 (.const w0)) 30) x0 fun y0 z0=>
 RR (sBuiltin .len #[30] 3 [false] [y0]) z0 fun A0 B0=>
 RR (sCall (Value.func (.func 155) #[] #[]) [u0,A0]) B0 fun C0 D0=>
 RR (sOp (.unOp .not 4 (.const C0)) 4) D0 fun E0 F0=>
 RR (sOp (.pick (.const o0) (.const E0) (.const (Value.bool false))) 4) F0 fun G0 H0=>
 GuardV G0 true (
 RR (sOp (.fieldAddr 32 (.const a0) 2) 0) H0 fun I0 J0=>
 RR (sOp (.load 9 (.const I0)) 9) J0 fun K0 L0=>
 RR (sCall (Value.func (.func 156) #[] #[]) [K0]) L0 fun M0 N0=>
 RR (sBin .eql 3 false true M0 (Value.int .i64 0)) N0 fun O0 P0=>
 RR (sOp (.pick (.const G0) (.const O0) (.const (Value.bool false))) 4) P0 fun Q0 S0=>
 R (.returned Q0) S0) (
 RR (sOp (.pick (.const G0) (.const undef) (.const (Value.bool false))) 4) H0 fun T0 U0=>
 R (.returned T0) U0)) (
 RR (sOp (.pick (.const o0) (.const undef) (.const (Value.bool false))) 4) q0 fun V0 W0=>
 GuardV V0 true (
 RR (sOp (.fieldAddr 32 (.const a0) 2) 0) W0 fun X0 Y0=>
 RR (sOp (.load 9 (.const X0)) 9) Y0 fun Z0 a1=>
 RR (sCall (Value.func (.func 156) #[] #[]) [Z0]) a1 fun b1 c1=>
 RR (sBin .eql 3 false true b1 (Value.int .i64 0)) c1 fun d1 e1=>
 RR (sOp (.pick (.const V0) (.const d1) (.const (Value.bool false))) 4) e1 fun f1 g1=>
 R (.returned f1) g1) (
 RR (sOp (.pick (.const V0) (.const undef) (.const (Value.bool false))) 4) W0 fun h1 i1=>
 R (.returned h1) i1))) (
 RR (sOp (.pick (.const g0) (.const undef) (.const (Value.bool false))) 4) h0 fun j1 k1=>
 GuardV j1 true (
 RR (sOp (.fieldAddr 32 (.const a0) 2) 0) k1 fun l1 m1=>
 RR (sOp (.load 9 (.const l1)) 9) m1 fun n1 o1=>
 RR (sOp (.fieldAddr 32 (.const a0) 3) 0) o1 fun q1 s1=>
 RR (sOp (.load 30 (.const q1)) 30) s1 fun t1 u1=>
 RR (sBuiltin .len #[30] 3 [false] [t1]) u1 fun v1 w1=>
 RR (sCall (Value.func (.func 155) #[] #[]) [n1,v1]) w1 fun x1 y1=>
 RR (sOp (.unOp .not 4 (.const x1)) 4) y1 fun z1 A1=>
 RR (sOp (.pick (.const j1) (.const z1) (.const (Value.bool false))) 4) A1 fun B1 C1=>
 GuardV B1 true (
 RR (sOp (.fieldAddr 32 (.const a0) 2) 0) C1 fun D1 E1=>
 RR (sOp (.load 9 (.const D1)) 9) E1 fun F1 G1=>
 RR (sCall (Value.func (.func 156) #[] #[]) [F1]) G1 fun H1 I1=>
 RR (sBin .eql 3 false true H1 (Value.int .i64 0)) I1 fun J1 K1=>
 RR (sOp (.pick (.const B1) (.const J1) (.const (Value.bool false))) 4) K1 fun L1 M1=>
 R (.returned L1) M1) (
 RR (sOp (.pick (.const B1) (.const undef) (.const (Value.bool false))) 4) C1 fun N1 O1=>
 R (.returned N1) O1)) (
 RR (sOp (.pick (.const j1) (.const undef) (.const (Value.bool false))) 4) k1 fun P1 Q1=>
 GuardV P1 true (
 RR (sOp (.fieldAddr 32 (.const a0) 2) 0) Q1 fun S1 T1=>
 RR (sOp (.load 9 (.const S1)) 9) T1 fun U1 V1=>
 RR (sCall (Value.func (.func 156) #[] #[]) [U1]) V1 fun W1 X1=>
 RR (sBin .eql 3 false true W1 (Value.int .i64 0)) X1 fun Y1 Z1=>
 RR (sOp (.pick (.const P1) (.const Y1) (.const (Value.bool false))) 4) Z1 fun a2 b2=>
 R (.returned a2) b2) (
 RR (sOp (.pick (.const P1) (.const undef) (.const (Value.bool false))) 4) Q1 fun c2 d2=>
 R (.returned c2) d2)))
theorem rg {p0:Value} {w:World} {R:Ending->World->Prop} (h:oG p0 w R):Calls Tryz.prog 116 #[p0] w R:=
  calls_sh .leaf [p0] aw Tryz.func116 (by kernel_rfl) (by kernel_rfl) h


/- loop.example/prologserver/impl.scan : function 118 -/
def wt (p0 p1 p2:Value) (w:World) (R:Ending->World->Prop):Prop:=
 RR (sOp (.box 32 (.const p0)) 0) w fun a0 b0=>
 RR (sOp (.box 3 (.const p1)) 0) b0 fun c0 d0=>
 RR (sOp (.box 111 (.const p2)) 0) d0 fun e0 f0=>
 RR (sOp (.load 111 (.const e0)) 111) f0 fun g0 h0=>
 RR (sOp (.nilCheck (.const g0)) 0) h0 fun i0 j0=>
 RR (sOp (.load 3 (.const i0)) 3) j0 fun k0 l0=>
 RR (sBin .add 3 false true k0 (Value.int .i64 1)) l0 fun m0 n0=>
 RR (sOp (.nilCheck (.const g0)) 0) n0 fun o0 q0=>
 RR (sOp (.store 3 (.const o0) (.const m0)) 0) q0 fun _ s0=>
 (∃ t0:Value->World->Prop,(
 RR (sOp (.load 111 (.const e0)) 111) s0 fun u0 v0=>
 RR (sOp (.nilCheck (.const u0)) 0) v0 fun w0 x0=>
 RR (sOp (.load 3 (.const w0)) 3) x0 fun y0 z0=>
 RR (sBin .gtr 3 false true y0 (Value.int .i64 120)) z0 fun A0 B0=>
 GuardV A0 false (
 RR (sOp (.load 3 (.const c0)) 3) B0 fun C0 D0=>
 RR (sBin .gtr 3 false true C0 (Value.int .i64 30)) D0 fun E0 F0=>
 RR (sOp (.pick (.const A0) (.const (Value.bool true)) (.const E0)) 4) F0 fun G0 H0=>
 t0 G0 H0) (
 RR (sOp (.pick (.const A0) (.const (Value.bool true)) (.const undef)) 4) B0 fun I0 J0=>
 t0 I0 J0))/\
 ∀ K0 _ _ _ _ _ _ _:Value,∀ L0:World,t0 K0 L0->
 CondV K0 (
 R (.returned (Value.bool false)) L0) (
 RR (sOp (.fieldAddr 32 (.const a0) 0) 0) L0 fun M0 N0=>
 RR (sOp (.load 3 (.const M0)) 3) N0 fun O0 P0=>
 RR (sBin .eql 3 false true O0 (Value.int .i64 1)) P0 fun Q0 S0=>
 CondV Q0 (
 RR (sOp (.fieldAddr 32 (.const a0) 1) 0) S0 fun T0 U0=>
 RR (sOp (.load 3 (.const T0)) 3) U0 fun V0 W0=>
 RR (sCall (Value.func (.func 96) #[] #[]) [V0,(Value.int .i64 0),(Value.int .i64 25)]) W0 fun X0 Y0=>
 GuardV X0 true (
 RR (sOp (.fieldAddr 32 (.const a0) 2) 0) Y0 fun Z0 a1=>
 RR (sOp (.load 9 (.const Z0)) 9) a1 fun b1 c1=>
 RR (sBin .eql 9 false true b1 (Value.string ⟨#[]⟩)) c1 fun d1 e1=>
 RR (sOp (.pick (.const X0) (.const d1) (.const (Value.bool false))) 4) e1 fun f1 g1=>
 GuardV f1 true (
 RR (sOp (.fieldAddr 32 (.const a0) 3) 0) g1 fun h1 i1=>
 RR (sOp (.load 30 (.const h1)) 30) i1 fun j1 k1=>
 RR (sBuiltin .len #[30] 3 [false] [j1]) k1 fun l1 m1=>
 RR (sBin .eql 3 false true l1 (Value.int .i64 0)) m1 fun n1 o1=>
 RR (sOp (.pick (.const f1) (.const n1) (.const (Value.bool false))) 4) o1 fun q1 s1=>
 R (.returned q1) s1) (
 RR (sOp (.pick (.const f1) (.const undef) (.const (Value.bool false))) 4) g1 fun t1 u1=>
 R (.returned t1) u1)) (
 RR (sOp (.pick (.const X0) (.const undef) (.const (Value.bool false))) 4) Y0 fun v1 w1=>
 GuardV v1 true (
 RR (sOp (.fieldAddr 32 (.const a0) 3) 0) w1 fun x1 y1=>
 RR (sOp (.load 30 (.const x1)) 30) y1 fun z1 A1=>
 RR (sBuiltin .len #[30] 3 [false] [z1]) A1 fun B1 C1=>
 RR (sBin .eql 3 false true B1 (Value.int .i64 0)) C1 fun D1 E1=>
 RR (sOp (.pick (.const v1) (.const D1) (.const (Value.bool false))) 4) E1 fun F1 G1=>
 R (.returned F1) G1) (
 RR (sOp (.pick (.const v1) (.const undef) (.const (Value.bool false))) 4) w1 fun H1 I1=>
 R (.returned H1) I1))) (
 RR (sBin .eql 3 false true O0 (Value.int .i64 2)) S0 fun J1 K1=>
 CondV J1 (
 RR (sOp (.fieldAddr 32 (.const a0) 1) 0) K1 fun L1 M1=>
 RR (sOp (.load 3 (.const L1)) 3) M1 fun N1 O1=>
 RR (sCall (Value.func (.func 96) #[] #[]) [N1,(Value.int .i64 (-999)),(Value.int .i64 999)]) O1 fun P1 Q1=>
 GuardV P1 true (
 RR (sOp (.fieldAddr 32 (.const a0) 2) 0) Q1 fun S1 T1=>
 RR (sOp (.load 9 (.const S1)) 9) T1 fun U1 V1=>
 RR (sBin .eql 9 false true U1 (Value.string ⟨#[]⟩)) V1 fun W1 X1=>
 RR (sOp (.pick (.const P1) (.const W1) (.const (Value.bool false))) 4) X1 fun Y1 Z1=>
 GuardV Y1 true (
 RR (sOp (.fieldAddr 32 (.const a0) 3) 0) Z1 fun a2 b2=>
 RR (sOp (.load 30 (.const a2)) 30) b2 fun c2 d2=>
 RR (sBuiltin .len #[30] 3 [false] [c2]) d2 fun e2 f2=>
 RR (sBin .eql 3 false true e2 (Value.int .i64 0)) f2 fun g2 h2=>
 RR (sOp (.pick (.const Y1) (.const g2) (.const (Value.bool false))) 4) h2 fun i2 j2=>
 R (.returned i2) j2) (
 RR (sOp (.pick (.const Y1) (.const undef) (.const (Value.bool false))) 4) Z1 fun k2 l2=>
 R (.returned k2) l2)) (
 RR (sOp (.pick (.const P1) (.const undef) (.const (Value.bool false))) 4) Q1 fun m2 n2=>
 GuardV m2 true (
 RR (sOp (.fieldAddr 32 (.const a0) 3) 0) n2 fun o2 q2=>
 RR (sOp (.load 30 (.const o2)) 30) q2 fun s2 t2=>
 RR (sBuiltin .len #[30] 3 [false] [s2]) t2 fun u2 v2=>
 RR (sBin .eql 3 false true u2 (Value.int .i64 0)) v2 fun w2 x2=>
 RR (sOp (.pick (.const m2) (.const w2) (.const (Value.bool false))) 4) x2 fun y2 z2=>
 R (.returned y2) z2) (
 RR (sOp (.pick (.const m2) (.const undef) (.const (Value.bool false))) 4) n2 fun A2 B2=>
 R (.returned A2) B2))) (
 RR (sBin .eql 3 false true O0 (Value.int .i64 3)) K1 fun C2 D2=>
 CondV C2 (
 (∃ E2:Value->World->Prop,(
 RR (sOp (.fieldAddr 32 (.const a0) 1) 0) D2 fun F2 G2=>
 RR (sOp (.load 3 (.const F2)) 3) G2 fun H2 I2=>
 RR (sBin .neq 3 false true H2 (Value.int .i64 0)) I2 fun J2 K2=>
 GuardV J2 false (
 RR (sOp (.fieldAddr 32 (.const a0) 2) 0) K2 fun L2 M2=>
 RR (sOp (.load 9 (.const L2)) 9) M2 fun N2 O2=>
 RR (sCall (Value.func (.func 157) #[] #[]) [N2]) O2 fun P2 Q2=>
 RR (sOp (.unOp .not 4 (.const P2)) 4) Q2 fun S2 T2=>
 RR (sOp (.pick (.const J2) (.const (Value.bool true)) (.const S2)) 4) T2 fun U2 V2=>
 GuardV U2 false (
 RR (sOp (.fieldAddr 32 (.const a0) 3) 0) V2 fun W2 X2=>
 RR (sOp (.load 30 (.const W2)) 30) X2 fun Y2 Z2=>
 RR (sBuiltin .len #[30] 3 [false] [Y2]) Z2 fun a3 b3=>
 RR (sBin .gtr 3 false true a3 (Value.int .i64 4)) b3 fun c3 d3=>
 RR (sOp (.pick (.const U2) (.const (Value.bool true)) (.const c3)) 4) d3 fun e3 f3=>
 E2 e3 f3) (
 RR (sOp (.pick (.const U2) (.const (Value.bool true)) (.const undef)) 4) V2 fun g3 h3=>
 E2 g3 h3)) (
 RR (sOp (.pick (.const J2) (.const (Value.bool true)) (.const undef)) 4) K2 fun i3 j3=>
 GuardV i3 false (
 RR (sOp (.fieldAddr 32 (.const a0) 3) 0) j3 fun k3 l3=>
 RR (sOp (.load 30 (.const k3)) 30) l3 fun m3 n3=>
 RR (sBuiltin .len #[30] 3 [false] [m3]) n3 fun o3 q3=>
 RR (sBin .gtr 3 false true o3 (Value.int .i64 4)) q3 fun s3 t3=>
 RR (sOp (.pick (.const i3) (.const (Value.bool true)) (.const s3)) 4) t3 fun u3 v3=>
 E2 u3 v3) (
 RR (sOp (.pick (.const i3) (.const (Value.bool true)) (.const undef)) 4) j3 fun w3 x3=>
 E2 w3 x3)))/\
 ∀ y3 _ _ _ _ _ _ _ _ _ _ _ _ _ _:Value,∀ z3:World,E2 y3 z3->
 CondV y3 (
 R (.returned (Value.bool false)) z3) (
 RR (sOp (.fieldAddr 32 (.const a0) 3) 0) z3 fun A3 B3=>
 RR (sOp (.load 30 (.const A3)) 30) B3 fun C3 D3=>
 RR (sMakeFunc (.func 158) [] [c0,e0]) D3 fun E3 F3=>
 RR (sCall (Value.func (.func 122) #[] #[]) [C3,E3]) F3 fun G3 H3=>
 RR (sOp (.unOp .not 4 (.const G3)) 4) H3 fun I3 J3=>
 R (.returned I3) J3))) (
 R (.returned (Value.bool false)) D2)))))
theorem xZ {p0 p1 p2:Value} {w:World} {R:Ending->World->Prop} (h:wt p0 p1 p2 w R):Calls Tryz.prog 118 #[p0,p1,p2] w R:=
  calls_sh (.seq none .leaf (.seq none .leaf (.seq none (.seq (some [19]) .leaf .leaf) (.seq none (.seq none .leaf (.one (.seq none .leaf (.two .leaf (.seq none .leaf (.two .leaf (.seq none .leaf (.two (.seq none (.seq (some [70]) .leaf .leaf) .leaf) .leaf)))))))) .leaf)))) [p0,p1,p2] aw Tryz.func118 (by kernel_rfl) (by kernel_rfl) h


/- loop.example/prologserver/impl.isLetters : function 119 -/
def ku (p0:Value) (w:World) (R:Ending->World->Prop):Prop:=
 RR (sBuiltin .len #[9] 3 [false] [p0]) w fun a0 b0=>
 (∃ (c0:Value->World->Prop) (d0:Value->World->Nat),c0 (Value.int .i64 0) b0/\
 ∀ e0 _ _ _ _ _ _ _ _ _ _ _ _ _ _ _:Value,∀ f0:World,c0 e0 f0->
 RR (sBin .lss 3 false false e0 a0) f0 fun g0 h0=>
 CondV g0 (
 (∃ i0:Value->World->Prop,(
 RR (sOp (.index 9 (.const p0) (.const e0)) 5) h0 fun j0 k0=>
 RR (sBin .lss 5 false true j0 (Value.int .u8 97)) k0 fun l0 m0=>
 GuardV l0 false (
 RR (sOp (.index 9 (.const p0) (.const e0)) 5) m0 fun n0 o0=>
 RR (sBin .gtr 5 false true n0 (Value.int .u8 122)) o0 fun q0 s0=>
 RR (sOp (.pick (.const l0) (.const (Value.bool true)) (.const q0)) 4) s0 fun t0 u0=>
 i0 t0 u0) (
 RR (sOp (.pick (.const l0) (.const (Value.bool true)) (.const undef)) 4) m0 fun v0 w0=>
 i0 v0 w0))/\
 ∀ x0 _ _ _ _ _ _ _ _ _:Value,∀ y0:World,i0 x0 y0->
 CondV x0 (
 R (.returned (Value.bool false)) y0) (
 RR (sBin .add 3 false true e0 (Value.int .i64 1)) y0 fun z0 A0=>
 c0 z0 A0/\d0 z0 A0<d0 e0 f0))) (
 RR (sBuiltin .len #[9] 3 [false] [p0]) h0 fun B0 C0=>
 RR (sCall (Value.func (.func 96) #[] #[]) [B0,(Value.int .i64 1),(Value.int .i64 6)]) C0 fun D0 E0=>
 R (.returned D0) E0))
theorem ph {p0:Value} {w:World} {R:Ending->World->Prop} (h:ku p0 w R):Calls Tryz.prog 119 #[p0] w R:=
  calls_sh (.seq none .leaf (.seq none (.seq none .leaf (.one (.loop [6] (.seq none .leaf (.seq none .leaf (.seq none (.one (.seq none .leaf (.seq (some [18]) .leaf .leaf))) .leaf)))))) .leaf)) [p0] aw Tryz.func119 (by kernel_rfl) (by kernel_rfl) h


/- loop.example/prologserver/impl.isOp : function 120 -/
def vW (p0:Value) (w:World) (R:Ending->World->Prop):Prop:=
 RR (sCall (Value.func (.func 159) #[] #[]) [p0]) w fun a0 b0=>
 RR (sOp (.extract (.const a0) 0) 3) b0 fun c0 d0=>
 RR (sOp (.extract (.const a0) 1) 4) d0 fun _ e0=>
 RR (sBin .gtr 3 false true c0 (Value.int .i64 0)) e0 fun f0 g0=>
 R (.returned f0) g0
theorem xO {p0:Value} {w:World} {R:Ending->World->Prop} (h:vW p0 w R):Calls Tryz.prog 120 #[p0] w R:=
  calls_sh .leaf [p0] aw Tryz.func120 (by kernel_rfl) (by kernel_rfl) h


/- loop.example/prologserver/impl.isBuilt : function 121 -/
def oo (p0:Value) (w:World) (R:Ending->World->Prop):Prop:=
 RR (sOp (.box 32 (.const p0)) 0) w fun a0 b0=>
 RR (sOp (.fieldAddr 32 (.const a0) 0) 0) b0 fun c0 d0=>
 RR (sOp (.load 3 (.const c0)) 3) d0 fun e0 f0=>
 RR (sBin .eql 3 false true e0 (Value.int .i64 3)) f0 fun g0 h0=>
 GuardV g0 true (
 RR (sOp (.fieldAddr 32 (.const a0) 2) 0) h0 fun i0 j0=>
 RR (sOp (.load 9 (.const i0)) 9) j0 fun k0 l0=>
 RR (sOp (.fieldAddr 32 (.const a0) 3) 0) l0 fun m0 n0=>
 RR (sOp (.load 30 (.const m0)) 30) n0 fun o0 q0=>
 RR (sBuiltin .len #[30] 3 [false] [o0]) q0 fun s0 t0=>
 RR (sCall (Value.func (.func 160) #[] #[]) [k0,s0]) t0 fun u0 v0=>
 RR (sOp (.pick (.const g0) (.const u0) (.const (Value.bool false))) 4) v0 fun w0 x0=>
 R (.returned w0) x0) (
 RR (sOp (.pick (.const g0) (.const undef) (.const (Value.bool false))) 4) h0 fun y0 z0=>
 R (.returned y0) z0)
theorem rN {p0:Value} {w:World} {R:Ending->World->Prop} (h:oo p0 w R):Calls Tryz.prog 121 #[p0] w R:=
  calls_sh .leaf [p0] aw Tryz.func121 (by kernel_rfl) (by kernel_rfl) h


/- slices.ContainsFunc[[]loop.example/prologserver/impl.Term,loop.example/prologserver/impl.Term] : function 122 -/
def bR (p0 p1:Value) (w:World) (R:Ending->World->Prop):Prop:=
 RR (sCall (Value.func (.func 161) #[] #[]) [p0,p1]) w fun a0 b0=>
 RR (sBin .geq 3 false true a0 (Value.int .i64 0)) b0 fun c0 d0=>
 R (.returned c0) d0
theorem cz {p0 p1:Value} {w:World} {R:Ending->World->Prop} (h:bR p0 p1 w R):Calls Tryz.prog 122 #[p0,p1] w R:=
  calls_sh .leaf [p0,p1] aw Tryz.func122 (by kernel_rfl) (by kernel_rfl) h


/- loop.example/prologserver/impl.goalsValid$1 : function 123 -/
def fa (p0:Value) (w:World) (R:Ending->World->Prop):Prop:=
 RR (sOp (.box 32 (.const p0)) 0) w fun a0 b0=>
 RR (sOp (.load 32 (.const a0)) 32) b0 fun c0 d0=>
 RR (sCall (Value.func (.func 124) #[] #[]) [c0]) d0 fun e0 f0=>
 RR (sOp (.unOp .not 4 (.const e0)) 4) f0 fun g0 h0=>
 R (.returned g0) h0
theorem kq {p0:Value} {w:World} {R:Ending->World->Prop} (h:fa p0 w R):Calls Tryz.prog 123 #[p0] w R:=
  calls_sh .leaf [p0] aw Tryz.func123 (by kernel_rfl) (by kernel_rfl) h


/- loop.example/prologserver/impl.GoalValid : function 124 -/
def iX (p0:Value) (w:World) (R:Ending->World->Prop):Prop:=
 RR (sOp (.box 32 (.const p0)) 0) w fun a0 b0=>
 RR (sOp (.load 32 (.const a0)) 32) b0 fun c0 d0=>
 RR (sCall (Value.func (.func 66) #[] #[]) [c0]) d0 fun e0 f0=>
 GuardV e0 true (
 RR (sOp (.load 32 (.const a0)) 32) f0 fun g0 h0=>
 RR (sCall (Value.func (.func 67) #[] #[]) [g0]) h0 fun i0 j0=>
 GuardV i0 false (
 RR (sOp (.load 32 (.const a0)) 32) j0 fun k0 l0=>
 RR (sCall (Value.func (.func 121) #[] #[]) [k0]) l0 fun m0 n0=>
 GuardV e0 true (
 RR (sOp (.pick (.const i0) (.const (Value.bool true)) (.const m0)) 4) n0 fun o0 q0=>
 GuardV o0 false (
 RR (sOp (.load 32 (.const a0)) 32) q0 fun s0 t0=>
 RR (sCall (Value.func (.func 141) #[] #[]) [s0]) t0 fun u0 v0=>
 GuardV e0 true (
 RR (sOp (.pick (.const o0) (.const (Value.bool true)) (.const u0)) 4) v0 fun w0 x0=>
 RR (sOp (.pick (.const e0) (.const w0) (.const (Value.bool false))) 4) x0 fun y0 z0=>
 R (.returned y0) z0) (
 RR (sOp (.pick (.const e0) (.const undef) (.const (Value.bool false))) 4) v0 fun A0 B0=>
 R (.returned A0) B0)) (
 GuardV e0 true (
 RR (sOp (.pick (.const o0) (.const (Value.bool true)) (.const undef)) 4) q0 fun C0 D0=>
 RR (sOp (.pick (.const e0) (.const C0) (.const (Value.bool false))) 4) D0 fun E0 F0=>
 R (.returned E0) F0) (
 RR (sOp (.pick (.const e0) (.const undef) (.const (Value.bool false))) 4) q0 fun G0 H0=>
 R (.returned G0) H0))) (
 GuardV undef false (
 RR (sOp (.load 32 (.const a0)) 32) n0 fun I0 J0=>
 RR (sCall (Value.func (.func 141) #[] #[]) [I0]) J0 fun K0 L0=>
 GuardV e0 true (
 RR (sOp (.pick (.const undef) (.const (Value.bool true)) (.const K0)) 4) L0 fun M0 N0=>
 RR (sOp (.pick (.const e0) (.const M0) (.const (Value.bool false))) 4) N0 fun O0 P0=>
 R (.returned O0) P0) (
 RR (sOp (.pick (.const e0) (.const undef) (.const (Value.bool false))) 4) L0 fun Q0 S0=>
 R (.returned Q0) S0)) (
 GuardV e0 true (
 RR (sOp (.pick (.const undef) (.const (Value.bool true)) (.const undef)) 4) n0 fun T0 U0=>
 RR (sOp (.pick (.const e0) (.const T0) (.const (Value.bool false))) 4) U0 fun V0 W0=>
 R (.returned V0) W0) (
 RR (sOp (.pick (.const e0) (.const undef) (.const (Value.bool false))) 4) n0 fun X0 Y0=>
 R (.returned X0) Y0)))) (
 GuardV e0 true (
 RR (sOp (.pick (.const i0) (.const (Value.bool true)) (.const undef)) 4) j0 fun Z0 a1=>
 GuardV Z0 false (
 RR (sOp (.load 32 (.const a0)) 32) a1 fun b1 c1=>
 RR (sCall (Value.func (.func 141) #[] #[]) [b1]) c1 fun d1 e1=>
 GuardV e0 true (
 RR (sOp (.pick (.const Z0) (.const (Value.bool true)) (.const d1)) 4) e1 fun f1 g1=>
 RR (sOp (.pick (.const e0) (.const f1) (.const (Value.bool false))) 4) g1 fun h1 i1=>
 R (.returned h1) i1) (
 RR (sOp (.pick (.const e0) (.const undef) (.const (Value.bool false))) 4) e1 fun j1 k1=>
 R (.returned j1) k1)) (
 GuardV e0 true (
 RR (sOp (.pick (.const Z0) (.const (Value.bool true)) (.const undef)) 4) a1 fun l1 m1=>
 RR (sOp (.pick (.const e0) (.const l1) (.const (Value.bool false))) 4) m1 fun n1 o1=>
 R (.returned n1) o1) (
 RR (sOp (.pick (.const e0) (.const undef) (.const (Value.bool false))) 4) a1 fun q1 s1=>
 R (.returned q1) s1))) (
 GuardV undef false (
 RR (sOp (.load 32 (.const a0)) 32) j0 fun t1 u1=>
 RR (sCall (Value.func (.func 141) #[] #[]) [t1]) u1 fun v1 w1=>
 GuardV e0 true (
 RR (sOp (.pick (.const undef) (.const (Value.bool true)) (.const v1)) 4) w1 fun x1 y1=>
 RR (sOp (.pick (.const e0) (.const x1) (.const (Value.bool false))) 4) y1 fun z1 A1=>
 R (.returned z1) A1) (
 RR (sOp (.pick (.const e0) (.const undef) (.const (Value.bool false))) 4) w1 fun B1 C1=>
 R (.returned B1) C1)) (
 GuardV e0 true (
 RR (sOp (.pick (.const undef) (.const (Value.bool true)) (.const undef)) 4) j0 fun D1 E1=>
 RR (sOp (.pick (.const e0) (.const D1) (.const (Value.bool false))) 4) E1 fun F1 G1=>
 R (.returned F1) G1) (
 RR (sOp (.pick (.const e0) (.const undef) (.const (Value.bool false))) 4) j0 fun H1 I1=>
 R (.returned H1) I1))))) (
 GuardV undef false (
 RR (sOp (.load 32 (.const a0)) 32) f0 fun J1 K1=>
 RR (sCall (Value.func (.func 121) #[] #[]) [J1]) K1 fun L1 M1=>
 GuardV e0 true (
 RR (sOp (.pick (.const undef) (.const (Value.bool true)) (.const L1)) 4) M1 fun N1 O1=>
 GuardV N1 false (
 RR (sOp (.load 32 (.const a0)) 32) O1 fun P1 Q1=>
 RR (sCall (Value.func (.func 141) #[] #[]) [P1]) Q1 fun S1 T1=>
 GuardV e0 true (
 RR (sOp (.pick (.const N1) (.const (Value.bool true)) (.const S1)) 4) T1 fun U1 V1=>
 RR (sOp (.pick (.const e0) (.const U1) (.const (Value.bool false))) 4) V1 fun W1 X1=>
 R (.returned W1) X1) (
 RR (sOp (.pick (.const e0) (.const undef) (.const (Value.bool false))) 4) T1 fun Y1 Z1=>
 R (.returned Y1) Z1)) (
 GuardV e0 true (
 RR (sOp (.pick (.const N1) (.const (Value.bool true)) (.const undef)) 4) O1 fun a2 b2=>
 RR (sOp (.pick (.const e0) (.const a2) (.const (Value.bool false))) 4) b2 fun c2 d2=>
 R (.returned c2) d2) (
 RR (sOp (.pick (.const e0) (.const undef) (.const (Value.bool false))) 4) O1 fun e2 f2=>
 R (.returned e2) f2))) (
 GuardV undef false (
 RR (sOp (.load 32 (.const a0)) 32) M1 fun g2 h2=>
 RR (sCall (Value.func (.func 141) #[] #[]) [g2]) h2 fun i2 j2=>
 GuardV e0 true (
 RR (sOp (.pick (.const undef) (.const (Value.bool true)) (.const i2)) 4) j2 fun k2 l2=>
 RR (sOp (.pick (.const e0) (.const k2) (.const (Value.bool false))) 4) l2 fun m2 n2=>
 R (.returned m2) n2) (
 RR (sOp (.pick (.const e0) (.const undef) (.const (Value.bool false))) 4) j2 fun o2 q2=>
 R (.returned o2) q2)) (
 GuardV e0 true (
 RR (sOp (.pick (.const undef) (.const (Value.bool true)) (.const undef)) 4) M1 fun s2 t2=>
 RR (sOp (.pick (.const e0) (.const s2) (.const (Value.bool false))) 4) t2 fun u2 v2=>
 R (.returned u2) v2) (
 RR (sOp (.pick (.const e0) (.const undef) (.const (Value.bool false))) 4) M1 fun w2 x2=>
 R (.returned w2) x2)))) (
 GuardV e0 true (
 RR (sOp (.pick (.const undef) (.const (Value.bool true)) (.const undef)) 4) f0 fun y2 z2=>
 GuardV y2 false (
 RR (sOp (.load 32 (.const a0)) 32) z2 fun A2 B2=>
 RR (sCall (Value.func (.func 141) #[] #[]) [A2]) B2 fun C2 D2=>
 GuardV e0 true (
 RR (sOp (.pick (.const y2) (.const (Value.bool true)) (.const C2)) 4) D2 fun E2 F2=>
 RR (sOp (.pick (.const e0) (.const E2) (.const (Value.bool false))) 4) F2 fun G2 H2=>
 R (.returned G2) H2) (
 RR (sOp (.pick (.const e0) (.const undef) (.const (Value.bool false))) 4) D2 fun I2 J2=>
 R (.returned I2) J2)) (
 GuardV e0 true (
 RR (sOp (.pick (.const y2) (.const (Value.bool true)) (.const undef)) 4) z2 fun K2 L2=>
 RR (sOp (.pick (.const e0) (.const K2) (.const (Value.bool false))) 4) L2 fun M2 N2=>
 R (.returned M2) N2) (
 RR (sOp (.pick (.const e0) (.const undef) (.const (Value.bool false))) 4) z2 fun O2 P2=>
 R (.returned O2) P2))) (
 GuardV undef false (
 RR (sOp (.load 32 (.const a0)) 32) f0 fun Q2 S2=>
 RR (sCall (Value.func (.func 141) #[] #[]) [Q2]) S2 fun T2 U2=>
 GuardV e0 true (
 RR (sOp (.pick (.const undef) (.const (Value.bool true)) (.const T2)) 4) U2 fun V2 W2=>
 RR (sOp (.pick (.const e0) (.const V2) (.const (Value.bool false))) 4) W2 fun X2 Y2=>
 R (.returned X2) Y2) (
 RR (sOp (.pick (.const e0) (.const undef) (.const (Value.bool false))) 4) U2 fun Z2 a3=>
 R (.returned Z2) a3)) (
 GuardV e0 true (
 RR (sOp (.pick (.const undef) (.const (Value.bool true)) (.const undef)) 4) f0 fun b3 c3=>
 RR (sOp (.pick (.const e0) (.const b3) (.const (Value.bool false))) 4) c3 fun d3 e3=>
 R (.returned d3) e3) (
 RR (sOp (.pick (.const e0) (.const undef) (.const (Value.bool false))) 4) f0 fun f3 g3=>
 R (.returned f3) g3)))))
theorem mY {p0:Value} {w:World} {R:Ending->World->Prop} (h:iX p0 w R):Calls Tryz.prog 124 #[p0] w R:=
  calls_sh .leaf [p0] aw Tryz.func124 (by kernel_rfl) (by kernel_rfl) h


/- loop.example/prologserver/spec.l18Cut : function 125 -/
def qJ (p0 p1:Value) (w:World) (R:Ending->World->Prop):Prop:=
 RR (sBuildSlice 82 0 []) w fun a0 b0=>
 (∃ (c0:Value->Value->Value->World->Prop) (d0:Value->Value->Value->World->Nat),c0 (Value.int .i64 0) (Value.int .i64 0) a0 b0/\
 ∀ e0 _ _ f0 _ _ g0 _ _ _ _ _ _ _ _ _ _ _ _ _ _ _ _ _ _ _ _ _ _:Value,∀ h0:World,c0 e0 f0 g0 h0->
 RR (sBuiltin .len #[9] 3 [false] [p0]) h0 fun i0 j0=>
 RR (sBin .leq 3 false false e0 i0) j0 fun k0 l0=>
 CondV k0 (
 (∃ m0:Value->Value->World->Prop,(
 (∃ n0:Value->World->Prop,(
 RR (sBuiltin .len #[9] 3 [false] [p0]) l0 fun o0 q0=>
 RR (sBin .eql 3 false false e0 o0) q0 fun s0 t0=>
 GuardV s0 false (
 RR (sOp (.index 9 (.const p0) (.const e0)) 5) t0 fun u0 v0=>
 RR (sBin .eql 5 false false u0 p1) v0 fun w0 x0=>
 RR (sOp (.pick (.const s0) (.const (Value.bool true)) (.const w0)) 4) x0 fun y0 z0=>
 n0 y0 z0) (
 RR (sOp (.pick (.const s0) (.const (Value.bool true)) (.const undef)) 4) t0 fun A0 B0=>
 n0 A0 B0))/\
 ∀ C0 _ _ _ _ _ _ _ _ _ _:Value,∀ D0:World,n0 C0 D0->
 CondV C0 (
 RR (sOp (.slice 9 (.const p0) (some (.const f0)) (some (.const e0)) none) 9) D0 fun E0 F0=>
 RR (sBuildSlice 82 1 [(0,E0)]) F0 fun G0 H0=>
 RR (sBuiltin .append #[82,82] 82 [false,false] [g0,G0]) H0 fun I0 J0=>
 RR (sBin .add 3 false true e0 (Value.int .i64 1)) J0 fun K0 L0=>
 m0 K0 I0 L0) (
 m0 f0 g0 D0)))/\
 ∀ M0 _ _ N0 _ _ _ _ _ _ _ _ _ _ _ _ _ _ _ _ _ _:Value,∀ O0:World,m0 M0 N0 O0->
 RR (sBin .add 3 false true e0 (Value.int .i64 1)) O0 fun P0 Q0=>
 c0 P0 M0 N0 Q0/\d0 P0 M0 N0 Q0<d0 e0 f0 g0 h0)) (
 R (.returned g0) l0))
theorem sj {p0 p1:Value} {w:World} {R:Ending->World->Prop} (h:qJ p0 p1 w R):Calls Tryz.prog 125 #[p0,p1] w R:=
  calls_sh (.seq none .leaf (.seq none .leaf (.seq none .leaf (.seq none (.seq none .leaf (.one (.loop [7,6,5] (.seq none .leaf (.seq (some [6,5]) (.one (.seq (some [25]) .leaf .leaf)) .leaf))))) .leaf)))) [p0,p1] aw Tryz.func125 (by kernel_rfl) (by kernel_rfl) h


/- loop.example/prologserver/spec.ParseClause : function 126 -/
def fW (p0:Value) (w:World) (R:Ending->World->Prop):Prop:=
 RR (sOp (.alloc 34) 0) w fun a0 b0=>
 RR (sBuiltin .len #[9] 3 [false] [p0]) b0 fun c0 d0=>
 RR (sBin .gtr 3 false true c0 (Value.int .i64 1000)) d0 fun e0 f0=>
 CondV e0 (
 RR (sBuild 34 []) f0 fun g0 h0=>
 RR (sOp (.store 34 (.const a0) (.const g0)) 0) h0 fun _u i0=>
 (LoadV Tryz.prog 34 a0 i0 fun r0=>R (.returned (.tuple #[r0,(Value.bool false)])) i0)) (
 RR (sCall (Value.func (.func 162) #[] #[]) [p0,(Value.int .i64 0),(Value.int .i64 30),(Value.int .i64 3)]) f0 fun j0 k0=>
 RR (sOp (.extract (.const j0) 0) 32) k0 fun l0 m0=>
 RR (sOp (.extract (.const j0) 1) 3) m0 fun n0 o0=>
 RR (sOp (.alloc 32) 0) o0 fun q0 s0=>
 RR (sOp (.store 32 (.const q0) (.const l0)) 0) s0 fun _u t0=>
 RR (sBin .lss 3 false true n0 (Value.int .i64 0)) t0 fun u0 v0=>
 CondV u0 (
 RR (sBuild 34 []) v0 fun w0 x0=>
 RR (sOp (.store 34 (.const a0) (.const w0)) 0) x0 fun _u y0=>
 (LoadV Tryz.prog 34 a0 y0 fun r0=>R (.returned (.tuple #[r0,(Value.bool false)])) y0)) (
 RR (sOp (.load 32 (.const q0)) 32) v0 fun z0 A0=>
 RR (sBuild 34 [(0,z0)]) A0 fun B0 C0=>
 RR (sOp (.alloc 34) 0) C0 fun D0 E0=>
 RR (sOp (.store 34 (.const D0) (.const B0)) 0) E0 fun _u F0=>
 (∃ G0:Value->World->Prop,(
 (∃ H0:Value->World->Prop,(
 RR (sCall (Value.func (.func 163) #[] #[]) [p0,n0,(Value.int .u8 58)]) F0 fun I0 J0=>
 GuardV I0 true (
 RR (sBin .add 3 false true n0 (Value.int .i64 1)) J0 fun K0 L0=>
 RR (sCall (Value.func (.func 163) #[] #[]) [p0,K0,(Value.int .u8 45)]) L0 fun M0 N0=>
 RR (sOp (.pick (.const I0) (.const M0) (.const (Value.bool false))) 4) N0 fun O0 P0=>
 H0 O0 P0) (
 RR (sOp (.pick (.const I0) (.const undef) (.const (Value.bool false))) 4) J0 fun Q0 S0=>
 H0 Q0 S0))/\
 ∀ T0 _ _ _ _ _ _ _ _:Value,∀ U0:World,H0 T0 U0->
 CondV T0 (
 RR (sBin .add 3 false true n0 (Value.int .i64 2)) U0 fun V0 W0=>
 RR (sCall (Value.func (.func 164) #[] #[]) [p0,V0]) W0 fun X0 Y0=>
 RR (sOp (.extract (.const X0) 0) 30) Y0 fun Z0 a1=>
 RR (sOp (.extract (.const X0) 1) 3) a1 fun b1 c1=>
 RR (sOp (.fieldAddr 34 (.const D0) 1) 0) c1 fun d1 e1=>
 RR (sOp (.store 30 (.const d1) (.const Z0)) 0) e1 fun _u f1=>
 G0 b1 f1) (
 G0 n0 U0)))/\
 ∀ g1 _ _ _ _ _ _ _ _ _ _ _ _ _ _ _ _ _:Value,∀ h1:World,G0 g1 h1->
 (∃ i1:Value->World->Prop,(
 RR (sBuiltin .len #[9] 3 [false] [p0]) h1 fun j1 k1=>
 RR (sBin .sub 3 false true j1 (Value.int .i64 1)) k1 fun l1 m1=>
 RR (sBin .neq 3 false false g1 l1) m1 fun n1 o1=>
 GuardV n1 false (
 RR (sCall (Value.func (.func 163) #[] #[]) [p0,g1,(Value.int .u8 46)]) o1 fun q1 s1=>
 RR (sOp (.unOp .not 4 (.const q1)) 4) s1 fun t1 u1=>
 RR (sOp (.pick (.const n1) (.const (Value.bool true)) (.const t1)) 4) u1 fun v1 w1=>
 GuardV v1 false (
 RR (sOp (.load 34 (.const D0)) 34) w1 fun x1 y1=>
 RR (sCall (Value.func (.func 165) #[] #[]) [x1]) y1 fun z1 A1=>
 RR (sBin .neq 9 false false z1 p0) A1 fun B1 C1=>
 RR (sOp (.pick (.const v1) (.const (Value.bool true)) (.const B1)) 4) C1 fun D1 E1=>
 i1 D1 E1) (
 RR (sOp (.pick (.const v1) (.const (Value.bool true)) (.const undef)) 4) w1 fun F1 G1=>
 i1 F1 G1)) (
 RR (sOp (.pick (.const n1) (.const (Value.bool true)) (.const undef)) 4) o1 fun H1 I1=>
 GuardV H1 false (
 RR (sOp (.load 34 (.const D0)) 34) I1 fun J1 K1=>
 RR (sCall (Value.func (.func 165) #[] #[]) [J1]) K1 fun L1 M1=>
 RR (sBin .neq 9 false false L1 p0) M1 fun N1 O1=>
 RR (sOp (.pick (.const H1) (.const (Value.bool true)) (.const N1)) 4) O1 fun P1 Q1=>
 i1 P1 Q1) (
 RR (sOp (.pick (.const H1) (.const (Value.bool true)) (.const undef)) 4) I1 fun S1 T1=>
 i1 S1 T1)))/\
 ∀ U1 _ _ _ _ _ _ _ _ _ _ _ _ _ _ _ _:Value,∀ V1:World,i1 U1 V1->
 CondV U1 (
 RR (sBuild 34 []) V1 fun W1 X1=>
 RR (sOp (.store 34 (.const a0) (.const W1)) 0) X1 fun _u Y1=>
 (LoadV Tryz.prog 34 a0 Y1 fun r0=>R (.returned (.tuple #[r0,(Value.bool false)])) Y1)) (
 RR (sOp (.load 34 (.const D0)) 34) V1 fun Z1 a2=>
 RR (sCall (Value.func (.func 111) #[] #[]) [Z1]) a2 fun b2 c2=>
 RR (sOp (.store 34 (.const a0) (.const b2)) 0) c2 fun _ d2=>
 (LoadV Tryz.prog 34 a0 d2 fun r0=>R (.returned (.tuple #[r0,(Value.bool true)])) d2))))))
theorem kV {p0:Value} {w:World} {R:Ending->World->Prop} (h:fW p0 w R):Calls Tryz.prog 126 #[p0] w R:=
  calls_sh (.seq none .leaf (.seq none .leaf (.seq none .leaf (.seq none .leaf (.seq none .leaf (.seq (some [5]) (.seq (some [29]) .leaf .leaf) (.seq none (.seq (some [54]) .leaf .leaf) .leaf))))))) [p0] aw Tryz.func126 (by kernel_rfl) (by kernel_rfl) h


/- loop.example/prologserver/impl.ownList : function 128 -/
def nl (p0:Value) (w:World) (R:Ending->World->Prop):Prop:=
 RR (sBuiltin .len #[30] 3 [false] [p0]) w fun a0 b0=>
 (∃ (c0:Value->Value->World->Prop) (d0:Value->Value->World->Nat),c0 (Value.int .i64 0) (Value.slice none 0 0) b0/\
 ∀ e0 _ f0 _ _ _ _ _ _ _ _ _:Value,∀ g0:World,c0 e0 f0 g0->
 RR (sBin .lss 3 false false e0 a0) g0 fun h0 i0=>
 CondV h0 (
 RR (sOp (.indexAddr 30 (.const p0) (.const e0)) 0) i0 fun j0 k0=>
 RR (sOp (.load 32 (.const j0)) 32) k0 fun l0 m0=>
 RR (sOp (.alloc 32) 0) m0 fun n0 o0=>
 RR (sOp (.store 32 (.const n0) (.const l0)) 0) o0 fun _ q0=>
 RR (sOp (.load 32 (.const n0)) 32) q0 fun s0 t0=>
 RR (sCall (Value.func (.func 89) #[] #[]) [s0]) t0 fun u0 v0=>
 RR (sBuildSlice 30 1 [(0,u0)]) v0 fun w0 x0=>
 RR (sBuiltin .append #[30,30] 30 [false,false] [f0,w0]) x0 fun y0 z0=>
 RR (sBin .add 3 false true e0 (Value.int .i64 1)) z0 fun A0 B0=>
 c0 A0 y0 B0/\d0 A0 y0 B0<d0 e0 f0 g0) (
 R (.returned f0) i0))
theorem ri {p0:Value} {w:World} {R:Ending->World->Prop} (h:nl p0 w R):Calls Tryz.prog 128 #[p0] w R:=
  calls_sh (.seq none .leaf (.seq none .leaf (.seq none (.seq none .leaf (.one (.loop [8,3] .leaf))) .leaf))) [p0] aw Tryz.func128 (by kernel_rfl) (by kernel_rfl) h


/- slices.Clip[[]loop.example/prologserver/impl.Term,loop.example/prologserver/impl.Term] : function 129 -/
def kf (p0:Value) (w:World) (R:Ending->World->Prop):Prop:=
 RR (sBuiltin .len #[30] 3 [false] [p0]) w fun a0 b0=>
 RR (sBuiltin .len #[30] 3 [false] [p0]) b0 fun c0 d0=>
 RR (sOp (.slice 30 (.const p0) none (some (.const a0)) (some (.const c0))) 30) d0 fun e0 f0=>
 R (.returned e0) f0
theorem nF {p0:Value} {w:World} {R:Ending->World->Prop} (h:kf p0 w R):Calls Tryz.prog 129 #[p0] w R:=
  calls_sh .leaf [p0] aw Tryz.func129 (by kernel_rfl) (by kernel_rfl) h


/- loop.example/prologserver/impl.varsOf : function 131 -/
def qP (p0:Value) (w:World) (R:Ending->World->Prop):Prop:=
 RR (sBuiltin .len #[30] 3 [false] [p0]) w fun a0 b0=>
 (∃ (c0:Value->Value->World->Prop) (d0:Value->Value->World->Nat),c0 (Value.int .i64 0) (Value.slice none 0 0) b0/\
 ∀ e0 _ f0 _ _ _ _ _ _ _:Value,∀ g0:World,c0 e0 f0 g0->
 RR (sBin .lss 3 false false e0 a0) g0 fun h0 i0=>
 CondV h0 (
 RR (sOp (.indexAddr 30 (.const p0) (.const e0)) 0) i0 fun j0 k0=>
 RR (sOp (.load 32 (.const j0)) 32) k0 fun l0 m0=>
 RR (sOp (.alloc 32) 0) m0 fun n0 o0=>
 RR (sOp (.store 32 (.const n0) (.const l0)) 0) o0 fun _ q0=>
 RR (sOp (.load 32 (.const n0)) 32) q0 fun s0 t0=>
 RR (sCall (Value.func (.func 168) #[] #[]) [s0,f0]) t0 fun u0 v0=>
 RR (sBin .add 3 false true e0 (Value.int .i64 1)) v0 fun w0 x0=>
 c0 w0 u0 x0/\d0 w0 u0 x0<d0 e0 f0 g0) (
 R (.returned f0) i0))
theorem sM {p0:Value} {w:World} {R:Ending->World->Prop} (h:qP p0 w R):Calls Tryz.prog 131 #[p0] w R:=
  calls_sh (.seq none .leaf (.seq none .leaf (.seq none (.seq none .leaf (.one (.loop [8,3] .leaf))) .leaf))) [p0] aw Tryz.func131 (by kernel_rfl) (by kernel_rfl) h


/- loop.example/prologserver/impl.mapVars : function 132 -/
def gu (p0 p1:Value) (w:World) (R:Ending->World->Prop):Prop:=
 RR (sOp (.box 32 (.const p0)) 0) w fun a0 b0=>
 RR (sOp (.alloc 32) 0) b0 fun c0 d0=>
 RR (sOp (.fieldAddr 32 (.const a0) 0) 0) d0 fun e0 f0=>
 RR (sOp (.load 3 (.const e0)) 3) f0 fun g0 h0=>
 RR (sBin .eql 3 false true g0 (Value.int .i64 1)) h0 fun i0 j0=>
 CondV i0 (
 RR (sOp (.fieldAddr 32 (.const a0) 1) 0) j0 fun k0 l0=>
 RR (sOp (.load 3 (.const k0)) 3) l0 fun m0 n0=>
 RR (sCall p1 [m0]) n0 fun o0 q0=>
 RR (sOp (.store 32 (.const c0) (.const o0)) 0) q0 fun _u s0=>
 (LoadV Tryz.prog 32 c0 s0 fun r0=>R (.returned r0) s0)) (
 RR (sOp (.fieldAddr 32 (.const a0) 3) 0) j0 fun t0 u0=>
 RR (sOp (.load 30 (.const t0)) 30) u0 fun v0 w0=>
 RR (sOp (.fieldAddr 32 (.const a0) 3) 0) w0 fun x0 y0=>
 RR (sOp (.store 30 (.const x0) (.const (Value.slice none 0 0))) 0) y0 fun _u z0=>
 RR (sBuiltin .len #[30] 3 [false] [v0]) z0 fun A0 B0=>
 (∃ (C0:Value->World->Prop) (D0:Value->World->Nat),C0 (Value.int .i64 0) B0/\
 ∀ E0 _ F0 G0 H0 I0 J0 K0 L0 M0 _ _ _ _:Value,∀ N0:World,C0 E0 N0->
 RR (sBin .lss 3 false false E0 A0) N0 fun O0 P0=>
 CondV O0 (
 RR (sOp (.indexAddr 30 (.const v0) (.const E0)) 0) P0 fun Q0 S0=>
 RR (sOp (.load 32 (.const Q0)) 32) S0 fun T0 U0=>
 RR (sOp (.alloc 32) 0) U0 fun V0 W0=>
 RR (sOp (.store 32 (.const V0) (.const T0)) 0) W0 fun _u X0=>
 (∃ Y0:(Nat->Bool)->Value->Value->Value->Value->Value->Value->Value->Value->World->Prop,Y0 (fun _=>false) F0 G0 H0 I0 J0 K0 L0 M0 { X0 with drawn:=X0.drawn+1 }/\(
 (∀ Z0:Nat->Bool,Z0 0=false->∀ a1 b1 c1 d1 e1 f1 g1 h1 i1,Y0 Z0 a1 b1 c1 d1 e1 f1 g1 h1 i1->
 RR (sOp (.fieldAddr 32 (.const a0) 3) 0) i1 fun j1 k1=>
 Y0 (setD Z0 0) a1 b1 c1 d1 e1 f1 g1 j1 k1)/\
 (∀ Z0:Nat->Bool,Z0 1=false->Z0 0=true->∀ a1 b1 c1 d1 e1 f1 g1 h1 l1,Y0 Z0 a1 b1 c1 d1 e1 f1 g1 h1 l1->
 RR (sOp (.load 30 (.const h1)) 30) l1 fun m1 n1=>
 Y0 (setD Z0 1) a1 b1 c1 d1 e1 f1 m1 h1 n1)/\
 (∀ Z0:Nat->Bool,Z0 2=false->∀ a1 b1 c1 d1 e1 f1 g1 h1 o1,Y0 Z0 a1 b1 c1 d1 e1 f1 g1 h1 o1->
 RR (sOp (.load 32 (.const V0)) 32) o1 fun q1 s1=>
 Y0 (setD Z0 2) a1 b1 c1 d1 e1 q1 g1 h1 s1)/\
 (∀ Z0:Nat->Bool,Z0 3=false->∀ a1 b1 c1 d1 e1 f1 g1 h1 t1,Y0 Z0 a1 b1 c1 d1 e1 f1 g1 h1 t1->
 Y0 (setD Z0 3) a1 b1 c1 d1 p1 f1 g1 h1 t1)/\
 (∀ Z0:Nat->Bool,Z0 4=false->Z0 2=true->Z0 3=true->∀ a1 b1 c1 d1 e1 f1 g1 h1 u1,Y0 Z0 a1 b1 c1 d1 e1 f1 g1 h1 u1->
 RR (sCall (Value.func (.func 132) #[] #[]) [f1,e1]) u1 fun v1 w1=>
 Y0 (setD Z0 4) a1 b1 c1 v1 e1 f1 g1 h1 w1)/\
 (∀ Z0:Nat->Bool,Z0 5=false->Z0 4=true->∀ a1 b1 c1 d1 e1 f1 g1 h1 x1,Y0 Z0 a1 b1 c1 d1 e1 f1 g1 h1 x1->
 RR (sBuildSlice 30 1 [(0,d1)]) x1 fun y1 z1=>
 Y0 (setD Z0 5) a1 b1 y1 d1 e1 f1 g1 h1 z1)/\
 (∀ Z0:Nat->Bool,Z0 6=false->Z0 1=true->Z0 5=true->Z0 4=true->∀ a1 b1 c1 d1 e1 f1 g1 h1 A1,Y0 Z0 a1 b1 c1 d1 e1 f1 g1 h1 A1->
 RR (sBuiltin .append #[30,30] 30 [false,false] [g1,c1]) A1 fun B1 C1=>
 Y0 (setD Z0 6) a1 B1 c1 d1 e1 f1 g1 h1 C1)/\
 (∀ Z0:Nat->Bool,Z0 7=false->Z0 0=true->Z0 1=true->Z0 2=true->Z0 3=true->Z0 4=true->Z0 5=true->Z0 6=true->∀ a1 b1 c1 d1 e1 f1 g1 h1 D1,Y0 Z0 a1 b1 c1 d1 e1 f1 g1 h1 D1->
 RR (sOp (.fieldAddr 32 (.const a0) 3) 0) D1 fun E1 F1=>
 Y0 (setD Z0 7) E1 b1 c1 d1 e1 f1 g1 h1 F1)/\
 (∀ Z0:Nat->Bool,Z0 8=false->Z0 7=true->Z0 6=true->Z0 6=true->Z0 0=true->Z0 1=true->Z0 2=true->Z0 3=true->Z0 4=true->Z0 5=true->Z0 6=true->∀ a1 b1 c1 d1 e1 f1 g1 h1 G1,Y0 Z0 a1 b1 c1 d1 e1 f1 g1 h1 G1->
 RR (sOp (.store 30 (.const a1) (.const b1)) 0) G1 fun _u H1=>
 Y0 (setD Z0 8) a1 b1 c1 d1 e1 f1 g1 h1 H1)/\
 True)/\
 ∀ Z0:Nat->Bool,Z0 8=true->Z0 7=true->Z0 6=true->Z0 5=true->Z0 4=true->Z0 3=true->Z0 2=true->Z0 1=true->Z0 0=true->∀ a1 b1 c1 d1 e1 f1 g1 h1 I1,Y0 Z0 a1 b1 c1 d1 e1 f1 g1 h1 I1->
 RR (sBin .add 3 false true E0 (Value.int .i64 1)) I1 fun J1 K1=>
 C0 J1 K1/\D0 J1 K1<D0 E0 N0)) (
 RR (sOp (.load 32 (.const a0)) 32) P0 fun L1 M1=>
 RR (sOp (.store 32 (.const c0) (.const L1)) 0) M1 fun _ N1=>
 (LoadV Tryz.prog 32 c0 N1 fun r0=>R (.returned r0) N1))))
theorem hY {p0 p1:Value} {w:World} {R:Ending->World->Prop} (h:gu p0 p1 w R):Calls Tryz.prog 132 #[p0,p1] w R:=
  calls_sh (.seq none .leaf (.seq none .leaf (.seq none .leaf (.seq none .leaf (.seq none (.seq none .leaf (.one (.loop [20] .leaf))) .leaf))))) [p0,p1] aw Tryz.func132 (by kernel_rfl) (by kernel_rfl) h


/- loop.example/prologserver/impl.renumbered$1 : function 133 -/
def eX (p0 p1:Value) (w:World) (R:Ending->World->Prop):Prop:=
 RR (sOp (.alloc 32) 0) w fun a0 b0=>
 RR (sOp (.load 63 (.const p1)) 63) b0 fun c0 d0=>
 RR (sCall (Value.func (.func 135) #[] #[]) [c0,p0]) d0 fun e0 f0=>
 RR (sCall (Value.func (.func 134) #[] #[]) [e0]) f0 fun g0 h0=>
 RR (sOp (.store 32 (.const a0) (.const g0)) 0) h0 fun _ i0=>
 (LoadV Tryz.prog 32 a0 i0 fun r0=>R (.returned r0) i0)
theorem jY {p0 p1:Value} {w:World} {R:Ending->World->Prop} (h:eX p0 p1 w R):Calls Tryz.prog 133 #[p0,p1] w R:=
  calls_sh .leaf [p0,p1] aw Tryz.func133 (by kernel_rfl) (by kernel_rfl) h


/- loop.example/prologserver/impl.variable : function 134 -/
def lm (p0:Value) (w:World) (R:Ending->World->Prop):Prop:=
 RR (sOp (.alloc 32) 0) w fun a0 b0=>
 RR (sBuild 32 [(0,(Value.int .i64 1)),(1,p0)]) b0 fun c0 d0=>
 RR (sOp (.store 32 (.const a0) (.const c0)) 0) d0 fun _ e0=>
 (LoadV Tryz.prog 32 a0 e0 fun r0=>R (.returned r0) e0)
theorem pU {p0:Value} {w:World} {R:Ending->World->Prop} (h:lm p0 w R):Calls Tryz.prog 134 #[p0] w R:=
  calls_sh .leaf [p0] aw Tryz.func134 (by kernel_rfl) (by kernel_rfl) h


/- slices.Index[[]int,int] : function 135 -/
def jm (p0 p1:Value) (w:World) (R:Ending->World->Prop):Prop:=
 RR (sBuiltin .len #[63] 3 [false] [p0]) w fun a0 b0=>
 (∃ (c0:Value->World->Prop) (d0:Value->World->Nat),c0 (Value.int .i64 0) b0/\
 ∀ e0 _ _ _ _ _ _ _ _ _ _ _ _:Value,∀ f0:World,c0 e0 f0->
 RR (sBin .lss 3 false false e0 a0) f0 fun g0 h0=>
 CondV g0 (
 RR (sOp (.indexAddr 63 (.const p0) (.const e0)) 0) h0 fun i0 j0=>
 RR (sOp (.load 3 (.const i0)) 3) j0 fun k0 l0=>
 RR (sBin .eql 3 false false p1 k0) l0 fun m0 n0=>
 CondV m0 (
 R (.returned e0) n0) (
 RR (sBin .add 3 false true e0 (Value.int .i64 1)) n0 fun o0 q0=>
 c0 o0 q0/\d0 o0 q0<d0 e0 f0)) (
 R (.returned (Value.int .i64 (-1))) h0))
theorem na {p0 p1:Value} {w:World} {R:Ending->World->Prop} (h:jm p0 p1 w R):Calls Tryz.prog 135 #[p0,p1] w R:=
  calls_sh (.seq none .leaf (.seq none (.seq none .leaf (.one (.loop [8] .leaf))) .leaf)) [p0,p1] aw Tryz.func135 (by kernel_rfl) (by kernel_rfl) h


/- loop.example/prologserver/spec.l4Texts : function 136 -/
def pd (w:World) (R:Ending->World->Prop):Prop:=
 RR (sBuildSlice 82 11 [(0,(Value.string ⟨#[97,112,112,40,91,93,44,65,44,65,41,46,10,97,112,112,40,91,65,124,66,93,44,67,44,91,65,124,68,93,41,58,45,97,112,112,40,66,44,67,44,68,41,46,10]⟩)),(1,(Value.string ⟨#[109,101,109,40,65,44,91,65,124,66,93,41,46,10,109,101,109,40,65,44,91,66,124,67,93,41,58,45,109,101,109,40,65,44,67,41,46,10]⟩)),(2,(Value.string ⟨#[112,40,49,41,46,10,112,40,50,41,46,10,112,40,51,41,46,10,113,40,65,41,58,45,112,40,65,41,44,65,62,49,44,33,46,10,114,40,65,44,66,41,58,45,112,40,65,41,44,112,40,66,41,46,10]⟩)),(3,(Value.string ⟨#[108,101,110,40,91,93,44,48,41,46,10,108,101,110,40,91,65,124,66,93,44,67,41,58,45,108,101,110,40,66,44,68,41,44,67,32,105,115,32,68,43,49,46,10]⟩)),(4,(Value.string ⟨#[109,97,120,40,65,44,66,44,65,41,58,45,65,62,61,66,44,33,46,10,109,97,120,40,65,44,66,44,66,41,46,10]⟩)),(5,(Value.string ⟨#[101,40,97,44,98,41,46,10,101,40,98,44,99,41,46,10,101,40,99,44,100,41,46,10,116,40,65,44,66,41,58,45,101,40,65,44,66,41,46,10,116,40,65,44,66,41,58,45,101,40,65,44,67,41,44,116,40,67,44,66,41,46,10]⟩)),(6,(Value.string ⟨#[108,111,111,112,58,45,108,111,111,112,46,10,111,107,46,10]⟩)),(7,(Value.string ⟨#[102,97,99,40,48,44,49,41,58,45,33,46,10,102,97,99,40,65,44,66,41,58,45,65,62,48,44,67,32,105,115,32,65,45,49,44,102,97,99,40,67,44,68,41,44,66,32,105,115,32,65,42,68,46,10]⟩)),(8,(Value.string ⟨#[115,40,65,41,58,45,65,61,102,40,66,41,44,97,114,103,40,49,44,65,44,66,41,44,66,61,49,46,10,115,40,65,41,58,45,118,97,114,40,65,41,44,65,61,110,111,110,101,46,10]⟩)),(9,(Value.string ⟨#[114,101,118,40,91,93,44,65,44,65,41,46,10,114,101,118,40,91,65,124,66,93,44,67,44,68,41,58,45,114,101,118,40,66,44,91,65,124,67,93,44,68,41,46,10]⟩)),(10,(Value.string ⟨#[98,97,100,40,65,41,58,45,66,32,105,115,32,65,43,102,111,111,44,67,61,66,46,10,98,105,103,40,65,41,58,45,65,32,105,115,32,57,57,57,43,49,46,10,117,110,40,65,41,58,45,110,111,115,117,99,104,40,65,41,46,10]⟩))]) w fun a0 b0=>
 R (.returned a0) b0
theorem rV {w:World} {R:Ending->World->Prop} (h:pd w R):Calls Tryz.prog 136 #[] w R:=
  calls_sh .leaf [] aw Tryz.func136 (by kernel_rfl) (by kernel_rfl) h


/- loop.example/prologserver/spec.ParseQuery : function 138 -/
def ij (p0:Value) (w:World) (R:Ending->World->Prop):Prop:=
 RR (sBuiltin .len #[9] 3 [false] [p0]) w fun a0 b0=>
 RR (sBin .gtr 3 false true a0 (Value.int .i64 1000)) b0 fun c0 d0=>
 CondV c0 (
 RR (sBuildSlice 30 0 []) d0 fun e0 f0=>
 R (.returned (.tuple #[e0,(Value.bool false)])) f0) (
 RR (sCall (Value.func (.func 164) #[] #[]) [p0,(Value.int .i64 0)]) d0 fun g0 h0=>
 RR (sOp (.extract (.const g0) 0) 30) h0 fun i0 j0=>
 RR (sOp (.extract (.const g0) 1) 3) j0 fun k0 l0=>
 (∃ m0:Value->World->Prop,(
 RR (sBuiltin .len #[9] 3 [false] [p0]) l0 fun n0 o0=>
 RR (sBin .neq 3 false false k0 n0) o0 fun q0 s0=>
 GuardV q0 false (
 RR (sCall (Value.func (.func 93) #[] #[]) [i0]) s0 fun t0 u0=>
 RR (sOp (.unOp .not 4 (.const t0)) 4) u0 fun v0 w0=>
 RR (sOp (.pick (.const q0) (.const (Value.bool true)) (.const v0)) 4) w0 fun x0 y0=>
 m0 x0 y0) (
 RR (sOp (.pick (.const q0) (.const (Value.bool true)) (.const undef)) 4) s0 fun z0 A0=>
 m0 z0 A0))/\
 ∀ B0 _ _ _ _ _ _ _ _:Value,∀ C0:World,m0 B0 C0->
 CondV B0 (
 RR (sBuildSlice 30 0 []) C0 fun D0 E0=>
 R (.returned (.tuple #[D0,(Value.bool false)])) E0) (
 RR (sBuildSlice 30 0 []) C0 fun F0 G0=>
 (∃ (H0:Value->Value->World->Prop) (I0:Value->Value->World->Nat),H0 (Value.int .i64 0) F0 G0/\
 ∀ J0 _ _ K0 _ _ _ _ _ _ _ _ _ _ _ _:Value,∀ L0:World,H0 J0 K0 L0->
 RR (sBuiltin .len #[30] 3 [false] [i0]) L0 fun M0 N0=>
 RR (sBin .lss 3 false false J0 M0) N0 fun O0 P0=>
 CondV O0 (
 RR (sOp (.indexAddr 30 (.const i0) (.const J0)) 0) P0 fun Q0 S0=>
 RR (sOp (.load 32 (.const Q0)) 32) S0 fun T0 U0=>
 RR (sCall (Value.func (.func 150) #[] #[]) [T0]) U0 fun V0 W0=>
 RR (sBuildSlice 30 1 [(0,V0)]) W0 fun X0 Y0=>
 RR (sBuiltin .append #[30,30] 30 [false,false] [K0,X0]) Y0 fun Z0 a1=>
 RR (sBin .add 3 false true J0 (Value.int .i64 1)) a1 fun b1 c1=>
 H0 b1 Z0 c1/\I0 b1 Z0 c1<I0 J0 K0 L0) (
 R (.returned (.tuple #[K0,(Value.bool true)])) P0)))))
theorem lO {p0:Value} {w:World} {R:Ending->World->Prop} (h:ij p0 w R):Calls Tryz.prog 138 #[p0] w R:=
  calls_sh (.seq none .leaf (.seq none .leaf (.seq none .leaf (.seq none (.seq (some [25]) .leaf .leaf) (.seq none .leaf (.seq none (.seq none .leaf (.one (.loop [7,6] .leaf))) .leaf)))))) [p0] aw Tryz.func138 (by kernel_rfl) (by kernel_rfl) h


/- loop.example/prologserver/spec.l15Pair : function 139 -/
def oK (p0:Value) (w:World) (R:Ending->World->Prop):Prop:=
 RR (sCall (Value.func (.func 170) #[] #[]) []) w fun a0 b0=>
 RR (sBuiltin .len #[82] 3 [false] [a0]) b0 fun c0 d0=>
 RR (sCall (Value.func (.func 61) #[] #[]) [p0,c0]) d0 fun e0 f0=>
 (∃ g0:Value->World->Prop,(
 RR (sCall (Value.func (.func 61) #[] #[]) [p0,(Value.int .i64 3)]) f0 fun h0 i0=>
 RR (sBin .gtr 3 false true h0 (Value.int .i64 0)) i0 fun j0 k0=>
 CondV j0 (
 RR (sCall (Value.func (.func 61) #[] #[]) [p0,(Value.int .i64 4)]) k0 fun l0 m0=>
 g0 l0 m0) (
 g0 e0 k0))/\
 ∀ n0 _ _ _ _ _:Value,∀ o0:World,g0 n0 o0->
 RR (sCall (Value.func (.func 170) #[] #[]) []) o0 fun q0 s0=>
 RR (sOp (.indexAddr 82 (.const q0) (.const n0)) 0) s0 fun t0 u0=>
 RR (sOp (.load 9 (.const t0)) 9) u0 fun v0 w0=>
 RR (sCall (Value.func (.func 72) #[] #[]) [v0]) w0 fun x0 y0=>
 RR (sOp (.extract (.const x0) 0) 23) y0 fun z0 A0=>
 RR (sOp (.extract (.const x0) 1) 4) A0 fun _ B0=>
 RR (sCall (Value.func (.func 171) #[] #[]) []) B0 fun C0 D0=>
 RR (sOp (.indexAddr 82 (.const C0) (.const n0)) 0) D0 fun E0 F0=>
 RR (sOp (.load 9 (.const E0)) 9) F0 fun G0 H0=>
 RR (sCall (Value.func (.func 138) #[] #[]) [G0]) H0 fun I0 J0=>
 RR (sOp (.extract (.const I0) 0) 30) J0 fun K0 L0=>
 RR (sOp (.extract (.const I0) 1) 4) L0 fun _ M0=>
 R (.returned (.tuple #[z0,K0])) M0)
theorem rI {p0:Value} {w:World} {R:Ending->World->Prop} (h:oK p0 w R):Calls Tryz.prog 139 #[p0] w R:=
  calls_sh (.seq none .leaf (.seq none .leaf (.seq (some [4]) .leaf .leaf))) [p0] aw Tryz.func139 (by kernel_rfl) (by kernel_rfl) h


/- (*loop.example/prologserver/spec.l18Rd).num : function 140 -/
def iU (p0 p1:Value) (w:World) (R:Ending->World->Prop):Prop:=
 RR (sBuiltin .len #[63] 3 [false] [p1]) w fun a0 b0=>
 RR (sCall (Value.func (.func 61) #[] #[]) [p0,a0]) b0 fun c0 d0=>
 RR (sOp (.indexAddr 63 (.const p1) (.const c0)) 0) d0 fun e0 f0=>
 RR (sOp (.load 3 (.const e0)) 3) f0 fun g0 h0=>
 R (.returned g0) h0
theorem oZ {p0 p1:Value} {w:World} {R:Ending->World->Prop} (h:iU p0 p1 w R):Calls Tryz.prog 140 #[p0,p1] w R:=
  calls_sh .leaf [p0,p1] aw Tryz.func140 (by kernel_rfl) (by kernel_rfl) h


/- loop.example/prologserver/impl.isCut : function 141 -/
def tc (p0:Value) (w:World) (R:Ending->World->Prop):Prop:=
 RR (sOp (.box 32 (.const p0)) 0) w fun a0 b0=>
 RR (sOp (.load 32 (.const a0)) 32) b0 fun c0 d0=>
 RR (sCall (Value.func (.func 172) #[] #[]) [c0]) d0 fun e0 f0=>
 GuardV e0 true (
 RR (sOp (.fieldAddr 32 (.const a0) 2) 0) f0 fun g0 h0=>
 RR (sOp (.load 9 (.const g0)) 9) h0 fun i0 j0=>
 RR (sBin .eql 9 false true i0 (Value.string ⟨#[33]⟩)) j0 fun k0 l0=>
 RR (sOp (.pick (.const e0) (.const k0) (.const (Value.bool false))) 4) l0 fun m0 n0=>
 R (.returned m0) n0) (
 RR (sOp (.pick (.const e0) (.const undef) (.const (Value.bool false))) 4) f0 fun o0 q0=>
 R (.returned o0) q0)
theorem uB {p0:Value} {w:World} {R:Ending->World->Prop} (h:tc p0 w R):Calls Tryz.prog 141 #[p0] w R:=
  calls_sh .leaf [p0] aw Tryz.func141 (by kernel_rfl) (by kernel_rfl) h


/- slices.IndexFunc[[]int,int] : function 142 -/
def eN (p0 p1:Value) (w:World) (R:Ending->World->Prop):Prop:=
 RR (sBuiltin .len #[63] 3 [false] [p0]) w fun a0 b0=>
 (∃ (c0:Value->World->Prop) (d0:Value->World->Nat),c0 (Value.int .i64 0) b0/\
 ∀ e0 _ _ _ _ _ _ _ _ _ _ _ _:Value,∀ f0:World,c0 e0 f0->
 RR (sBin .lss 3 false false e0 a0) f0 fun g0 h0=>
 CondV g0 (
 RR (sOp (.indexAddr 63 (.const p0) (.const e0)) 0) h0 fun i0 j0=>
 RR (sOp (.load 3 (.const i0)) 3) j0 fun k0 l0=>
 RR (sCall p1 [k0]) l0 fun m0 n0=>
 CondV m0 (
 R (.returned e0) n0) (
 RR (sBin .add 3 false true e0 (Value.int .i64 1)) n0 fun o0 q0=>
 c0 o0 q0/\d0 o0 q0<d0 e0 f0)) (
 R (.returned (Value.int .i64 (-1))) h0))
theorem iv {p0 p1:Value} {w:World} {R:Ending->World->Prop} (h:eN p0 p1 w R):Calls Tryz.prog 142 #[p0,p1] w R:=
  calls_sh (.seq none .leaf (.seq none (.seq none .leaf (.one (.loop [8] .leaf))) .leaf)) [p0,p1] aw Tryz.func142 (by kernel_rfl) (by kernel_rfl) h


/- loop.example/prologserver/impl.newStore : function 143 -/
def lp (w:World) (R:Ending->World->Prop):Prop:=
 RR (sOp (.makeMap 77 none) 77) w fun a0 b0=>
 RR (sBuild 148 [(0,a0)]) b0 fun c0 d0=>
 RR (sOp (.box 148 (.const c0)) 128) d0 fun e0 f0=>
 R (.returned e0) f0
theorem qa {w:World} {R:Ending->World->Prop} (h:lp w R):Calls Tryz.prog 143 #[] w R:=
  calls_sh .leaf [] aw Tryz.func143 (by kernel_rfl) (by kernel_rfl) h


/- loop.example/prologserver/impl.resolvent$1 : function 144 -/
def gj (p0:Value) (w:World) (R:Ending->World->Prop):Prop:=
 RR (sOp (.alloc 32) 0) w fun a0 b0=>
 RR (sBin .add 3 false true p0 (Value.int .i64 25)) b0 fun c0 d0=>
 RR (sBin .add 3 false true c0 (Value.int .i64 1)) d0 fun e0 f0=>
 RR (sCall (Value.func (.func 134) #[] #[]) [e0]) f0 fun g0 h0=>
 RR (sOp (.store 32 (.const a0) (.const g0)) 0) h0 fun _ i0=>
 (LoadV Tryz.prog 32 a0 i0 fun r0=>R (.returned r0) i0)
theorem lc {p0:Value} {w:World} {R:Ending->World->Prop} (h:gj p0 w R):Calls Tryz.prog 144 #[p0] w R:=
  calls_sh .leaf [p0] aw Tryz.func144 (by kernel_rfl) (by kernel_rfl) h


/- (*loop.example/prologserver/impl.store).unify : function 145 -/
def fZ (p0 p1 p2:Value) (w:World) (R:Ending->World->Prop):Prop:=
 RR (sOp (.box 32 (.const p1)) 0) w fun a0 b0=>
 RR (sOp (.box 32 (.const p2)) 0) b0 fun c0 d0=>
 (∃ e0:(Nat->Bool)->Value->Value->Value->Value->Value->Value->World->Prop,e0 (fun _=>false) undef undef undef undef undef undef { d0 with drawn:=d0.drawn+1 }/\(
 (∀ f0:Nat->Bool,f0 0=false->∀ g0 h0 i0 j0 k0 l0 m0,e0 f0 g0 h0 i0 j0 k0 l0 m0->
 e0 (setD f0 0) g0 h0 i0 j0 k0 p0 m0)/\
 (∀ f0:Nat->Bool,f0 1=false->∀ g0 h0 i0 j0 k0 l0 n0,e0 f0 g0 h0 i0 j0 k0 l0 n0->
 RR (sOp (.load 32 (.const a0)) 32) n0 fun o0 q0=>
 e0 (setD f0 1) g0 h0 i0 j0 o0 l0 q0)/\
 (∀ f0:Nat->Bool,f0 2=false->f0 0=true->f0 1=true->∀ g0 h0 i0 j0 k0 l0 s0,e0 f0 g0 h0 i0 j0 k0 l0 s0->
 RR (sCall (Value.func (.func 173) #[] #[]) [l0,k0]) s0 fun t0 u0=>
 e0 (setD f0 2) g0 h0 i0 t0 k0 l0 u0)/\
 (∀ f0:Nat->Bool,f0 3=false->∀ g0 h0 i0 j0 k0 l0 v0,e0 f0 g0 h0 i0 j0 k0 l0 v0->
 e0 (setD f0 3) g0 h0 p0 j0 k0 l0 v0)/\
 (∀ f0:Nat->Bool,f0 4=false->∀ g0 h0 i0 j0 k0 l0 w0,e0 f0 g0 h0 i0 j0 k0 l0 w0->
 RR (sOp (.load 32 (.const c0)) 32) w0 fun x0 y0=>
 e0 (setD f0 4) g0 x0 i0 j0 k0 l0 y0)/\
 (∀ f0:Nat->Bool,f0 5=false->f0 3=true->f0 4=true->f0 2=true->∀ g0 h0 i0 j0 k0 l0 z0,e0 f0 g0 h0 i0 j0 k0 l0 z0->
 RR (sCall (Value.func (.func 173) #[] #[]) [i0,h0]) z0 fun A0 B0=>
 e0 (setD f0 5) A0 h0 i0 j0 k0 l0 B0)/\
 (∀ f0:Nat->Bool,f0 6=false->f0 2=true->f0 5=true->f0 0=true->f0 1=true->f0 2=true->∀ g0 h0 i0 j0 k0 l0 C0,e0 f0 g0 h0 i0 j0 k0 l0 C0->
 RR (sOp (.store 32 (.const a0) (.const j0)) 0) C0 fun _u D0=>
 e0 (setD f0 6) g0 h0 i0 j0 k0 l0 D0)/\
 (∀ f0:Nat->Bool,f0 7=false->f0 5=true->f0 6=true->f0 0=true->f0 1=true->f0 2=true->f0 3=true->f0 4=true->f0 5=true->f0 6=true->∀ g0 h0 i0 j0 k0 l0 E0,e0 f0 g0 h0 i0 j0 k0 l0 E0->
 RR (sOp (.store 32 (.const c0) (.const g0)) 0) E0 fun _ F0=>
 e0 (setD f0 7) g0 h0 i0 j0 k0 l0 F0)/\
 True)/\
 ∀ f0:Nat->Bool,f0 7=true->f0 6=true->f0 5=true->f0 4=true->f0 3=true->f0 2=true->f0 1=true->f0 0=true->∀ g0 h0 i0 j0 k0 l0 G0,e0 f0 g0 h0 i0 j0 k0 l0 G0->
 (∃ H0:Value->World->Prop,(
 RR (sOp (.fieldAddr 32 (.const a0) 0) 0) G0 fun I0 J0=>
 RR (sOp (.load 3 (.const I0)) 3) J0 fun K0 L0=>
 RR (sBin .eql 3 false true K0 (Value.int .i64 1)) L0 fun M0 N0=>
 GuardV M0 true (
 RR (sOp (.fieldAddr 32 (.const c0) 0) 0) N0 fun O0 P0=>
 RR (sOp (.load 3 (.const O0)) 3) P0 fun Q0 S0=>
 RR (sBin .eql 3 false true Q0 (Value.int .i64 1)) S0 fun T0 U0=>
 RR (sOp (.pick (.const M0) (.const T0) (.const (Value.bool false))) 4) U0 fun V0 W0=>
 GuardV V0 true (
 RR (sOp (.fieldAddr 32 (.const a0) 1) 0) W0 fun X0 Y0=>
 RR (sOp (.load 3 (.const X0)) 3) Y0 fun Z0 a1=>
 RR (sOp (.fieldAddr 32 (.const c0) 1) 0) a1 fun b1 c1=>
 RR (sOp (.load 3 (.const b1)) 3) c1 fun d1 e1=>
 RR (sBin .eql 3 false false Z0 d1) e1 fun f1 g1=>
 RR (sOp (.pick (.const V0) (.const f1) (.const (Value.bool false))) 4) g1 fun h1 i1=>
 H0 h1 i1) (
 RR (sOp (.pick (.const V0) (.const undef) (.const (Value.bool false))) 4) W0 fun j1 k1=>
 H0 j1 k1)) (
 RR (sOp (.pick (.const M0) (.const undef) (.const (Value.bool false))) 4) N0 fun l1 m1=>
 GuardV l1 true (
 RR (sOp (.fieldAddr 32 (.const a0) 1) 0) m1 fun n1 o1=>
 RR (sOp (.load 3 (.const n1)) 3) o1 fun q1 s1=>
 RR (sOp (.fieldAddr 32 (.const c0) 1) 0) s1 fun t1 u1=>
 RR (sOp (.load 3 (.const t1)) 3) u1 fun v1 w1=>
 RR (sBin .eql 3 false false q1 v1) w1 fun x1 y1=>
 RR (sOp (.pick (.const l1) (.const x1) (.const (Value.bool false))) 4) y1 fun z1 A1=>
 H0 z1 A1) (
 RR (sOp (.pick (.const l1) (.const undef) (.const (Value.bool false))) 4) m1 fun B1 C1=>
 H0 B1 C1)))/\
 ∀ D1 _ _ _ _ _ _ _ _ _ _ _ _ _ _ _:Value,∀ E1:World,H0 D1 E1->
 CondV D1 (
 R (.returned (Value.bool true)) E1) (
 RR (sOp (.fieldAddr 32 (.const a0) 0) 0) E1 fun F1 G1=>
 RR (sOp (.load 3 (.const F1)) 3) G1 fun H1 I1=>
 RR (sBin .eql 3 false true H1 (Value.int .i64 1)) I1 fun J1 K1=>
 CondV J1 (
 RR (sOp (.fieldAddr 32 (.const a0) 1) 0) K1 fun L1 M1=>
 RR (sOp (.load 3 (.const L1)) 3) M1 fun N1 O1=>
 RR (sOp (.load 32 (.const c0)) 32) O1 fun P1 Q1=>
 RR (sCall (Value.func (.func 174) #[] #[]) [p0,N1,P1]) Q1 fun S1 T1=>
 R (.returned S1) T1) (
 RR (sOp (.fieldAddr 32 (.const c0) 0) 0) K1 fun U1 V1=>
 RR (sOp (.load 3 (.const U1)) 3) V1 fun W1 X1=>
 RR (sBin .eql 3 false true W1 (Value.int .i64 1)) X1 fun Y1 Z1=>
 CondV Y1 (
 RR (sOp (.fieldAddr 32 (.const c0) 1) 0) Z1 fun a2 b2=>
 RR (sOp (.load 3 (.const a2)) 3) b2 fun c2 d2=>
 RR (sOp (.load 32 (.const a0)) 32) d2 fun e2 f2=>
 RR (sCall (Value.func (.func 174) #[] #[]) [p0,c2,e2]) f2 fun g2 h2=>
 R (.returned g2) h2) (
 (∃ i2:Value->World->Prop,(
 RR (sOp (.fieldAddr 32 (.const a0) 0) 0) Z1 fun j2 k2=>
 RR (sOp (.load 3 (.const j2)) 3) k2 fun l2 m2=>
 RR (sOp (.fieldAddr 32 (.const c0) 0) 0) m2 fun n2 o2=>
 RR (sOp (.load 3 (.const n2)) 3) o2 fun q2 s2=>
 RR (sBin .neq 3 false false l2 q2) s2 fun t2 u2=>
 GuardV t2 false (
 RR (sOp (.fieldAddr 32 (.const a0) 1) 0) u2 fun v2 w2=>
 RR (sOp (.load 3 (.const v2)) 3) w2 fun x2 y2=>
 RR (sOp (.fieldAddr 32 (.const c0) 1) 0) y2 fun z2 A2=>
 RR (sOp (.load 3 (.const z2)) 3) A2 fun B2 C2=>
 RR (sBin .neq 3 false false x2 B2) C2 fun D2 E2=>
 RR (sOp (.pick (.const t2) (.const (Value.bool true)) (.const D2)) 4) E2 fun F2 G2=>
 GuardV F2 false (
 RR (sOp (.fieldAddr 32 (.const a0) 2) 0) G2 fun H2 I2=>
 RR (sOp (.load 9 (.const H2)) 9) I2 fun J2 K2=>
 RR (sOp (.fieldAddr 32 (.const c0) 2) 0) K2 fun L2 M2=>
 RR (sOp (.load 9 (.const L2)) 9) M2 fun N2 O2=>
 RR (sBin .neq 9 false false J2 N2) O2 fun P2 Q2=>
 RR (sOp (.pick (.const F2) (.const (Value.bool true)) (.const P2)) 4) Q2 fun S2 T2=>
 GuardV S2 false (
 RR (sOp (.fieldAddr 32 (.const a0) 3) 0) T2 fun U2 V2=>
 RR (sOp (.load 30 (.const U2)) 30) V2 fun W2 X2=>
 RR (sBuiltin .len #[30] 3 [false] [W2]) X2 fun Y2 Z2=>
 RR (sOp (.fieldAddr 32 (.const c0) 3) 0) Z2 fun a3 b3=>
 RR (sOp (.load 30 (.const a3)) 30) b3 fun c3 d3=>
 RR (sBuiltin .len #[30] 3 [false] [c3]) d3 fun e3 f3=>
 RR (sBin .neq 3 false false Y2 e3) f3 fun g3 h3=>
 RR (sOp (.pick (.const S2) (.const (Value.bool true)) (.const g3)) 4) h3 fun i3 j3=>
 i2 i3 j3) (
 RR (sOp (.pick (.const S2) (.const (Value.bool true)) (.const undef)) 4) T2 fun k3 l3=>
 i2 k3 l3)) (
 RR (sOp (.pick (.const F2) (.const (Value.bool true)) (.const undef)) 4) G2 fun m3 n3=>
 GuardV m3 false (
 RR (sOp (.fieldAddr 32 (.const a0) 3) 0) n3 fun o3 q3=>
 RR (sOp (.load 30 (.const o3)) 30) q3 fun s3 t3=>
 RR (sBuiltin .len #[30] 3 [false] [s3]) t3 fun u3 v3=>
 RR (sOp (.fieldAddr 32 (.const c0) 3) 0) v3 fun w3 x3=>
 RR (sOp (.load 30 (.const w3)) 30) x3 fun y3 z3=>
 RR (sBuiltin .len #[30] 3 [false] [y3]) z3 fun A3 B3=>
 RR (sBin .neq 3 false false u3 A3) B3 fun C3 D3=>
 RR (sOp (.pick (.const m3) (.const (Value.bool true)) (.const C3)) 4) D3 fun E3 F3=>
 i2 E3 F3) (
 RR (sOp (.pick (.const m3) (.const (Value.bool true)) (.const undef)) 4) n3 fun G3 H3=>
 i2 G3 H3))) (
 RR (sOp (.pick (.const t2) (.const (Value.bool true)) (.const undef)) 4) u2 fun I3 J3=>
 GuardV I3 false (
 RR (sOp (.fieldAddr 32 (.const a0) 2) 0) J3 fun K3 L3=>
 RR (sOp (.load 9 (.const K3)) 9) L3 fun M3 N3=>
 RR (sOp (.fieldAddr 32 (.const c0) 2) 0) N3 fun O3 P3=>
 RR (sOp (.load 9 (.const O3)) 9) P3 fun Q3 S3=>
 RR (sBin .neq 9 false false M3 Q3) S3 fun T3 U3=>
 RR (sOp (.pick (.const I3) (.const (Value.bool true)) (.const T3)) 4) U3 fun V3 W3=>
 GuardV V3 false (
 RR (sOp (.fieldAddr 32 (.const a0) 3) 0) W3 fun X3 Y3=>
 RR (sOp (.load 30 (.const X3)) 30) Y3 fun Z3 a4=>
 RR (sBuiltin .len #[30] 3 [false] [Z3]) a4 fun b4 c4=>
 RR (sOp (.fieldAddr 32 (.const c0) 3) 0) c4 fun d4 e4=>
 RR (sOp (.load 30 (.const d4)) 30) e4 fun f4 g4=>
 RR (sBuiltin .len #[30] 3 [false] [f4]) g4 fun h4 i4=>
 RR (sBin .neq 3 false false b4 h4) i4 fun j4 k4=>
 RR (sOp (.pick (.const V3) (.const (Value.bool true)) (.const j4)) 4) k4 fun l4 m4=>
 i2 l4 m4) (
 RR (sOp (.pick (.const V3) (.const (Value.bool true)) (.const undef)) 4) W3 fun n4 o4=>
 i2 n4 o4)) (
 RR (sOp (.pick (.const I3) (.const (Value.bool true)) (.const undef)) 4) J3 fun q4 s4=>
 GuardV q4 false (
 RR (sOp (.fieldAddr 32 (.const a0) 3) 0) s4 fun t4 u4=>
 RR (sOp (.load 30 (.const t4)) 30) u4 fun v4 w4=>
 RR (sBuiltin .len #[30] 3 [false] [v4]) w4 fun x4 y4=>
 RR (sOp (.fieldAddr 32 (.const c0) 3) 0) y4 fun z4 A4=>
 RR (sOp (.load 30 (.const z4)) 30) A4 fun B4 C4=>
 RR (sBuiltin .len #[30] 3 [false] [B4]) C4 fun D4 E4=>
 RR (sBin .neq 3 false false x4 D4) E4 fun F4 G4=>
 RR (sOp (.pick (.const q4) (.const (Value.bool true)) (.const F4)) 4) G4 fun H4 I4=>
 i2 H4 I4) (
 RR (sOp (.pick (.const q4) (.const (Value.bool true)) (.const undef)) 4) s4 fun J4 K4=>
 i2 J4 K4))))/\
 ∀ L4 _ _ _ _ _ _ _ _ _ _ _ _ _ _ _ _ _ _ _ _ _ _ _ _ _ _ _ _:Value,∀ M4:World,i2 L4 M4->
 CondV L4 (
 R (.returned (Value.bool false)) M4) (
 RR (sOp (.fieldAddr 32 (.const a0) 3) 0) M4 fun N4 O4=>
 RR (sOp (.load 30 (.const N4)) 30) O4 fun P4 Q4=>
 RR (sBuiltin .len #[30] 3 [false] [P4]) Q4 fun S4 T4=>
 (∃ (U4:Value->World->Prop) (V4:Value->World->Nat),U4 (Value.int .i64 0) T4/\
 ∀ W4 _ _ X4 Y4 Z4 a5 b5 c5 d5 e5 f5 g5 h5 i5 j5 _ _ _:Value,∀ k5:World,U4 W4 k5->
 RR (sBin .lss 3 false false W4 S4) k5 fun l5 m5=>
 CondV l5 (
 (∃ n5:(Nat->Bool)->Value->Value->Value->Value->Value->Value->Value->Value->Value->Value->Value->Value->Value->World->Prop,n5 (fun _=>false) X4 Y4 Z4 a5 b5 c5 d5 e5 f5 g5 h5 i5 j5 { m5 with drawn:=m5.drawn+1 }/\(
 (∀ o5:Nat->Bool,o5 0=false->∀ q5 s5 t5 u5 v5 w5 x5 y5 z5 A5 B5 C5 D5 E5,n5 o5 q5 s5 t5 u5 v5 w5 x5 y5 z5 A5 B5 C5 D5 E5->
 n5 (setD o5 0) q5 s5 t5 u5 v5 w5 x5 y5 z5 A5 B5 C5 p0 E5)/\
 (∀ o5:Nat->Bool,o5 1=false->∀ q5 s5 t5 u5 v5 w5 x5 y5 z5 A5 B5 C5 D5 F5,n5 o5 q5 s5 t5 u5 v5 w5 x5 y5 z5 A5 B5 C5 D5 F5->
 RR (sOp (.fieldAddr 32 (.const a0) 3) 0) F5 fun G5 H5=>
 n5 (setD o5 1) q5 s5 t5 u5 v5 w5 x5 y5 z5 A5 B5 G5 D5 H5)/\
 (∀ o5:Nat->Bool,o5 2=false->o5 1=true->∀ q5 s5 t5 u5 v5 w5 x5 y5 z5 A5 B5 C5 D5 I5,n5 o5 q5 s5 t5 u5 v5 w5 x5 y5 z5 A5 B5 C5 D5 I5->
 RR (sOp (.load 30 (.const C5)) 30) I5 fun J5 K5=>
 n5 (setD o5 2) q5 s5 t5 u5 v5 w5 x5 y5 z5 A5 J5 C5 D5 K5)/\
 (∀ o5:Nat->Bool,o5 3=false->∀ q5 s5 t5 u5 v5 w5 x5 y5 z5 A5 B5 C5 D5 L5,n5 o5 q5 s5 t5 u5 v5 w5 x5 y5 z5 A5 B5 C5 D5 L5->
 n5 (setD o5 3) q5 s5 t5 u5 v5 w5 x5 y5 z5 W4 B5 C5 D5 L5)/\
 (∀ o5:Nat->Bool,o5 4=false->o5 2=true->o5 3=true->∀ q5 s5 t5 u5 v5 w5 x5 y5 z5 A5 B5 C5 D5 M5,n5 o5 q5 s5 t5 u5 v5 w5 x5 y5 z5 A5 B5 C5 D5 M5->
 RR (sOp (.indexAddr 30 (.const B5) (.const A5)) 0) M5 fun N5 O5=>
 n5 (setD o5 4) q5 s5 t5 u5 v5 w5 x5 y5 N5 A5 B5 C5 D5 O5)/\
 (∀ o5:Nat->Bool,o5 5=false->o5 4=true->∀ q5 s5 t5 u5 v5 w5 x5 y5 z5 A5 B5 C5 D5 P5,n5 o5 q5 s5 t5 u5 v5 w5 x5 y5 z5 A5 B5 C5 D5 P5->
 RR (sOp (.load 32 (.const z5)) 32) P5 fun Q5 S5=>
 n5 (setD o5 5) q5 s5 t5 u5 v5 w5 x5 Q5 z5 A5 B5 C5 D5 S5)/\
 (∀ o5:Nat->Bool,o5 6=false->∀ q5 s5 t5 u5 v5 w5 x5 y5 z5 A5 B5 C5 D5 T5,n5 o5 q5 s5 t5 u5 v5 w5 x5 y5 z5 A5 B5 C5 D5 T5->
 RR (sOp (.fieldAddr 32 (.const c0) 3) 0) T5 fun U5 V5=>
 n5 (setD o5 6) q5 s5 t5 u5 v5 w5 U5 y5 z5 A5 B5 C5 D5 V5)/\
 (∀ o5:Nat->Bool,o5 7=false->o5 6=true->∀ q5 s5 t5 u5 v5 w5 x5 y5 z5 A5 B5 C5 D5 W5,n5 o5 q5 s5 t5 u5 v5 w5 x5 y5 z5 A5 B5 C5 D5 W5->
 RR (sOp (.load 30 (.const x5)) 30) W5 fun X5 Y5=>
 n5 (setD o5 7) q5 s5 t5 u5 v5 X5 x5 y5 z5 A5 B5 C5 D5 Y5)/\
 (∀ o5:Nat->Bool,o5 8=false->∀ q5 s5 t5 u5 v5 w5 x5 y5 z5 A5 B5 C5 D5 Z5,n5 o5 q5 s5 t5 u5 v5 w5 x5 y5 z5 A5 B5 C5 D5 Z5->
 n5 (setD o5 8) q5 s5 t5 u5 W4 w5 x5 y5 z5 A5 B5 C5 D5 Z5)/\
 (∀ o5:Nat->Bool,o5 9=false->o5 7=true->o5 8=true->∀ q5 s5 t5 u5 v5 w5 x5 y5 z5 A5 B5 C5 D5 a6,n5 o5 q5 s5 t5 u5 v5 w5 x5 y5 z5 A5 B5 C5 D5 a6->
 RR (sOp (.indexAddr 30 (.const w5) (.const v5)) 0) a6 fun b6 c6=>
 n5 (setD o5 9) q5 s5 t5 b6 v5 w5 x5 y5 z5 A5 B5 C5 D5 c6)/\
 (∀ o5:Nat->Bool,o5 10=false->o5 9=true->∀ q5 s5 t5 u5 v5 w5 x5 y5 z5 A5 B5 C5 D5 d6,n5 o5 q5 s5 t5 u5 v5 w5 x5 y5 z5 A5 B5 C5 D5 d6->
 RR (sOp (.load 32 (.const u5)) 32) d6 fun e6 f6=>
 n5 (setD o5 10) q5 s5 e6 u5 v5 w5 x5 y5 z5 A5 B5 C5 D5 f6)/\
 (∀ o5:Nat->Bool,o5 11=false->o5 0=true->o5 5=true->o5 10=true->∀ q5 s5 t5 u5 v5 w5 x5 y5 z5 A5 B5 C5 D5 g6,n5 o5 q5 s5 t5 u5 v5 w5 x5 y5 z5 A5 B5 C5 D5 g6->
 RR (sCall (Value.func (.func 145) #[] #[]) [D5,y5,t5]) g6 fun h6 i6=>
 n5 (setD o5 11) q5 h6 t5 u5 v5 w5 x5 y5 z5 A5 B5 C5 D5 i6)/\
 (∀ o5:Nat->Bool,o5 12=false->o5 11=true->∀ q5 s5 t5 u5 v5 w5 x5 y5 z5 A5 B5 C5 D5 j6,n5 o5 q5 s5 t5 u5 v5 w5 x5 y5 z5 A5 B5 C5 D5 j6->
 RR (sOp (.unOp .not 4 (.const s5)) 4) j6 fun k6 l6=>
 n5 (setD o5 12) k6 s5 t5 u5 v5 w5 x5 y5 z5 A5 B5 C5 D5 l6)/\
 True)/\
 ∀ o5:Nat->Bool,o5 12=true->o5 11=true->o5 10=true->o5 9=true->o5 8=true->o5 7=true->o5 6=true->o5 5=true->o5 4=true->o5 3=true->o5 2=true->o5 1=true->o5 0=true->∀ q5 s5 t5 u5 v5 w5 x5 y5 z5 A5 B5 C5 D5 m6,n5 o5 q5 s5 t5 u5 v5 w5 x5 y5 z5 A5 B5 C5 D5 m6->
 CondV q5 (
 R (.returned (Value.bool false)) m6) (
 RR (sBin .add 3 false true W4 (Value.int .i64 1)) m6 fun n6 o6=>
 U4 n6 o6/\V4 n6 o6<V4 W4 k5))) (
 R (.returned (Value.bool true)) m5)))))))))
theorem kT {p0 p1 p2:Value} {w:World} {R:Ending->World->Prop} (h:fZ p0 p1 p2 w R):Calls Tryz.prog 145 #[p0,p1,p2] w R:=
  calls_sh (.seq none .leaf (.seq none .leaf (.seq none (.one (.seq (some [14]) .leaf (.two .leaf (.seq none .leaf (.two .leaf (.seq none .leaf (.two .leaf (.seq (some [48]) .leaf .leaf)))))))) (.seq none (.seq none .leaf (.one (.loop [80] .leaf))) .leaf)))) [p0,p1,p2] aw Tryz.func145 (by kernel_rfl) (by kernel_rfl) h


/- (*loop.example/prologserver/impl.store).resolve : function 146 -/
def eB (p0 p1:Value) (w:World) (R:Ending->World->Prop):Prop:=
 RR (sOp (.box 32 (.const p1)) 0) w fun a0 b0=>
 RR (sOp (.alloc 32) 0) b0 fun c0 d0=>
 RR (sOp (.alloc 3) 0) d0 fun e0 f0=>
 RR (sOp (.store 3 (.const e0) (.const (Value.int .i64 0))) 0) f0 fun _u g0=>
 RR (sOp (.load 32 (.const a0)) 32) g0 fun h0 i0=>
 RR (sCall (Value.func (.func 175) #[] #[]) [p0,h0,(Value.int .i64 1),e0]) i0 fun j0 k0=>
 RR (sOp (.extract (.const j0) 0) 32) k0 fun l0 m0=>
 RR (sOp (.extract (.const j0) 1) 4) m0 fun n0 o0=>
 RR (sOp (.store 32 (.const c0) (.const l0)) 0) o0 fun _ q0=>
 (LoadV Tryz.prog 32 c0 q0 fun r0=>R (.returned (.tuple #[r0,n0])) q0)
theorem iu {p0 p1:Value} {w:World} {R:Ending->World->Prop} (h:eB p0 p1 w R):Calls Tryz.prog 146 #[p0,p1] w R:=
  calls_sh .leaf [p0,p1] aw Tryz.func146 (by kernel_rfl) (by kernel_rfl) h


/- loop.example/prologserver/spec.l4Cut : function 147 -/
def tu (p0:Value) (w:World) (R:Ending->World->Prop):Prop:=
 RR (sOp (.box 32 (.const p0)) 0) w fun a0 b0=>
 RR (sOp (.fieldAddr 32 (.const a0) 0) 0) b0 fun c0 d0=>
 RR (sOp (.load 3 (.const c0)) 3) d0 fun e0 f0=>
 RR (sBin .eql 3 false true e0 (Value.int .i64 3)) f0 fun g0 h0=>
 GuardV g0 true (
 RR (sOp (.fieldAddr 32 (.const a0) 2) 0) h0 fun i0 j0=>
 RR (sOp (.load 9 (.const i0)) 9) j0 fun k0 l0=>
 RR (sBin .eql 9 false true k0 (Value.string ⟨#[33]⟩)) l0 fun m0 n0=>
 RR (sOp (.pick (.const g0) (.const m0) (.const (Value.bool false))) 4) n0 fun o0 q0=>
 GuardV o0 true (
 RR (sOp (.fieldAddr 32 (.const a0) 3) 0) q0 fun s0 t0=>
 RR (sOp (.load 30 (.const s0)) 30) t0 fun u0 v0=>
 RR (sBuiltin .len #[30] 3 [false] [u0]) v0 fun w0 x0=>
 RR (sBin .eql 3 false true w0 (Value.int .i64 0)) x0 fun y0 z0=>
 RR (sOp (.pick (.const o0) (.const y0) (.const (Value.bool false))) 4) z0 fun A0 B0=>
 R (.returned A0) B0) (
 RR (sOp (.pick (.const o0) (.const undef) (.const (Value.bool false))) 4) q0 fun C0 D0=>
 R (.returned C0) D0)) (
 RR (sOp (.pick (.const g0) (.const undef) (.const (Value.bool false))) 4) h0 fun E0 F0=>
 GuardV E0 true (
 RR (sOp (.fieldAddr 32 (.const a0) 3) 0) F0 fun G0 H0=>
 RR (sOp (.load 30 (.const G0)) 30) H0 fun I0 J0=>
 RR (sBuiltin .len #[30] 3 [false] [I0]) J0 fun K0 L0=>
 RR (sBin .eql 3 false true K0 (Value.int .i64 0)) L0 fun M0 N0=>
 RR (sOp (.pick (.const E0) (.const M0) (.const (Value.bool false))) 4) N0 fun O0 P0=>
 R (.returned O0) P0) (
 RR (sOp (.pick (.const E0) (.const undef) (.const (Value.bool false))) 4) F0 fun Q0 S0=>
 R (.returned Q0) S0))
theorem uE {p0:Value} {w:World} {R:Ending->World->Prop} (h:tu p0 w R):Calls Tryz.prog 147 #[p0] w R:=
  calls_sh .leaf [p0] aw Tryz.func147 (by kernel_rfl) (by kernel_rfl) h


/- loop.example/prologserver/spec.l1Var : function 148 -/
def tE (p0:Value) (w:World) (R:Ending->World->Prop):Prop:=
 RR (sOp (.alloc 32) 0) w fun a0 b0=>
 RR (sBuild 32 [(0,(Value.int .i64 1)),(1,p0)]) b0 fun c0 d0=>
 RR (sOp (.store 32 (.const a0) (.const c0)) 0) d0 fun _ e0=>
 (LoadV Tryz.prog 32 a0 e0 fun r0=>R (.returned r0) e0)
theorem ux {p0:Value} {w:World} {R:Ending->World->Prop} (h:tE p0 w R):Calls Tryz.prog 148 #[p0] w R:=
  calls_sh .leaf [p0] aw Tryz.func148 (by kernel_rfl) (by kernel_rfl) h


/- loop.example/prologserver/spec.l1Int : function 149 -/
def td (p0:Value) (w:World) (R:Ending->World->Prop):Prop:=
 RR (sOp (.alloc 32) 0) w fun a0 b0=>
 RR (sBuild 32 [(0,(Value.int .i64 2)),(1,p0)]) b0 fun c0 d0=>
 RR (sOp (.store 32 (.const a0) (.const c0)) 0) d0 fun _ e0=>
 (LoadV Tryz.prog 32 a0 e0 fun r0=>R (.returned r0) e0)
theorem vF {p0:Value} {w:World} {R:Ending->World->Prop} (h:td p0 w R):Calls Tryz.prog 149 #[p0] w R:=
  calls_sh .leaf [p0] aw Tryz.func149 (by kernel_rfl) (by kernel_rfl) h

end Go.Proofs.YtmnnpgdeecnfpaaGreat

/- Made by program: the functions in a shallow form; each form gives Calls. -/
import Derived.Test.YtmnnpgdeecnfpaaGreatVcCalls
import Derived.Test.YtmnnpgdeecnfpaaGreatProg
import Derived.Test.YtmnnpgdeecnfpaaGreatZPgh0
import Derived.KernelRfl
set_option maxRecDepth 100000
namespace Go.Proofs.YtmnnpgdeecnfpaaGreat
open Go
/- loop.example/prologserver/spec.l1Copy : function 150 -/
def jO (p0:Value) (w:World) (R:Ending->World->Prop):Prop:=
 RR (sOp (.box 32 (.const p0)) 0) w fun a0 b0=>
 RR (sOp (.alloc 32) 0) b0 fun c0 d0=>
 RR (sOp (.fieldAddr 32 (.const a0) 0) 0) d0 fun e0 f0=>
 RR (sOp (.load 3 (.const e0)) 3) f0 fun g0 h0=>
 RR (sOp (.fieldAddr 32 (.const a0) 1) 0) h0 fun i0 j0=>
 RR (sOp (.load 3 (.const i0)) 3) j0 fun k0 l0=>
 RR (sOp (.fieldAddr 32 (.const a0) 2) 0) l0 fun m0 n0=>
 RR (sOp (.load 9 (.const m0)) 9) n0 fun o0 q0=>
 RR (sBuild 32 [(0,g0),(1,k0),(2,o0)]) q0 fun s0 t0=>
 RR (sOp (.alloc 32) 0) t0 fun u0 v0=>
 RR (sOp (.store 32 (.const u0) (.const s0)) 0) v0 fun _u w0=>
 (∃ (x0:Value->World->Prop) (y0:Value->World->Nat),x0 (Value.int .i64 0) w0/\
 ∀ z0 _ _ A0 B0 C0 D0 E0 F0 G0 H0 I0 J0 K0 _ _ _ _ _:Value,∀ L0:World,x0 z0 L0->
 RR (sOp (.fieldAddr 32 (.const a0) 3) 0) L0 fun M0 N0=>
 RR (sOp (.load 30 (.const M0)) 30) N0 fun O0 P0=>
 RR (sBuiltin .len #[30] 3 [false] [O0]) P0 fun Q0 S0=>
 RR (sBin .lss 3 false false z0 Q0) S0 fun T0 U0=>
 CondV T0 (
 (∃ V0:(Nat->Bool)->Value->Value->Value->Value->Value->Value->Value->Value->Value->Value->Value->World->Prop,V0 (fun _=>false) A0 B0 C0 D0 E0 F0 G0 H0 I0 J0 K0 { U0 with drawn:=U0.drawn+1 }/\(
 (∀ W0:Nat->Bool,W0 0=false->∀ X0 Y0 Z0 a1 b1 c1 d1 e1 f1 g1 h1 i1,V0 W0 X0 Y0 Z0 a1 b1 c1 d1 e1 f1 g1 h1 i1->
 RR (sOp (.fieldAddr 32 (.const u0) 3) 0) i1 fun j1 k1=>
 V0 (setD W0 0) X0 Y0 Z0 a1 b1 c1 d1 e1 f1 g1 j1 k1)/\
 (∀ W0:Nat->Bool,W0 1=false->W0 0=true->∀ X0 Y0 Z0 a1 b1 c1 d1 e1 f1 g1 h1 l1,V0 W0 X0 Y0 Z0 a1 b1 c1 d1 e1 f1 g1 h1 l1->
 RR (sOp (.load 30 (.const h1)) 30) l1 fun m1 n1=>
 V0 (setD W0 1) X0 Y0 Z0 a1 b1 c1 d1 e1 f1 m1 h1 n1)/\
 (∀ W0:Nat->Bool,W0 2=false->∀ X0 Y0 Z0 a1 b1 c1 d1 e1 f1 g1 h1 o1,V0 W0 X0 Y0 Z0 a1 b1 c1 d1 e1 f1 g1 h1 o1->
 RR (sOp (.fieldAddr 32 (.const a0) 3) 0) o1 fun q1 s1=>
 V0 (setD W0 2) X0 Y0 Z0 a1 b1 c1 d1 e1 q1 g1 h1 s1)/\
 (∀ W0:Nat->Bool,W0 3=false->W0 2=true->∀ X0 Y0 Z0 a1 b1 c1 d1 e1 f1 g1 h1 t1,V0 W0 X0 Y0 Z0 a1 b1 c1 d1 e1 f1 g1 h1 t1->
 RR (sOp (.load 30 (.const f1)) 30) t1 fun u1 v1=>
 V0 (setD W0 3) X0 Y0 Z0 a1 b1 c1 d1 u1 f1 g1 h1 v1)/\
 (∀ W0:Nat->Bool,W0 4=false->∀ X0 Y0 Z0 a1 b1 c1 d1 e1 f1 g1 h1 w1,V0 W0 X0 Y0 Z0 a1 b1 c1 d1 e1 f1 g1 h1 w1->
 V0 (setD W0 4) X0 Y0 Z0 a1 b1 c1 z0 e1 f1 g1 h1 w1)/\
 (∀ W0:Nat->Bool,W0 5=false->W0 3=true->W0 4=true->∀ X0 Y0 Z0 a1 b1 c1 d1 e1 f1 g1 h1 x1,V0 W0 X0 Y0 Z0 a1 b1 c1 d1 e1 f1 g1 h1 x1->
 RR (sOp (.indexAddr 30 (.const e1) (.const d1)) 0) x1 fun y1 z1=>
 V0 (setD W0 5) X0 Y0 Z0 a1 b1 y1 d1 e1 f1 g1 h1 z1)/\
 (∀ W0:Nat->Bool,W0 6=false->W0 5=true->∀ X0 Y0 Z0 a1 b1 c1 d1 e1 f1 g1 h1 A1,V0 W0 X0 Y0 Z0 a1 b1 c1 d1 e1 f1 g1 h1 A1->
 RR (sOp (.load 32 (.const c1)) 32) A1 fun B1 C1=>
 V0 (setD W0 6) X0 Y0 Z0 a1 B1 c1 d1 e1 f1 g1 h1 C1)/\
 (∀ W0:Nat->Bool,W0 7=false->W0 6=true->∀ X0 Y0 Z0 a1 b1 c1 d1 e1 f1 g1 h1 D1,V0 W0 X0 Y0 Z0 a1 b1 c1 d1 e1 f1 g1 h1 D1->
 RR (sCall (Value.func (.func 150) #[] #[]) [b1]) D1 fun E1 F1=>
 V0 (setD W0 7) X0 Y0 Z0 E1 b1 c1 d1 e1 f1 g1 h1 F1)/\
 (∀ W0:Nat->Bool,W0 8=false->W0 7=true->∀ X0 Y0 Z0 a1 b1 c1 d1 e1 f1 g1 h1 G1,V0 W0 X0 Y0 Z0 a1 b1 c1 d1 e1 f1 g1 h1 G1->
 RR (sBuildSlice 30 1 [(0,a1)]) G1 fun H1 I1=>
 V0 (setD W0 8) X0 Y0 H1 a1 b1 c1 d1 e1 f1 g1 h1 I1)/\
 (∀ W0:Nat->Bool,W0 9=false->W0 1=true->W0 8=true->W0 7=true->∀ X0 Y0 Z0 a1 b1 c1 d1 e1 f1 g1 h1 J1,V0 W0 X0 Y0 Z0 a1 b1 c1 d1 e1 f1 g1 h1 J1->
 RR (sBuiltin .append #[30,30] 30 [false,false] [g1,Z0]) J1 fun K1 L1=>
 V0 (setD W0 9) X0 K1 Z0 a1 b1 c1 d1 e1 f1 g1 h1 L1)/\
 (∀ W0:Nat->Bool,W0 10=false->W0 0=true->W0 1=true->W0 2=true->W0 3=true->W0 4=true->W0 5=true->W0 6=true->W0 7=true->W0 8=true->W0 9=true->∀ X0 Y0 Z0 a1 b1 c1 d1 e1 f1 g1 h1 M1,V0 W0 X0 Y0 Z0 a1 b1 c1 d1 e1 f1 g1 h1 M1->
 RR (sOp (.fieldAddr 32 (.const u0) 3) 0) M1 fun N1 O1=>
 V0 (setD W0 10) N1 Y0 Z0 a1 b1 c1 d1 e1 f1 g1 h1 O1)/\
 (∀ W0:Nat->Bool,W0 11=false->W0 10=true->W0 9=true->W0 9=true->W0 0=true->W0 1=true->W0 2=true->W0 3=true->W0 4=true->W0 5=true->W0 6=true->W0 7=true->W0 8=true->W0 9=true->∀ X0 Y0 Z0 a1 b1 c1 d1 e1 f1 g1 h1 P1,V0 W0 X0 Y0 Z0 a1 b1 c1 d1 e1 f1 g1 h1 P1->
 RR (sOp (.store 30 (.const X0) (.const Y0)) 0) P1 fun _u Q1=>
 V0 (setD W0 11) X0 Y0 Z0 a1 b1 c1 d1 e1 f1 g1 h1 Q1)/\
 True)/\
 ∀ W0:Nat->Bool,W0 11=true->W0 10=true->W0 9=true->W0 8=true->W0 7=true->W0 6=true->W0 5=true->W0 4=true->W0 3=true->W0 2=true->W0 1=true->W0 0=true->∀ X0 Y0 Z0 a1 b1 c1 d1 e1 f1 g1 h1 S1,V0 W0 X0 Y0 Z0 a1 b1 c1 d1 e1 f1 g1 h1 S1->
 RR (sBin .add 3 false true z0 (Value.int .i64 1)) S1 fun T1 U1=>
 x0 T1 U1/\y0 T1 U1<y0 z0 L0)) (
 RR (sOp (.load 32 (.const u0)) 32) U0 fun V1 W1=>
 RR (sOp (.store 32 (.const c0) (.const V1)) 0) W1 fun _ X1=>
 (LoadV Tryz.prog 32 c0 X1 fun r0=>R (.returned r0) X1)))
theorem js {p0:Value} {w:World} {R:Ending->World->Prop} (h:jO p0 w R):Calls Tryz.prog 150 #[p0] w R:=
  calls_sh (.seq none .leaf (.seq none .leaf (.seq none (.seq none .leaf (.one (.loop [4] .leaf))) .leaf))) [p0] aw Tryz.func150 (by kernel_rfl) (by kernel_rfl) h


/- loop.example/prologserver/spec.l4Goal : function 151 -/
def qv (p0:Value) (w:World) (R:Ending->World->Prop):Prop:=
 RR (sOp (.box 32 (.const p0)) 0) w fun a0 b0=>
 RR (sOp (.load 32 (.const a0)) 32) b0 fun c0 d0=>
 RR (sCall (Value.func (.func 147) #[] #[]) [c0]) d0 fun e0 f0=>
 GuardV e0 false (
 RR (sOp (.load 32 (.const a0)) 32) f0 fun g0 h0=>
 RR (sCall (Value.func (.func 116) #[] #[]) [g0]) h0 fun i0 j0=>
 RR (sOp (.pick (.const e0) (.const (Value.bool true)) (.const i0)) 4) j0 fun k0 l0=>
 GuardV k0 false (
 RR (sOp (.fieldAddr 32 (.const a0) 0) 0) l0 fun m0 n0=>
 RR (sOp (.load 3 (.const m0)) 3) n0 fun o0 q0=>
 RR (sBin .eql 3 false true o0 (Value.int .i64 3)) q0 fun s0 t0=>
 GuardV s0 true (
 RR (sOp (.fieldAddr 32 (.const a0) 2) 0) t0 fun u0 v0=>
 RR (sOp (.load 9 (.const u0)) 9) v0 fun w0 x0=>
 RR (sOp (.fieldAddr 32 (.const a0) 3) 0) x0 fun y0 z0=>
 RR (sOp (.load 30 (.const y0)) 30) z0 fun A0 B0=>
 RR (sBuiltin .len #[30] 3 [false] [A0]) B0 fun C0 D0=>
 RR (sCall (Value.func (.func 155) #[] #[]) [w0,C0]) D0 fun E0 F0=>
 GuardV k0 false (
 RR (sOp (.pick (.const s0) (.const E0) (.const (Value.bool false))) 4) F0 fun G0 H0=>
 RR (sOp (.pick (.const k0) (.const (Value.bool true)) (.const G0)) 4) H0 fun I0 J0=>
 R (.returned I0) J0) (
 RR (sOp (.pick (.const k0) (.const (Value.bool true)) (.const undef)) 4) F0 fun K0 L0=>
 R (.returned K0) L0)) (
 GuardV k0 false (
 RR (sOp (.pick (.const s0) (.const undef) (.const (Value.bool false))) 4) t0 fun M0 N0=>
 RR (sOp (.pick (.const k0) (.const (Value.bool true)) (.const M0)) 4) N0 fun O0 P0=>
 R (.returned O0) P0) (
 RR (sOp (.pick (.const k0) (.const (Value.bool true)) (.const undef)) 4) t0 fun Q0 S0=>
 R (.returned Q0) S0))) (
 GuardV undef true (
 RR (sOp (.fieldAddr 32 (.const a0) 2) 0) l0 fun T0 U0=>
 RR (sOp (.load 9 (.const T0)) 9) U0 fun V0 W0=>
 RR (sOp (.fieldAddr 32 (.const a0) 3) 0) W0 fun X0 Y0=>
 RR (sOp (.load 30 (.const X0)) 30) Y0 fun Z0 a1=>
 RR (sBuiltin .len #[30] 3 [false] [Z0]) a1 fun b1 c1=>
 RR (sCall (Value.func (.func 155) #[] #[]) [V0,b1]) c1 fun d1 e1=>
 GuardV k0 false (
 RR (sOp (.pick (.const undef) (.const d1) (.const (Value.bool false))) 4) e1 fun f1 g1=>
 RR (sOp (.pick (.const k0) (.const (Value.bool true)) (.const f1)) 4) g1 fun h1 i1=>
 R (.returned h1) i1) (
 RR (sOp (.pick (.const k0) (.const (Value.bool true)) (.const undef)) 4) e1 fun j1 k1=>
 R (.returned j1) k1)) (
 GuardV k0 false (
 RR (sOp (.pick (.const undef) (.const undef) (.const (Value.bool false))) 4) l0 fun l1 m1=>
 RR (sOp (.pick (.const k0) (.const (Value.bool true)) (.const l1)) 4) m1 fun n1 o1=>
 R (.returned n1) o1) (
 RR (sOp (.pick (.const k0) (.const (Value.bool true)) (.const undef)) 4) l0 fun q1 s1=>
 R (.returned q1) s1)))) (
 RR (sOp (.pick (.const e0) (.const (Value.bool true)) (.const undef)) 4) f0 fun t1 u1=>
 GuardV t1 false (
 RR (sOp (.fieldAddr 32 (.const a0) 0) 0) u1 fun v1 w1=>
 RR (sOp (.load 3 (.const v1)) 3) w1 fun x1 y1=>
 RR (sBin .eql 3 false true x1 (Value.int .i64 3)) y1 fun z1 A1=>
 GuardV z1 true (
 RR (sOp (.fieldAddr 32 (.const a0) 2) 0) A1 fun B1 C1=>
 RR (sOp (.load 9 (.const B1)) 9) C1 fun D1 E1=>
 RR (sOp (.fieldAddr 32 (.const a0) 3) 0) E1 fun F1 G1=>
 RR (sOp (.load 30 (.const F1)) 30) G1 fun H1 I1=>
 RR (sBuiltin .len #[30] 3 [false] [H1]) I1 fun J1 K1=>
 RR (sCall (Value.func (.func 155) #[] #[]) [D1,J1]) K1 fun L1 M1=>
 GuardV t1 false (
 RR (sOp (.pick (.const z1) (.const L1) (.const (Value.bool false))) 4) M1 fun N1 O1=>
 RR (sOp (.pick (.const t1) (.const (Value.bool true)) (.const N1)) 4) O1 fun P1 Q1=>
 R (.returned P1) Q1) (
 RR (sOp (.pick (.const t1) (.const (Value.bool true)) (.const undef)) 4) M1 fun S1 T1=>
 R (.returned S1) T1)) (
 GuardV t1 false (
 RR (sOp (.pick (.const z1) (.const undef) (.const (Value.bool false))) 4) A1 fun U1 V1=>
 RR (sOp (.pick (.const t1) (.const (Value.bool true)) (.const U1)) 4) V1 fun W1 X1=>
 R (.returned W1) X1) (
 RR (sOp (.pick (.const t1) (.const (Value.bool true)) (.const undef)) 4) A1 fun Y1 Z1=>
 R (.returned Y1) Z1))) (
 GuardV undef true (
 RR (sOp (.fieldAddr 32 (.const a0) 2) 0) u1 fun a2 b2=>
 RR (sOp (.load 9 (.const a2)) 9) b2 fun c2 d2=>
 RR (sOp (.fieldAddr 32 (.const a0) 3) 0) d2 fun e2 f2=>
 RR (sOp (.load 30 (.const e2)) 30) f2 fun g2 h2=>
 RR (sBuiltin .len #[30] 3 [false] [g2]) h2 fun i2 j2=>
 RR (sCall (Value.func (.func 155) #[] #[]) [c2,i2]) j2 fun k2 l2=>
 GuardV t1 false (
 RR (sOp (.pick (.const undef) (.const k2) (.const (Value.bool false))) 4) l2 fun m2 n2=>
 RR (sOp (.pick (.const t1) (.const (Value.bool true)) (.const m2)) 4) n2 fun o2 q2=>
 R (.returned o2) q2) (
 RR (sOp (.pick (.const t1) (.const (Value.bool true)) (.const undef)) 4) l2 fun s2 t2=>
 R (.returned s2) t2)) (
 GuardV t1 false (
 RR (sOp (.pick (.const undef) (.const undef) (.const (Value.bool false))) 4) u1 fun u2 v2=>
 RR (sOp (.pick (.const t1) (.const (Value.bool true)) (.const u2)) 4) v2 fun w2 x2=>
 R (.returned w2) x2) (
 RR (sOp (.pick (.const t1) (.const (Value.bool true)) (.const undef)) 4) u1 fun y2 z2=>
 R (.returned y2) z2))))
theorem sG {p0:Value} {w:World} {R:Ending->World->Prop} (h:qv p0 w R):Calls Tryz.prog 151 #[p0] w R:=
  calls_sh .leaf [p0] aw Tryz.func151 (by kernel_rfl) (by kernel_rfl) h


/- loop.example/prologserver/spec.l1Shape : function 152 -/
def oR (p0 p1:Value) (w:World) (R:Ending->World->Prop):Prop:=
 RR (sOp (.box 32 (.const p0)) 0) w fun a0 b0=>
 (∃ c0:Value->World->Prop,(
 RR (sBin .lss 3 false true p1 (Value.int .i64 1)) b0 fun d0 e0=>
 GuardV d0 false (
 RR (sOp (.load 32 (.const a0)) 32) e0 fun f0 g0=>
 RR (sCall (Value.func (.func 176) #[] #[]) [f0]) g0 fun h0 i0=>
 RR (sOp (.unOp .not 4 (.const h0)) 4) i0 fun j0 k0=>
 RR (sOp (.pick (.const d0) (.const (Value.bool true)) (.const j0)) 4) k0 fun l0 m0=>
 c0 l0 m0) (
 RR (sOp (.pick (.const d0) (.const (Value.bool true)) (.const undef)) 4) e0 fun n0 o0=>
 c0 n0 o0))/\
 ∀ q0 _ _ _ _ _ _:Value,∀ s0:World,c0 q0 s0->
 CondV q0 (
 R (.returned (Value.bool false)) s0) (
 (∃ (t0:Value->World->Prop) (u0:Value->World->Nat),t0 (Value.int .i64 0) s0/\
 ∀ v0 _ _ _ _ _ _ _ _ _ _ _ _ _ _ _ _ _:Value,∀ w0:World,t0 v0 w0->
 RR (sOp (.fieldAddr 32 (.const a0) 3) 0) w0 fun x0 y0=>
 RR (sOp (.load 30 (.const x0)) 30) y0 fun z0 A0=>
 RR (sBuiltin .len #[30] 3 [false] [z0]) A0 fun B0 C0=>
 RR (sBin .lss 3 false false v0 B0) C0 fun D0 E0=>
 CondV D0 (
 RR (sOp (.fieldAddr 32 (.const a0) 3) 0) E0 fun F0 G0=>
 RR (sOp (.load 30 (.const F0)) 30) G0 fun H0 I0=>
 RR (sOp (.indexAddr 30 (.const H0) (.const v0)) 0) I0 fun J0 K0=>
 RR (sOp (.load 32 (.const J0)) 32) K0 fun L0 M0=>
 RR (sBin .sub 3 false true p1 (Value.int .i64 1)) M0 fun N0 O0=>
 RR (sCall (Value.func (.func 152) #[] #[]) [L0,N0]) O0 fun P0 Q0=>
 RR (sOp (.unOp .not 4 (.const P0)) 4) Q0 fun S0 T0=>
 CondV S0 (
 R (.returned (Value.bool false)) T0) (
 RR (sBin .add 3 false true v0 (Value.int .i64 1)) T0 fun U0 V0=>
 t0 U0 V0/\u0 U0 V0<u0 v0 w0)) (
 R (.returned (Value.bool true)) E0))))
theorem rD {p0 p1:Value} {w:World} {R:Ending->World->Prop} (h:oR p0 p1 w R):Calls Tryz.prog 152 #[p0,p1] w R:=
  calls_sh (.seq none .leaf (.seq none (.seq (some [12]) .leaf .leaf) (.seq none (.seq none .leaf (.one (.loop [5] .leaf))) .leaf))) [p0,p1] aw Tryz.func152 (by kernel_rfl) (by kernel_rfl) h


/- loop.example/prologserver/spec.l1Count : function 153 -/
def oP (p0 p1:Value) (w:World) (R:Ending->World->Prop):Prop:=
 RR (sOp (.box 32 (.const p0)) 0) w fun a0 b0=>
 (∃ (c0:Value->Value->World->Prop) (d0:Value->Value->World->Nat),c0 (Value.int .i64 0) (Value.int .i64 1) b0/\
 ∀ e0 _ _ f0 _ _ _ _ _ _ _ _ _ _ _ _ _ _ _ _ _ _ _ _ _:Value,∀ g0:World,c0 e0 f0 g0->
 (∃ h0:Value->World->Prop,(
 RR (sOp (.fieldAddr 32 (.const a0) 3) 0) g0 fun i0 j0=>
 RR (sOp (.load 30 (.const i0)) 30) j0 fun k0 l0=>
 RR (sBuiltin .len #[30] 3 [false] [k0]) l0 fun m0 n0=>
 RR (sBin .lss 3 false false e0 m0) n0 fun o0 q0=>
 GuardV o0 true (
 RR (sBin .leq 3 false false f0 p1) q0 fun s0 t0=>
 RR (sOp (.pick (.const o0) (.const s0) (.const (Value.bool false))) 4) t0 fun u0 v0=>
 h0 u0 v0) (
 RR (sOp (.pick (.const o0) (.const undef) (.const (Value.bool false))) 4) q0 fun w0 x0=>
 h0 w0 x0))/\
 ∀ y0 _ _ _ _ _ _ _ _ _:Value,∀ z0:World,h0 y0 z0->
 CondV y0 (
 RR (sOp (.fieldAddr 32 (.const a0) 3) 0) z0 fun A0 B0=>
 RR (sOp (.load 30 (.const A0)) 30) B0 fun C0 D0=>
 RR (sOp (.indexAddr 30 (.const C0) (.const e0)) 0) D0 fun E0 F0=>
 RR (sOp (.load 32 (.const E0)) 32) F0 fun G0 H0=>
 RR (sBin .sub 3 false false p1 f0) H0 fun I0 J0=>
 RR (sCall (Value.func (.func 153) #[] #[]) [G0,I0]) J0 fun K0 L0=>
 RR (sBin .add 3 false false f0 K0) L0 fun M0 N0=>
 RR (sBin .add 3 false true e0 (Value.int .i64 1)) N0 fun O0 P0=>
 c0 O0 M0 P0/\d0 O0 M0 P0<d0 e0 f0 g0) (
 R (.returned f0) z0)))
theorem rW {p0 p1:Value} {w:World} {R:Ending->World->Prop} (h:oP p0 p1 w R):Calls Tryz.prog 153 #[p0,p1] w R:=
  calls_sh (.seq none .leaf (.seq none .leaf (.seq none (.seq none .leaf (.one (.loop [6,5] (.seq none (.seq (some [16]) .leaf .leaf) .leaf)))) .leaf))) [p0,p1] aw Tryz.func153 (by kernel_rfl) (by kernel_rfl) h


/- loop.example/prologserver/spec.l1Word : function 154 -/
def qV (p0:Value) (w:World) (R:Ending->World->Prop):Prop:=
 (∃ (a0:Value->World->Prop) (b0:Value->World->Nat),a0 (Value.int .i64 0) w/\
 ∀ c0 _ _ _ _ _ _ _ _ _ _ _ _ _ _ _ _ _:Value,∀ d0:World,a0 c0 d0->
 RR (sBuiltin .len #[9] 3 [false] [p0]) d0 fun e0 f0=>
 RR (sBin .lss 3 false false c0 e0) f0 fun g0 h0=>
 CondV g0 (
 (∃ i0:Value->World->Prop,(
 RR (sOp (.index 9 (.const p0) (.const c0)) 5) h0 fun j0 k0=>
 RR (sBin .lss 5 false true j0 (Value.int .u8 97)) k0 fun l0 m0=>
 GuardV l0 false (
 RR (sOp (.index 9 (.const p0) (.const c0)) 5) m0 fun n0 o0=>
 RR (sBin .gtr 5 false true n0 (Value.int .u8 122)) o0 fun q0 s0=>
 RR (sOp (.pick (.const l0) (.const (Value.bool true)) (.const q0)) 4) s0 fun t0 u0=>
 i0 t0 u0) (
 RR (sOp (.pick (.const l0) (.const (Value.bool true)) (.const undef)) 4) m0 fun v0 w0=>
 i0 v0 w0))/\
 ∀ x0 _ _ _ _ _ _ _ _ _:Value,∀ y0:World,i0 x0 y0->
 CondV x0 (
 R (.returned (Value.bool false)) y0) (
 RR (sBin .add 3 false true c0 (Value.int .i64 1)) y0 fun z0 A0=>
 a0 z0 A0/\b0 z0 A0<b0 c0 d0))) (
 RR (sBuiltin .len #[9] 3 [false] [p0]) h0 fun B0 C0=>
 RR (sBin .geq 3 false true B0 (Value.int .i64 1)) C0 fun D0 E0=>
 GuardV D0 true (
 RR (sBuiltin .len #[9] 3 [false] [p0]) E0 fun F0 G0=>
 RR (sBin .leq 3 false true F0 (Value.int .i64 6)) G0 fun H0 I0=>
 RR (sOp (.pick (.const D0) (.const H0) (.const (Value.bool false))) 4) I0 fun J0 K0=>
 R (.returned J0) K0) (
 RR (sOp (.pick (.const D0) (.const undef) (.const (Value.bool false))) 4) E0 fun L0 M0=>
 R (.returned L0) M0)))
theorem ug {p0:Value} {w:World} {R:Ending->World->Prop} (h:qV p0 w R):Calls Tryz.prog 154 #[p0] w R:=
  calls_sh (.seq none .leaf (.seq none (.seq none .leaf (.one (.loop [3] (.seq none .leaf (.seq none (.one (.seq (some [19]) .leaf .leaf)) .leaf))))) .leaf)) [p0] aw Tryz.func154 (by kernel_rfl) (by kernel_rfl) h


/- loop.example/prologserver/spec.IsBuiltin : function 155 -/
def iS (p0 p1:Value) (w:World) (R:Ending->World->Prop):Prop:=
 (∃ a0:Value->World->Prop,(
 RR (sBin .eql 9 false true p0 (Value.string ⟨#[61]⟩)) w fun b0 c0=>
 CondV b0 (
 a0 b0 c0) (
 RR (sBin .eql 9 false true p0 (Value.string ⟨#[92,61]⟩)) c0 fun d0 e0=>
 CondV d0 (
 a0 d0 e0) (
 RR (sBin .eql 9 false true p0 (Value.string ⟨#[61,61]⟩)) e0 fun f0 g0=>
 CondV f0 (
 a0 f0 g0) (
 RR (sBin .eql 9 false true p0 (Value.string ⟨#[60]⟩)) g0 fun h0 i0=>
 CondV h0 (
 a0 h0 i0) (
 RR (sBin .eql 9 false true p0 (Value.string ⟨#[62]⟩)) i0 fun j0 k0=>
 CondV j0 (
 a0 j0 k0) (
 RR (sBin .eql 9 false true p0 (Value.string ⟨#[61,60]⟩)) k0 fun l0 m0=>
 CondV l0 (
 a0 l0 m0) (
 RR (sBin .eql 9 false true p0 (Value.string ⟨#[62,61]⟩)) m0 fun n0 o0=>
 CondV n0 (
 a0 n0 o0) (
 RR (sBin .eql 9 false true p0 (Value.string ⟨#[61,58,61]⟩)) o0 fun q0 s0=>
 CondV q0 (
 a0 q0 s0) (
 RR (sBin .eql 9 false true p0 (Value.string ⟨#[105,115]⟩)) s0 fun t0 u0=>
 a0 t0 u0)))))))))/\
 ∀ _ _ _ _ _ _ _ _ v0 _:Value,∀ w0:World,a0 v0 w0->
 CondV v0 (
 RR (sBin .eql 3 false true p1 (Value.int .i64 2)) w0 fun x0 y0=>
 R (.returned x0) y0) (
 (∃ z0:Value->World->Prop,(
 RR (sBin .eql 9 false true p0 (Value.string ⟨#[116,114,117,101]⟩)) w0 fun A0 B0=>
 CondV A0 (
 z0 A0 B0) (
 RR (sBin .eql 9 false true p0 (Value.string ⟨#[102,97,105,108]⟩)) B0 fun C0 D0=>
 z0 C0 D0))/\
 ∀ _ E0 _:Value,∀ F0:World,z0 E0 F0->
 CondV E0 (
 RR (sBin .eql 3 false true p1 (Value.int .i64 0)) F0 fun G0 H0=>
 R (.returned G0) H0) (
 (∃ I0:Value->World->Prop,(
 RR (sBin .eql 9 false true p0 (Value.string ⟨#[118,97,114]⟩)) F0 fun J0 K0=>
 CondV J0 (
 I0 J0 K0) (
 RR (sBin .eql 9 false true p0 (Value.string ⟨#[110,111,110,118,97,114]⟩)) K0 fun L0 M0=>
 CondV L0 (
 I0 L0 M0) (
 RR (sBin .eql 9 false true p0 (Value.string ⟨#[97,116,111,109]⟩)) M0 fun N0 O0=>
 CondV N0 (
 I0 N0 O0) (
 RR (sBin .eql 9 false true p0 (Value.string ⟨#[105,110,116]⟩)) O0 fun P0 Q0=>
 I0 P0 Q0))))/\
 ∀ _ _ _ S0 _:Value,∀ T0:World,I0 S0 T0->
 CondV S0 (
 RR (sBin .eql 3 false true p1 (Value.int .i64 1)) T0 fun U0 V0=>
 R (.returned U0) V0) (
 RR (sBin .eql 9 false true p0 (Value.string ⟨#[97,114,103]⟩)) T0 fun W0 X0=>
 CondV W0 (
 RR (sBin .eql 3 false true p1 (Value.int .i64 3)) X0 fun Y0 Z0=>
 R (.returned Y0) Z0) (
 R (.returned (Value.bool false)) X0)))))))
theorem mW {p0 p1:Value} {w:World} {R:Ending->World->Prop} (h:iS p0 p1 w R):Calls Tryz.prog 155 #[p0,p1] w R:=
  calls_sh (.seq none .leaf (.seq none (.seq none .leaf (.one (.seq (some [6]) .leaf (.two .leaf (.seq (some [18]) .leaf (.two .leaf (.seq (some [23]) .leaf .leaf))))))) .leaf)) [p0,p1] aw Tryz.func155 (by kernel_rfl) (by kernel_rfl) h


/- loop.example/prologserver/spec.l2Level : function 156 -/
def nY (p0:Value) (w:World) (R:Ending->World->Prop):Prop:=
 (∃ a0:Value->World->Prop,(
 RR (sBin .eql 9 false true p0 (Value.string ⟨#[61]⟩)) w fun b0 c0=>
 CondV b0 (
 a0 b0 c0) (
 RR (sBin .eql 9 false true p0 (Value.string ⟨#[92,61]⟩)) c0 fun d0 e0=>
 CondV d0 (
 a0 d0 e0) (
 RR (sBin .eql 9 false true p0 (Value.string ⟨#[61,61]⟩)) e0 fun f0 g0=>
 CondV f0 (
 a0 f0 g0) (
 RR (sBin .eql 9 false true p0 (Value.string ⟨#[60]⟩)) g0 fun h0 i0=>
 CondV h0 (
 a0 h0 i0) (
 RR (sBin .eql 9 false true p0 (Value.string ⟨#[62]⟩)) i0 fun j0 k0=>
 CondV j0 (
 a0 j0 k0) (
 RR (sBin .eql 9 false true p0 (Value.string ⟨#[61,60]⟩)) k0 fun l0 m0=>
 CondV l0 (
 a0 l0 m0) (
 RR (sBin .eql 9 false true p0 (Value.string ⟨#[62,61]⟩)) m0 fun n0 o0=>
 CondV n0 (
 a0 n0 o0) (
 RR (sBin .eql 9 false true p0 (Value.string ⟨#[61,58,61]⟩)) o0 fun q0 s0=>
 CondV q0 (
 a0 q0 s0) (
 RR (sBin .eql 9 false true p0 (Value.string ⟨#[105,115]⟩)) s0 fun t0 u0=>
 a0 t0 u0)))))))))/\
 ∀ _ _ _ _ _ _ _ _ v0 _:Value,∀ w0:World,a0 v0 w0->
 CondV v0 (
 R (.returned (Value.int .i64 3)) w0) (
 (∃ x0:Value->World->Prop,(
 RR (sBin .eql 9 false true p0 (Value.string ⟨#[43]⟩)) w0 fun y0 z0=>
 CondV y0 (
 x0 y0 z0) (
 RR (sBin .eql 9 false true p0 (Value.string ⟨#[45]⟩)) z0 fun A0 B0=>
 x0 A0 B0))/\
 ∀ _ C0 _:Value,∀ D0:World,x0 C0 D0->
 CondV C0 (
 R (.returned (Value.int .i64 2)) D0) (
 (∃ E0:Value->World->Prop,(
 RR (sBin .eql 9 false true p0 (Value.string ⟨#[42]⟩)) D0 fun F0 G0=>
 CondV F0 (
 E0 F0 G0) (
 RR (sBin .eql 9 false true p0 (Value.string ⟨#[47,47]⟩)) G0 fun H0 I0=>
 CondV H0 (
 E0 H0 I0) (
 RR (sBin .eql 9 false true p0 (Value.string ⟨#[109,111,100]⟩)) I0 fun J0 K0=>
 E0 J0 K0)))/\
 ∀ _ _ L0 _:Value,∀ M0:World,E0 L0 M0->
 CondV L0 (
 R (.returned (Value.int .i64 1)) M0) (
 R (.returned (Value.int .i64 0)) M0))))))
theorem r3 {p0:Value} {w:World} {R:Ending->World->Prop} (h:nY p0 w R):Calls Tryz.prog 156 #[p0] w R:=
  calls_sh (.seq none .leaf (.seq none (.seq none .leaf (.one (.seq (some [4]) .leaf (.two .leaf (.seq (some [14]) .leaf (.two .leaf (.seq (some [17]) .leaf .leaf))))))) .leaf)) [p0] aw Tryz.func156 (by kernel_rfl) (by kernel_rfl) h


/- loop.example/prologserver/impl.NameValid : function 157 -/
def jZ (p0:Value) (w:World) (R:Ending->World->Prop):Prop:=
 RR (sCall (Value.func (.func 119) #[] #[]) [p0]) w fun a0 b0=>
 GuardV a0 false (
 RR (sCall (Value.func (.func 178) #[] #[]) []) b0 fun c0 d0=>
 RR (sCall (Value.func (.func 177) #[] #[]) [c0,p0]) d0 fun e0 f0=>
 RR (sOp (.pick (.const a0) (.const (Value.bool true)) (.const e0)) 4) f0 fun g0 h0=>
 R (.returned g0) h0) (
 RR (sOp (.pick (.const a0) (.const (Value.bool true)) (.const undef)) 4) b0 fun i0 j0=>
 R (.returned i0) j0)
theorem ov {p0:Value} {w:World} {R:Ending->World->Prop} (h:jZ p0 w R):Calls Tryz.prog 157 #[p0] w R:=
  calls_sh .leaf [p0] aw Tryz.func157 (by kernel_rfl) (by kernel_rfl) h


/- loop.example/prologserver/impl.scan$1 : function 158 -/
def qR (p0 p1 p2:Value) (w:World) (R:Ending->World->Prop):Prop:=
 RR (sOp (.box 32 (.const p0)) 0) w fun a0 b0=>
 RR (sOp (.load 32 (.const a0)) 32) b0 fun c0 d0=>
 RR (sOp (.load 3 (.const p1)) 3) d0 fun e0 f0=>
 RR (sBin .add 3 false true e0 (Value.int .i64 1)) f0 fun g0 h0=>
 RR (sOp (.load 111 (.const p2)) 111) h0 fun i0 j0=>
 RR (sCall (Value.func (.func 118) #[] #[]) [c0,g0,i0]) j0 fun k0 l0=>
 RR (sOp (.unOp .not 4 (.const k0)) 4) l0 fun m0 n0=>
 R (.returned m0) n0
theorem uj {p0 p1 p2:Value} {w:World} {R:Ending->World->Prop} (h:qR p0 p1 p2 w R):Calls Tryz.prog 158 #[p0,p1,p2] w R:=
  calls_sh .leaf [p0,p1,p2] aw Tryz.func158 (by kernel_rfl) (by kernel_rfl) h


/- loop.example/prologserver/impl.OpLevel : function 159 -/
def nV (p0:Value) (w:World) (R:Ending->World->Prop):Prop:=
 (∃ a0:Value->World->Prop,(
 RR (sBin .eql 9 false true p0 (Value.string ⟨#[61]⟩)) w fun b0 c0=>
 CondV b0 (
 a0 b0 c0) (
 RR (sBin .eql 9 false true p0 (Value.string ⟨#[92,61]⟩)) c0 fun d0 e0=>
 CondV d0 (
 a0 d0 e0) (
 RR (sBin .eql 9 false true p0 (Value.string ⟨#[61,61]⟩)) e0 fun f0 g0=>
 CondV f0 (
 a0 f0 g0) (
 RR (sBin .eql 9 false true p0 (Value.string ⟨#[60]⟩)) g0 fun h0 i0=>
 CondV h0 (
 a0 h0 i0) (
 RR (sBin .eql 9 false true p0 (Value.string ⟨#[62]⟩)) i0 fun j0 k0=>
 CondV j0 (
 a0 j0 k0) (
 RR (sBin .eql 9 false true p0 (Value.string ⟨#[61,60]⟩)) k0 fun l0 m0=>
 CondV l0 (
 a0 l0 m0) (
 RR (sBin .eql 9 false true p0 (Value.string ⟨#[62,61]⟩)) m0 fun n0 o0=>
 CondV n0 (
 a0 n0 o0) (
 RR (sBin .eql 9 false true p0 (Value.string ⟨#[61,58,61]⟩)) o0 fun q0 s0=>
 CondV q0 (
 a0 q0 s0) (
 RR (sBin .eql 9 false true p0 (Value.string ⟨#[105,115]⟩)) s0 fun t0 u0=>
 a0 t0 u0)))))))))/\
 ∀ _ _ _ _ _ _ _ _ v0 _:Value,∀ w0:World,a0 v0 w0->
 CondV v0 (
 R (.returned (.tuple #[(Value.int .i64 3),(Value.bool false)])) w0) (
 (∃ x0:Value->World->Prop,(
 RR (sBin .eql 9 false true p0 (Value.string ⟨#[43]⟩)) w0 fun y0 z0=>
 CondV y0 (
 x0 y0 z0) (
 RR (sBin .eql 9 false true p0 (Value.string ⟨#[45]⟩)) z0 fun A0 B0=>
 x0 A0 B0))/\
 ∀ _ C0 _:Value,∀ D0:World,x0 C0 D0->
 CondV C0 (
 R (.returned (.tuple #[(Value.int .i64 2),(Value.bool true)])) D0) (
 (∃ E0:Value->World->Prop,(
 RR (sBin .eql 9 false true p0 (Value.string ⟨#[42]⟩)) D0 fun F0 G0=>
 CondV F0 (
 E0 F0 G0) (
 RR (sBin .eql 9 false true p0 (Value.string ⟨#[47,47]⟩)) G0 fun H0 I0=>
 CondV H0 (
 E0 H0 I0) (
 RR (sBin .eql 9 false true p0 (Value.string ⟨#[109,111,100]⟩)) I0 fun J0 K0=>
 E0 J0 K0)))/\
 ∀ _ _ L0 _:Value,∀ M0:World,E0 L0 M0->
 CondV L0 (
 R (.returned (.tuple #[(Value.int .i64 1),(Value.bool true)])) M0) (
 R (.returned (.tuple #[(Value.int .i64 0),(Value.bool false)])) M0))))))
theorem rM {p0:Value} {w:World} {R:Ending->World->Prop} (h:nV p0 w R):Calls Tryz.prog 159 #[p0] w R:=
  calls_sh (.seq none .leaf (.seq none (.seq none .leaf (.one (.seq (some [5]) .leaf (.two .leaf (.seq (some [15]) .leaf (.two .leaf (.seq (some [18]) .leaf .leaf))))))) .leaf)) [p0] aw Tryz.func159 (by kernel_rfl) (by kernel_rfl) h


/- loop.example/prologserver/impl.IsBuiltin : function 160 -/
def jk (p0 p1:Value) (w:World) (R:Ending->World->Prop):Prop:=
 (∃ a0:Value->World->Prop,(
 RR (sBin .eql 9 false true p0 (Value.string ⟨#[61]⟩)) w fun b0 c0=>
 CondV b0 (
 a0 b0 c0) (
 RR (sBin .eql 9 false true p0 (Value.string ⟨#[92,61]⟩)) c0 fun d0 e0=>
 CondV d0 (
 a0 d0 e0) (
 RR (sBin .eql 9 false true p0 (Value.string ⟨#[61,61]⟩)) e0 fun f0 g0=>
 CondV f0 (
 a0 f0 g0) (
 RR (sBin .eql 9 false true p0 (Value.string ⟨#[60]⟩)) g0 fun h0 i0=>
 CondV h0 (
 a0 h0 i0) (
 RR (sBin .eql 9 false true p0 (Value.string ⟨#[62]⟩)) i0 fun j0 k0=>
 CondV j0 (
 a0 j0 k0) (
 RR (sBin .eql 9 false true p0 (Value.string ⟨#[61,60]⟩)) k0 fun l0 m0=>
 CondV l0 (
 a0 l0 m0) (
 RR (sBin .eql 9 false true p0 (Value.string ⟨#[62,61]⟩)) m0 fun n0 o0=>
 CondV n0 (
 a0 n0 o0) (
 RR (sBin .eql 9 false true p0 (Value.string ⟨#[61,58,61]⟩)) o0 fun q0 s0=>
 CondV q0 (
 a0 q0 s0) (
 RR (sBin .eql 9 false true p0 (Value.string ⟨#[105,115]⟩)) s0 fun t0 u0=>
 a0 t0 u0)))))))))/\
 ∀ _ _ _ _ _ _ _ _ v0 _:Value,∀ w0:World,a0 v0 w0->
 CondV v0 (
 RR (sBin .eql 3 false true p1 (Value.int .i64 2)) w0 fun x0 y0=>
 R (.returned x0) y0) (
 (∃ z0:Value->World->Prop,(
 RR (sBin .eql 9 false true p0 (Value.string ⟨#[116,114,117,101]⟩)) w0 fun A0 B0=>
 CondV A0 (
 z0 A0 B0) (
 RR (sBin .eql 9 false true p0 (Value.string ⟨#[102,97,105,108]⟩)) B0 fun C0 D0=>
 z0 C0 D0))/\
 ∀ _ E0 _:Value,∀ F0:World,z0 E0 F0->
 CondV E0 (
 RR (sBin .eql 3 false true p1 (Value.int .i64 0)) F0 fun G0 H0=>
 R (.returned G0) H0) (
 (∃ I0:Value->World->Prop,(
 RR (sBin .eql 9 false true p0 (Value.string ⟨#[118,97,114]⟩)) F0 fun J0 K0=>
 CondV J0 (
 I0 J0 K0) (
 RR (sBin .eql 9 false true p0 (Value.string ⟨#[110,111,110,118,97,114]⟩)) K0 fun L0 M0=>
 CondV L0 (
 I0 L0 M0) (
 RR (sBin .eql 9 false true p0 (Value.string ⟨#[97,116,111,109]⟩)) M0 fun N0 O0=>
 CondV N0 (
 I0 N0 O0) (
 RR (sBin .eql 9 false true p0 (Value.string ⟨#[105,110,116]⟩)) O0 fun P0 Q0=>
 I0 P0 Q0))))/\
 ∀ _ _ _ S0 _:Value,∀ T0:World,I0 S0 T0->
 CondV S0 (
 RR (sBin .eql 3 false true p1 (Value.int .i64 1)) T0 fun U0 V0=>
 R (.returned U0) V0) (
 RR (sBin .eql 9 false true p0 (Value.string ⟨#[97,114,103]⟩)) T0 fun W0 X0=>
 CondV W0 (
 RR (sBin .eql 3 false true p1 (Value.int .i64 3)) X0 fun Y0 Z0=>
 R (.returned Y0) Z0) (
 R (.returned (Value.bool false)) X0)))))))
theorem nu {p0 p1:Value} {w:World} {R:Ending->World->Prop} (h:jk p0 p1 w R):Calls Tryz.prog 160 #[p0,p1] w R:=
  calls_sh (.seq none .leaf (.seq none (.seq none .leaf (.one (.seq (some [6]) .leaf (.two .leaf (.seq (some [18]) .leaf (.two .leaf (.seq (some [23]) .leaf .leaf))))))) .leaf)) [p0,p1] aw Tryz.func160 (by kernel_rfl) (by kernel_rfl) h


/- slices.IndexFunc[[]loop.example/prologserver/impl.Term,loop.example/prologserver/impl.Term] : function 161 -/
def cB (p0 p1:Value) (w:World) (R:Ending->World->Prop):Prop:=
 RR (sBuiltin .len #[30] 3 [false] [p0]) w fun a0 b0=>
 (∃ (c0:Value->World->Prop) (d0:Value->World->Nat),c0 (Value.int .i64 0) b0/\
 ∀ e0 _ _ _ _ _ _ _ _ _ _ _ _:Value,∀ f0:World,c0 e0 f0->
 RR (sBin .lss 3 false false e0 a0) f0 fun g0 h0=>
 CondV g0 (
 RR (sOp (.indexAddr 30 (.const p0) (.const e0)) 0) h0 fun i0 j0=>
 RR (sOp (.load 32 (.const i0)) 32) j0 fun k0 l0=>
 RR (sCall p1 [k0]) l0 fun m0 n0=>
 CondV m0 (
 R (.returned e0) n0) (
 RR (sBin .add 3 false true e0 (Value.int .i64 1)) n0 fun o0 q0=>
 c0 o0 q0/\d0 o0 q0<d0 e0 f0)) (
 R (.returned (Value.int .i64 (-1))) h0))
theorem cZ {p0 p1:Value} {w:World} {R:Ending->World->Prop} (h:cB p0 p1 w R):Calls Tryz.prog 161 #[p0,p1] w R:=
  calls_sh (.seq none .leaf (.seq none (.seq none .leaf (.one (.loop [8] .leaf))) .leaf)) [p0,p1] aw Tryz.func161 (by kernel_rfl) (by kernel_rfl) h


/- loop.example/prologserver/spec.l2Read : function 162 -/
def qn (p0 p1 p2 p3:Value) (w:World) (R:Ending->World->Prop):Prop:=
 RR (sOp (.alloc 32) 0) w fun a0 b0=>
 RR (sBin .eql 3 false true p3 (Value.int .i64 0)) b0 fun c0 d0=>
 CondV c0 (
 RR (sCall (Value.func (.func 179) #[] #[]) [p0,p1,p2]) d0 fun e0 f0=>
 RR (sOp (.extract (.const e0) 0) 32) f0 fun g0 h0=>
 RR (sOp (.extract (.const e0) 1) 3) h0 fun i0 j0=>
 RR (sOp (.store 32 (.const a0) (.const g0)) 0) j0 fun _u k0=>
 (LoadV Tryz.prog 32 a0 k0 fun r0=>R (.returned (.tuple #[r0,i0])) k0)) (
 RR (sBin .sub 3 false true p3 (Value.int .i64 1)) d0 fun l0 m0=>
 RR (sCall (Value.func (.func 162) #[] #[]) [p0,p1,p2,l0]) m0 fun n0 o0=>
 RR (sOp (.extract (.const n0) 0) 32) o0 fun q0 s0=>
 RR (sOp (.extract (.const n0) 1) 3) s0 fun t0 u0=>
 RR (sOp (.alloc 32) 0) u0 fun v0 w0=>
 RR (sOp (.store 32 (.const v0) (.const q0)) 0) w0 fun _u x0=>
 (∃ (y0:Value->World->Prop) (z0:Value->World->Nat),y0 t0 x0/\
 ∀ _ _ _ _ A0 _ _ _ _ _ _ _ _ _ _ _ _ _ _ _ _ _ _ _ _ _ _ _ _ _ _ _ _ _ _ _ _ _ _ _ _ _ _ _ _ _ _:Value,∀ B0:World,y0 A0 B0->
 RR (sBin .geq 3 false true A0 (Value.int .i64 0)) B0 fun C0 D0=>
 CondV C0 (
 RR (sCall (Value.func (.func 180) #[] #[]) [p0,A0]) D0 fun E0 F0=>
 RR (sOp (.extract (.const E0) 0) 9) F0 fun G0 H0=>
 RR (sOp (.extract (.const E0) 1) 3) H0 fun I0 J0=>
 (∃ K0:Value->World->Prop,(
 RR (sBin .eql 9 false true G0 (Value.string ⟨#[]⟩)) J0 fun L0 M0=>
 GuardV L0 false (
 RR (sCall (Value.func (.func 156) #[] #[]) [G0]) M0 fun N0 O0=>
 RR (sBin .neq 3 false false N0 p3) O0 fun P0 Q0=>
 RR (sOp (.pick (.const L0) (.const (Value.bool true)) (.const P0)) 4) Q0 fun S0 T0=>
 K0 S0 T0) (
 RR (sOp (.pick (.const L0) (.const (Value.bool true)) (.const undef)) 4) M0 fun U0 V0=>
 K0 U0 V0))/\
 ∀ W0 _ _ _ _ _ _ _:Value,∀ X0:World,K0 W0 X0->
 CondV W0 (
 RR (sOp (.load 32 (.const v0)) 32) X0 fun Y0 Z0=>
 RR (sOp (.store 32 (.const a0) (.const Y0)) 0) Z0 fun _u a1=>
 (LoadV Tryz.prog 32 a0 a1 fun r0=>R (.returned (.tuple #[r0,A0])) a1)) (
 RR (sBin .sub 3 false true p3 (Value.int .i64 1)) X0 fun b1 c1=>
 RR (sCall (Value.func (.func 162) #[] #[]) [p0,I0,p2,b1]) c1 fun d1 e1=>
 RR (sOp (.extract (.const d1) 0) 32) e1 fun f1 g1=>
 RR (sOp (.extract (.const d1) 1) 3) g1 fun h1 i1=>
 RR (sOp (.alloc 32) 0) i1 fun j1 k1=>
 RR (sOp (.store 32 (.const j1) (.const f1)) 0) k1 fun _u l1=>
 RR (sBin .lss 3 false true h1 (Value.int .i64 0)) l1 fun m1 n1=>
 CondV m1 (
 RR (sBuild 32 []) n1 fun o1 q1=>
 RR (sOp (.store 32 (.const a0) (.const o1)) 0) q1 fun _u s1=>
 (LoadV Tryz.prog 32 a0 s1 fun r0=>R (.returned (.tuple #[r0,h1])) s1)) (
 RR (sOp (.load 32 (.const v0)) 32) n1 fun t1 u1=>
 RR (sOp (.load 32 (.const j1)) 32) u1 fun v1 w1=>
 RR (sBuildSlice 30 2 [(0,t1),(1,v1)]) w1 fun x1 y1=>
 RR (sCall (Value.func (.func 106) #[] #[]) [G0,x1]) y1 fun z1 A1=>
 RR (sOp (.store 32 (.const v0) (.const z1)) 0) A1 fun _u B1=>
 RR (sBin .eql 3 false true p3 (Value.int .i64 3)) B1 fun C1 D1=>
 CondV C1 (
 RR (sOp (.load 32 (.const v0)) 32) D1 fun E1 F1=>
 RR (sOp (.store 32 (.const a0) (.const E1)) 0) F1 fun _u G1=>
 (LoadV Tryz.prog 32 a0 G1 fun r0=>R (.returned (.tuple #[r0,h1])) G1)) (
 y0 h1 D1/\z0 h1 D1<z0 A0 B0))))) (
 RR (sBuild 32 []) D0 fun H1 I1=>
 RR (sOp (.store 32 (.const a0) (.const H1)) 0) I1 fun _ J1=>
 (LoadV Tryz.prog 32 a0 J1 fun r0=>R (.returned (.tuple #[r0,A0])) J1))))
theorem sk {p0 p1 p2 p3:Value} {w:World} {R:Ending->World->Prop} (h:qn p0 p1 p2 p3 w R):Calls Tryz.prog 162 #[p0,p1,p2,p3] w R:=
  calls_sh (.seq none .leaf (.seq none .leaf (.seq none .leaf (.seq none (.one (.loop [11] (.seq none .leaf (.one (.seq none .leaf (.seq none (.seq (some [48]) .leaf .leaf) .leaf)))))) .leaf)))) [p0,p1,p2,p3] aw Tryz.func162 (by kernel_rfl) (by kernel_rfl) h


/- loop.example/prologserver/spec.l1Sign : function 163 -/
def qZ (p0 p1 p2:Value) (w:World) (R:Ending->World->Prop):Prop:=
 RR (sBin .geq 3 false true p1 (Value.int .i64 0)) w fun a0 b0=>
 GuardV a0 true (
 RR (sBuiltin .len #[9] 3 [false] [p0]) b0 fun c0 d0=>
 RR (sBin .lss 3 false false p1 c0) d0 fun e0 f0=>
 RR (sOp (.pick (.const a0) (.const e0) (.const (Value.bool false))) 4) f0 fun g0 h0=>
 GuardV g0 true (
 RR (sOp (.index 9 (.const p0) (.const p1)) 5) h0 fun i0 j0=>
 RR (sBin .eql 5 false false i0 p2) j0 fun k0 l0=>
 RR (sOp (.pick (.const g0) (.const k0) (.const (Value.bool false))) 4) l0 fun m0 n0=>
 R (.returned m0) n0) (
 RR (sOp (.pick (.const g0) (.const undef) (.const (Value.bool false))) 4) h0 fun o0 q0=>
 R (.returned o0) q0)) (
 RR (sOp (.pick (.const a0) (.const undef) (.const (Value.bool false))) 4) b0 fun s0 t0=>
 GuardV s0 true (
 RR (sOp (.index 9 (.const p0) (.const p1)) 5) t0 fun u0 v0=>
 RR (sBin .eql 5 false false u0 p2) v0 fun w0 x0=>
 RR (sOp (.pick (.const s0) (.const w0) (.const (Value.bool false))) 4) x0 fun y0 z0=>
 R (.returned y0) z0) (
 RR (sOp (.pick (.const s0) (.const undef) (.const (Value.bool false))) 4) t0 fun A0 B0=>
 R (.returned A0) B0))
theorem tn {p0 p1 p2:Value} {w:World} {R:Ending->World->Prop} (h:qZ p0 p1 p2 w R):Calls Tryz.prog 163 #[p0,p1,p2] w R:=
  calls_sh .leaf [p0,p1,p2] aw Tryz.func163 (by kernel_rfl) (by kernel_rfl) h


/- loop.example/prologserver/spec.l4Goals : function 164 -/
def nJ (p0 p1:Value) (w:World) (R:Ending->World->Prop):Prop:=
 RR (sBuildSlice 30 0 []) w fun a0 b0=>
 (∃ (c0:Value->Value->World->Prop) (d0:Value->Value->World->Nat),c0 p1 a0 b0/\
 ∀ e0 _ _ _ _ _ _ _ _ f0 _ _ _ _ _ _ _ _ _ _ _ _ _ _ _ _ _ _ _:Value,∀ g0:World,c0 e0 f0 g0->
 RR (sBuiltin .len #[30] 3 [false] [f0]) g0 fun h0 i0=>
 RR (sBin .leq 3 false true h0 (Value.int .i64 6)) i0 fun j0 k0=>
 CondV j0 (
 RR (sCall (Value.func (.func 162) #[] #[]) [p0,e0,(Value.int .i64 30),(Value.int .i64 3)]) k0 fun l0 m0=>
 RR (sOp (.extract (.const l0) 0) 32) m0 fun n0 o0=>
 RR (sOp (.extract (.const l0) 1) 3) o0 fun q0 s0=>
 RR (sOp (.alloc 32) 0) s0 fun t0 u0=>
 RR (sOp (.store 32 (.const t0) (.const n0)) 0) u0 fun _ v0=>
 RR (sBin .lss 3 false true q0 (Value.int .i64 0)) v0 fun w0 x0=>
 CondV w0 (
 R (.returned (.tuple #[(Value.slice none 0 0),(Value.int .i64 (-1))])) x0) (
 RR (sOp (.load 32 (.const t0)) 32) x0 fun y0 z0=>
 RR (sBuildSlice 30 1 [(0,y0)]) z0 fun A0 B0=>
 RR (sBuiltin .append #[30,30] 30 [false,false] [f0,A0]) B0 fun C0 D0=>
 RR (sCall (Value.func (.func 163) #[] #[]) [p0,q0,(Value.int .u8 44)]) D0 fun E0 F0=>
 RR (sOp (.unOp .not 4 (.const E0)) 4) F0 fun G0 H0=>
 CondV G0 (
 R (.returned (.tuple #[C0,q0])) H0) (
 RR (sBin .add 3 false true q0 (Value.int .i64 1)) H0 fun I0 J0=>
 c0 I0 C0 J0/\d0 I0 C0 J0<d0 e0 f0 g0))) (
 R (.returned (.tuple #[(Value.slice none 0 0),(Value.int .i64 (-1))])) k0))
theorem r4 {p0 p1:Value} {w:World} {R:Ending->World->Prop} (h:nJ p0 p1 w R):Calls Tryz.prog 164 #[p0,p1] w R:=
  calls_sh (.seq none .leaf (.seq none .leaf (.seq none (.one (.loop [1,6] .leaf)) .leaf))) [p0,p1] aw Tryz.func164 (by kernel_rfl) (by kernel_rfl) h


/- loop.example/prologserver/spec.FormatClause : function 165 -/
def fj (p0:Value) (w:World) (R:Ending->World->Prop):Prop:=
 RR (sOp (.box 34 (.const p0)) 0) w fun a0 b0=>
 RR (sOp (.load 34 (.const a0)) 34) b0 fun c0 d0=>
 RR (sCall (Value.func (.func 64) #[] #[]) [c0]) d0 fun e0 f0=>
 RR (sOp (.unOp .not 4 (.const e0)) 4) f0 fun g0 h0=>
 CondV g0 (
 R (.returned (Value.string ⟨#[]⟩)) h0) (
 RR (sOp (.load 34 (.const a0)) 34) h0 fun i0 j0=>
 RR (sCall (Value.func (.func 181) #[] #[]) [i0]) j0 fun k0 l0=>
 R (.returned k0) l0)
theorem jg {p0:Value} {w:World} {R:Ending->World->Prop} (h:fj p0 w R):Calls Tryz.prog 165 #[p0] w R:=
  calls_sh .leaf [p0] aw Tryz.func165 (by kernel_rfl) (by kernel_rfl) h


/- loop.example/prologserver/impl.addVars : function 168 -/
def ny (p0 p1:Value) (w:World) (R:Ending->World->Prop):Prop:=
 RR (sOp (.box 32 (.const p0)) 0) w fun a0 b0=>
 (∃ c0:Value->World->Prop,(
 (∃ d0:Value->World->Prop,(
 RR (sOp (.fieldAddr 32 (.const a0) 0) 0) b0 fun e0 f0=>
 RR (sOp (.load 3 (.const e0)) 3) f0 fun g0 h0=>
 RR (sBin .eql 3 false true g0 (Value.int .i64 1)) h0 fun i0 j0=>
 GuardV i0 true (
 RR (sOp (.fieldAddr 32 (.const a0) 1) 0) j0 fun k0 l0=>
 RR (sOp (.load 3 (.const k0)) 3) l0 fun m0 n0=>
 RR (sCall (Value.func (.func 99) #[] #[]) [p1,m0]) n0 fun o0 q0=>
 RR (sOp (.unOp .not 4 (.const o0)) 4) q0 fun s0 t0=>
 RR (sOp (.pick (.const i0) (.const s0) (.const (Value.bool false))) 4) t0 fun u0 v0=>
 d0 u0 v0) (
 RR (sOp (.pick (.const i0) (.const undef) (.const (Value.bool false))) 4) j0 fun w0 x0=>
 d0 w0 x0))/\
 ∀ y0 _ _ _ _ _ _ _ _ _:Value,∀ z0:World,d0 y0 z0->
 CondV y0 (
 RR (sOp (.fieldAddr 32 (.const a0) 1) 0) z0 fun A0 B0=>
 RR (sOp (.load 3 (.const A0)) 3) B0 fun C0 D0=>
 RR (sBuildSlice 63 1 [(0,C0)]) D0 fun E0 F0=>
 RR (sBuiltin .append #[63,63] 63 [false,false] [p1,E0]) F0 fun G0 H0=>
 c0 G0 H0) (
 c0 p1 z0)))/\
 ∀ I0 _ _ _ _ _ _ _ _ _ _ _ _ _ _ _:Value,∀ J0:World,c0 I0 J0->
 RR (sOp (.fieldAddr 32 (.const a0) 3) 0) J0 fun K0 L0=>
 RR (sOp (.load 30 (.const K0)) 30) L0 fun M0 N0=>
 RR (sBuiltin .len #[30] 3 [false] [M0]) N0 fun O0 P0=>
 (∃ (Q0:Value->Value->World->Prop) (S0:Value->Value->World->Nat),Q0 (Value.int .i64 0) I0 P0/\
 ∀ T0 _ U0 _ _ _ _ _ _ _:Value,∀ V0:World,Q0 T0 U0 V0->
 RR (sBin .lss 3 false false T0 O0) V0 fun W0 X0=>
 CondV W0 (
 RR (sOp (.indexAddr 30 (.const M0) (.const T0)) 0) X0 fun Y0 Z0=>
 RR (sOp (.load 32 (.const Y0)) 32) Z0 fun a1 b1=>
 RR (sOp (.alloc 32) 0) b1 fun c1 d1=>
 RR (sOp (.store 32 (.const c1) (.const a1)) 0) d1 fun _ e1=>
 RR (sOp (.load 32 (.const c1)) 32) e1 fun f1 g1=>
 RR (sCall (Value.func (.func 168) #[] #[]) [f1,U0]) g1 fun h1 i1=>
 RR (sBin .add 3 false true T0 (Value.int .i64 1)) i1 fun j1 k1=>
 Q0 j1 h1 k1/\S0 j1 h1 k1<S0 T0 U0 V0) (
 R (.returned U0) X0)))
theorem rB {p0 p1:Value} {w:World} {R:Ending->World->Prop} (h:ny p0 p1 w R):Calls Tryz.prog 168 #[p0,p1] w R:=
  calls_sh (.seq none .leaf (.seq (some [1]) (.seq (some [16]) .leaf .leaf) (.seq none (.seq none .leaf (.one (.loop [25,1] .leaf))) .leaf))) [p0,p1] aw Tryz.func168 (by kernel_rfl) (by kernel_rfl) h


/- loop.example/prologserver/spec.l15Texts : function 170 -/
def lu (w:World) (R:Ending->World->Prop):Prop:=
 RR (sBuildSlice 82 7 [(0,(Value.string ⟨#[113,40,65,41,58,45,112,40,65,41,44,114,40,65,41,46,10,112,40,49,41,46,10,112,40,66,41,58,45,66,61,50,46,10,114,40,49,41,46,10,114,40,50,41,46,10]⟩)),(1,(Value.string ⟨#[116,40,65,44,66,41,58,45,101,40,65,44,67,41,44,101,40,67,44,66,41,46,10,101,40,97,44,98,41,46,10,101,40,98,44,99,41,46,10]⟩)),(2,(Value.string ⟨#[116,119,111,40,65,41,58,45,97,112,112,40,66,44,67,44,65,41,44,66,61,91,68,93,46,10,97,112,112,40,91,93,44,65,44,65,41,46,10,97,112,112,40,91,65,124,66,93,44,67,44,91,65,124,68,93,41,58,45,97,112,112,40,66,44,67,44,68,41,46,10]⟩)),(3,(Value.string ⟨#[115,40,65,41,58,45,102,40,65,44,120,41,46,10,102,40,103,40,66,41,44,66,41,46,10,102,40,104,40,66,41,44,121,41,46,10]⟩)),(4,(Value.string ⟨#[113,40,65,41,58,45,112,40,65,41,44,33,46,10,112,40,49,41,46,10,112,40,50,41,46,10]⟩)),(5,(Value.string ⟨#[113,40,65,41,58,45,112,40,65,41,46,10,112,40,65,41,58,45,65,62,48,44,33,46,10,112,40,50,41,46,10]⟩)),(6,(Value.string ⟨#[110,40,65,41,58,45,110,40,65,41,46,10,110,40,49,41,46,10]⟩))]) w fun a0 b0=>
 R (.returned a0) b0
theorem pk {w:World} {R:Ending->World->Prop} (h:lu w R):Calls Tryz.prog 170 #[] w R:=
  calls_sh .leaf [] aw Tryz.func170 (by kernel_rfl) (by kernel_rfl) h


/- loop.example/prologserver/spec.l15Queries : function 171 -/
def gZ (w:World) (R:Ending->World->Prop):Prop:=
 RR (sBuildSlice 82 7 [(0,(Value.string ⟨#[113,40,65,41]⟩)),(1,(Value.string ⟨#[116,40,65,44,66,41]⟩)),(2,(Value.string ⟨#[116,119,111,40,91,49,44,50,93,41]⟩)),(3,(Value.string ⟨#[115,40,65,41]⟩)),(4,(Value.string ⟨#[113,40,50,41]⟩)),(5,(Value.string ⟨#[113,40,66,41]⟩)),(6,(Value.string ⟨#[110,40,65,41]⟩))]) w fun a0 b0=>
 R (.returned a0) b0
theorem ml {w:World} {R:Ending->World->Prop} (h:gZ w R):Calls Tryz.prog 171 #[] w R:=
  calls_sh .leaf [] aw Tryz.func171 (by kernel_rfl) (by kernel_rfl) h


/- loop.example/prologserver/impl.isAtom : function 172 -/
def qO (p0:Value) (w:World) (R:Ending->World->Prop):Prop:=
 RR (sOp (.box 32 (.const p0)) 0) w fun a0 b0=>
 RR (sOp (.fieldAddr 32 (.const a0) 0) 0) b0 fun c0 d0=>
 RR (sOp (.load 3 (.const c0)) 3) d0 fun e0 f0=>
 RR (sBin .eql 3 false true e0 (Value.int .i64 3)) f0 fun g0 h0=>
 GuardV g0 true (
 RR (sOp (.fieldAddr 32 (.const a0) 3) 0) h0 fun i0 j0=>
 RR (sOp (.load 30 (.const i0)) 30) j0 fun k0 l0=>
 RR (sBuiltin .len #[30] 3 [false] [k0]) l0 fun m0 n0=>
 RR (sBin .eql 3 false true m0 (Value.int .i64 0)) n0 fun o0 q0=>
 RR (sOp (.pick (.const g0) (.const o0) (.const (Value.bool false))) 4) q0 fun s0 t0=>
 R (.returned s0) t0) (
 RR (sOp (.pick (.const g0) (.const undef) (.const (Value.bool false))) 4) h0 fun u0 v0=>
 R (.returned u0) v0)
theorem tJ {p0:Value} {w:World} {R:Ending->World->Prop} (h:qO p0 w R):Calls Tryz.prog 172 #[p0] w R:=
  calls_sh .leaf [p0] aw Tryz.func172 (by kernel_rfl) (by kernel_rfl) h


/- (*loop.example/prologserver/impl.store).walk : function 173 -/
def gR (p0 p1:Value) (w:World) (R:Ending->World->Prop):Prop:=
 RR (sOp (.box 32 (.const p1)) 0) w fun a0 b0=>
 RR (sOp (.alloc 32) 0) b0 fun c0 d0=>
 (∃ e0:World->Prop,(
 (∃ (f0:World->Prop) (g0:World->Nat),f0 d0/\
 ∀ _ _ _ h0 i0 j0 k0 l0 m0 n0 o0 q0 s0 t0 u0 _ _ _:Value,∀ v0:World,f0 v0->
 RR (sOp (.fieldAddr 32 (.const a0) 0) 0) v0 fun w0 x0=>
 RR (sOp (.load 3 (.const w0)) 3) x0 fun y0 z0=>
 RR (sBin .eql 3 false true y0 (Value.int .i64 1)) z0 fun A0 B0=>
 CondV A0 (
 (∃ C0:(Nat->Bool)->Value->Value->Value->Value->Value->Value->Value->Value->Value->Value->Value->Value->World->Prop,C0 (fun _=>false) h0 i0 j0 k0 l0 m0 n0 o0 q0 s0 t0 u0 { B0 with drawn:=B0.drawn+1 }/\(
 (∀ D0:Nat->Bool,D0 0=false->∀ E0 F0 G0 H0 I0 J0 K0 L0 M0 N0 O0 P0 Q0,C0 D0 E0 F0 G0 H0 I0 J0 K0 L0 M0 N0 O0 P0 Q0->
 C0 (setD D0 0) E0 F0 G0 H0 I0 J0 K0 L0 M0 N0 O0 p0 Q0)/\
 (∀ D0:Nat->Bool,D0 1=false->D0 0=true->∀ E0 F0 G0 H0 I0 J0 K0 L0 M0 N0 O0 P0 S0,C0 D0 E0 F0 G0 H0 I0 J0 K0 L0 M0 N0 O0 P0 S0->
 RR (sOp (.nilCheck (.const P0)) 0) S0 fun T0 U0=>
 C0 (setD D0 1) E0 F0 G0 H0 I0 J0 K0 L0 M0 N0 T0 P0 U0)/\
 (∀ D0:Nat->Bool,D0 2=false->D0 1=true->∀ E0 F0 G0 H0 I0 J0 K0 L0 M0 N0 O0 P0 V0,C0 D0 E0 F0 G0 H0 I0 J0 K0 L0 M0 N0 O0 P0 V0->
 RR (sOp (.fieldAddr 148 (.const O0) 0) 0) V0 fun W0 X0=>
 C0 (setD D0 2) E0 F0 G0 H0 I0 J0 K0 L0 M0 W0 O0 P0 X0)/\
 (∀ D0:Nat->Bool,D0 3=false->D0 2=true->∀ E0 F0 G0 H0 I0 J0 K0 L0 M0 N0 O0 P0 Y0,C0 D0 E0 F0 G0 H0 I0 J0 K0 L0 M0 N0 O0 P0 Y0->
 RR (sOp (.load 77 (.const N0)) 77) Y0 fun Z0 a1=>
 C0 (setD D0 3) E0 F0 G0 H0 I0 J0 K0 L0 Z0 N0 O0 P0 a1)/\
 (∀ D0:Nat->Bool,D0 4=false->∀ E0 F0 G0 H0 I0 J0 K0 L0 M0 N0 O0 P0 b1,C0 D0 E0 F0 G0 H0 I0 J0 K0 L0 M0 N0 O0 P0 b1->
 RR (sOp (.fieldAddr 32 (.const a0) 1) 0) b1 fun c1 d1=>
 C0 (setD D0 4) E0 F0 G0 H0 I0 J0 K0 c1 M0 N0 O0 P0 d1)/\
 (∀ D0:Nat->Bool,D0 5=false->D0 4=true->∀ E0 F0 G0 H0 I0 J0 K0 L0 M0 N0 O0 P0 e1,C0 D0 E0 F0 G0 H0 I0 J0 K0 L0 M0 N0 O0 P0 e1->
 RR (sOp (.load 3 (.const L0)) 3) e1 fun f1 g1=>
 C0 (setD D0 5) E0 F0 G0 H0 I0 J0 f1 L0 M0 N0 O0 P0 g1)/\
 (∀ D0:Nat->Bool,D0 6=false->D0 3=true->D0 5=true->∀ E0 F0 G0 H0 I0 J0 K0 L0 M0 N0 O0 P0 h1,C0 D0 E0 F0 G0 H0 I0 J0 K0 L0 M0 N0 O0 P0 h1->
 RR (sOp (.lookup 77 (.const M0) (.const K0) true) 109) h1 fun i1 j1=>
 C0 (setD D0 6) E0 F0 G0 H0 I0 i1 K0 L0 M0 N0 O0 P0 j1)/\
 (∀ D0:Nat->Bool,D0 7=false->D0 6=true->∀ E0 F0 G0 H0 I0 J0 K0 L0 M0 N0 O0 P0 k1,C0 D0 E0 F0 G0 H0 I0 J0 K0 L0 M0 N0 O0 P0 k1->
 C0 (setD D0 7) E0 F0 G0 H0 J0 J0 K0 L0 M0 N0 O0 P0 k1)/\
 (∀ D0:Nat->Bool,D0 8=false->D0 7=true->∀ E0 F0 G0 H0 I0 J0 K0 L0 M0 N0 O0 P0 l1,C0 D0 E0 F0 G0 H0 I0 J0 K0 L0 M0 N0 O0 P0 l1->
 RR (sOp (.extract (.const I0) 0) 32) l1 fun m1 n1=>
 C0 (setD D0 8) E0 F0 G0 m1 I0 J0 K0 L0 M0 N0 O0 P0 n1)/\
 (∀ D0:Nat->Bool,D0 9=false->D0 7=true->∀ E0 F0 G0 H0 I0 J0 K0 L0 M0 N0 O0 P0 o1,C0 D0 E0 F0 G0 H0 I0 J0 K0 L0 M0 N0 O0 P0 o1->
 RR (sOp (.extract (.const I0) 1) 4) o1 fun q1 s1=>
 C0 (setD D0 9) E0 F0 q1 H0 I0 J0 K0 L0 M0 N0 O0 P0 s1)/\
 (∀ D0:Nat->Bool,D0 10=false->∀ E0 F0 G0 H0 I0 J0 K0 L0 M0 N0 O0 P0 t1,C0 D0 E0 F0 G0 H0 I0 J0 K0 L0 M0 N0 O0 P0 t1->
 RR (sOp (.alloc 32) 0) t1 fun u1 v1=>
 C0 (setD D0 10) E0 u1 G0 H0 I0 J0 K0 L0 M0 N0 O0 P0 v1)/\
 (∀ D0:Nat->Bool,D0 11=false->D0 10=true->D0 8=true->D0 0=true->D0 1=true->D0 2=true->D0 3=true->D0 4=true->D0 5=true->D0 6=true->D0 7=true->D0 8=true->D0 10=true->∀ E0 F0 G0 H0 I0 J0 K0 L0 M0 N0 O0 P0 w1,C0 D0 E0 F0 G0 H0 I0 J0 K0 L0 M0 N0 O0 P0 w1->
 RR (sOp (.store 32 (.const F0) (.const H0)) 0) w1 fun _u x1=>
 C0 (setD D0 11) E0 F0 G0 H0 I0 J0 K0 L0 M0 N0 O0 P0 x1)/\
 (∀ D0:Nat->Bool,D0 12=false->D0 9=true->D0 11=true->D0 0=true->D0 1=true->D0 2=true->D0 3=true->D0 4=true->D0 5=true->D0 6=true->D0 7=true->D0 8=true->D0 9=true->D0 10=true->D0 11=true->∀ E0 F0 G0 H0 I0 J0 K0 L0 M0 N0 O0 P0 y1,C0 D0 E0 F0 G0 H0 I0 J0 K0 L0 M0 N0 O0 P0 y1->
 C0 (setD D0 12) G0 F0 G0 H0 I0 J0 K0 L0 M0 N0 O0 P0 y1)/\
 True)/\
 ∀ D0:Nat->Bool,D0 12=true->D0 11=true->D0 10=true->D0 9=true->D0 8=true->D0 7=true->D0 6=true->D0 5=true->D0 4=true->D0 3=true->D0 2=true->D0 1=true->D0 0=true->∀ E0 F0 G0 H0 I0 J0 K0 L0 M0 N0 O0 P0 z1,C0 D0 E0 F0 G0 H0 I0 J0 K0 L0 M0 N0 O0 P0 z1->
 RR (sOp (.unOp .not 4 (.const E0)) 4) z1 fun A1 B1=>
 CondV A1 (
 e0 B1) (
 RR (sOp (.load 32 (.const F0)) 32) B1 fun C1 D1=>
 RR (sOp (.store 32 (.const a0) (.const C1)) 0) D1 fun _u E1=>
 f0 E1/\g0 E1<g0 v0))) (
 e0 B0)))/\
 ∀ _ _ _ _ _ _ _ _ _ _ _ _ _ _ _ _ _ _:Value,∀ F1:World,e0 F1->
 RR (sOp (.load 32 (.const a0)) 32) F1 fun G1 H1=>
 RR (sOp (.store 32 (.const c0) (.const G1)) 0) H1 fun _ I1=>
 (LoadV Tryz.prog 32 c0 I1 fun r0=>R (.returned r0) I1))
theorem mg {p0 p1:Value} {w:World} {R:Ending->World->Prop} (h:gR p0 p1 w R):Calls Tryz.prog 173 #[p0,p1] w R:=
  calls_sh (.seq none .leaf (.seq (some []) (.one (.loop [] .leaf)) .leaf)) [p0,p1] aw Tryz.func173 (by kernel_rfl) (by kernel_rfl) h


/- (*loop.example/prologserver/impl.store).bind : function 174 -/
def ib (p0 p1 p2:Value) (w:World) (R:Ending->World->Prop):Prop:=
 RR (sOp (.box 32 (.const p2)) 0) w fun a0 b0=>
 RR (sOp (.load 32 (.const a0)) 32) b0 fun c0 d0=>
 RR (sOp (.makeMap 156 none) 156) d0 fun e0 f0=>
 RR (sCall (Value.func (.func 182) #[] #[]) [p0,p1,c0,e0]) f0 fun g0 h0=>
 CondV g0 (
 R (.returned (Value.bool false)) h0) (
 (∃ i0:(Nat->Bool)->Value->Value->Value->Value->Value->Value->World->Prop,i0 (fun _=>false) undef undef undef undef undef undef { h0 with drawn:=h0.drawn+1 }/\(
 (∀ j0:Nat->Bool,j0 0=false->∀ k0 l0 m0 n0 o0 q0 s0,i0 j0 k0 l0 m0 n0 o0 q0 s0->
 i0 (setD j0 0) k0 l0 m0 n0 o0 p0 s0)/\
 (∀ j0:Nat->Bool,j0 1=false->j0 0=true->∀ k0 l0 m0 n0 o0 q0 t0,i0 j0 k0 l0 m0 n0 o0 q0 t0->
 RR (sOp (.nilCheck (.const q0)) 0) t0 fun u0 v0=>
 i0 (setD j0 1) k0 l0 m0 n0 u0 q0 v0)/\
 (∀ j0:Nat->Bool,j0 2=false->j0 1=true->∀ k0 l0 m0 n0 o0 q0 w0,i0 j0 k0 l0 m0 n0 o0 q0 w0->
 RR (sOp (.fieldAddr 148 (.const o0) 0) 0) w0 fun x0 y0=>
 i0 (setD j0 2) k0 l0 m0 x0 o0 q0 y0)/\
 (∀ j0:Nat->Bool,j0 3=false->j0 2=true->∀ k0 l0 m0 n0 o0 q0 z0,i0 j0 k0 l0 m0 n0 o0 q0 z0->
 RR (sOp (.load 77 (.const n0)) 77) z0 fun A0 B0=>
 i0 (setD j0 3) k0 l0 A0 n0 o0 q0 B0)/\
 (∀ j0:Nat->Bool,j0 4=false->∀ k0 l0 m0 n0 o0 q0 C0,i0 j0 k0 l0 m0 n0 o0 q0 C0->
 i0 (setD j0 4) k0 p1 m0 n0 o0 q0 C0)/\
 (∀ j0:Nat->Bool,j0 5=false->∀ k0 l0 m0 n0 o0 q0 D0,i0 j0 k0 l0 m0 n0 o0 q0 D0->
 RR (sOp (.load 32 (.const a0)) 32) D0 fun E0 F0=>
 i0 (setD j0 5) E0 l0 m0 n0 o0 q0 F0)/\
 (∀ j0:Nat->Bool,j0 6=false->j0 3=true->j0 4=true->j0 5=true->j0 0=true->j0 1=true->j0 2=true->j0 3=true->j0 4=true->j0 5=true->∀ k0 l0 m0 n0 o0 q0 G0,i0 j0 k0 l0 m0 n0 o0 q0 G0->
 RR (sOp (.mapUpdate 77 (.const m0) (.const l0) (.const k0)) 0) G0 fun _u H0=>
 i0 (setD j0 6) k0 l0 m0 n0 o0 q0 H0)/\
 True)/\
 ∀ j0:Nat->Bool,j0 6=true->j0 5=true->j0 4=true->j0 3=true->j0 2=true->j0 1=true->j0 0=true->∀ k0 l0 m0 n0 o0 q0 I0,i0 j0 k0 l0 m0 n0 o0 q0 I0->
 RR (sOp (.nilCheck (.const p0)) 0) I0 fun J0 K0=>
 RR (sOp (.fieldAddr 148 (.const J0) 1) 0) K0 fun L0 M0=>
 RR (sOp (.load 63 (.const L0)) 63) M0 fun N0 O0=>
 RR (sBuildSlice 63 1 [(0,p1)]) O0 fun P0 Q0=>
 RR (sBuiltin .append #[63,63] 63 [false,false] [N0,P0]) Q0 fun S0 T0=>
 RR (sOp (.nilCheck (.const p0)) 0) T0 fun U0 V0=>
 RR (sOp (.fieldAddr 148 (.const U0) 1) 0) V0 fun W0 X0=>
 RR (sOp (.store 63 (.const W0) (.const S0)) 0) X0 fun _ Y0=>
 R (.returned (Value.bool true)) Y0))
theorem mp {p0 p1 p2:Value} {w:World} {R:Ending->World->Prop} (h:ib p0 p1 p2 w R):Calls Tryz.prog 174 #[p0,p1,p2] w R:=
  calls_sh .leaf [p0,p1,p2] aw Tryz.func174 (by kernel_rfl) (by kernel_rfl) h


/- (*loop.example/prologserver/impl.store).resolving : function 175 -/
def dG (p0 p1 p2 p3:Value) (w:World) (R:Ending->World->Prop):Prop:=
 RR (sOp (.box 32 (.const p1)) 0) w fun a0 b0=>
 RR (sOp (.alloc 32) 0) b0 fun c0 d0=>
 RR (sOp (.load 32 (.const a0)) 32) d0 fun e0 f0=>
 RR (sCall (Value.func (.func 173) #[] #[]) [p0,e0]) f0 fun g0 h0=>
 RR (sOp (.store 32 (.const a0) (.const g0)) 0) h0 fun _u i0=>
 RR (sOp (.nilCheck (.const p3)) 0) i0 fun j0 k0=>
 RR (sOp (.load 3 (.const j0)) 3) k0 fun l0 m0=>
 RR (sBin .add 3 false true l0 (Value.int .i64 1)) m0 fun n0 o0=>
 RR (sOp (.nilCheck (.const p3)) 0) o0 fun q0 s0=>
 RR (sOp (.store 3 (.const q0) (.const n0)) 0) s0 fun _u t0=>
 (∃ u0:Value->World->Prop,(
 RR (sOp (.nilCheck (.const p3)) 0) t0 fun v0 w0=>
 RR (sOp (.load 3 (.const v0)) 3) w0 fun x0 y0=>
 RR (sBin .gtr 3 false true x0 (Value.int .i64 120)) y0 fun z0 A0=>
 GuardV z0 false (
 RR (sBin .gtr 3 false true p2 (Value.int .i64 30)) A0 fun B0 C0=>
 RR (sOp (.pick (.const z0) (.const (Value.bool true)) (.const B0)) 4) C0 fun D0 E0=>
 u0 D0 E0) (
 RR (sOp (.pick (.const z0) (.const (Value.bool true)) (.const undef)) 4) A0 fun F0 G0=>
 u0 F0 G0))/\
 ∀ H0 _ _ _ _ _ _ _:Value,∀ I0:World,u0 H0 I0->
 CondV H0 (
 RR (sBuild 32 []) I0 fun J0 K0=>
 RR (sOp (.store 32 (.const c0) (.const J0)) 0) K0 fun _u L0=>
 (LoadV Tryz.prog 32 c0 L0 fun r0=>R (.returned (.tuple #[r0,(Value.bool false)])) L0)) (
 RR (sOp (.fieldAddr 32 (.const a0) 0) 0) I0 fun M0 N0=>
 RR (sOp (.load 3 (.const M0)) 3) N0 fun O0 P0=>
 RR (sOp (.fieldAddr 32 (.const a0) 1) 0) P0 fun Q0 S0=>
 RR (sOp (.load 3 (.const Q0)) 3) S0 fun T0 U0=>
 RR (sOp (.fieldAddr 32 (.const a0) 2) 0) U0 fun V0 W0=>
 RR (sOp (.load 9 (.const V0)) 9) W0 fun X0 Y0=>
 RR (sBuild 32 [(0,O0),(1,T0),(2,X0)]) Y0 fun Z0 a1=>
 RR (sOp (.alloc 32) 0) a1 fun b1 c1=>
 RR (sOp (.store 32 (.const b1) (.const Z0)) 0) c1 fun _u d1=>
 RR (sOp (.fieldAddr 32 (.const a0) 3) 0) d1 fun e1 f1=>
 RR (sOp (.load 30 (.const e1)) 30) f1 fun g1 h1=>
 RR (sBuiltin .len #[30] 3 [false] [g1]) h1 fun i1 j1=>
 (∃ (k1:Value->World->Prop) (l1:Value->World->Nat),k1 (Value.int .i64 0) j1/\
 ∀ m1 _ _ _ _ _ _ _ _ _ _ _ _ _ _ _ _ _ _ _ _ _ _ _ _ _ _:Value,∀ n1:World,k1 m1 n1->
 RR (sBin .lss 3 false false m1 i1) n1 fun o1 q1=>
 CondV o1 (
 RR (sOp (.indexAddr 30 (.const g1) (.const m1)) 0) q1 fun s1 t1=>
 RR (sOp (.load 32 (.const s1)) 32) t1 fun u1 v1=>
 RR (sOp (.alloc 32) 0) v1 fun w1 x1=>
 RR (sOp (.store 32 (.const w1) (.const u1)) 0) x1 fun _u y1=>
 RR (sOp (.load 32 (.const w1)) 32) y1 fun z1 A1=>
 RR (sBin .add 3 false true p2 (Value.int .i64 1)) A1 fun B1 C1=>
 RR (sCall (Value.func (.func 175) #[] #[]) [p0,z1,B1,p3]) C1 fun D1 E1=>
 RR (sOp (.extract (.const D1) 0) 32) E1 fun F1 G1=>
 RR (sOp (.extract (.const D1) 1) 4) G1 fun H1 I1=>
 RR (sOp (.alloc 32) 0) I1 fun J1 K1=>
 RR (sOp (.store 32 (.const J1) (.const F1)) 0) K1 fun _u L1=>
 RR (sOp (.unOp .not 4 (.const H1)) 4) L1 fun M1 N1=>
 CondV M1 (
 RR (sBuild 32 []) N1 fun O1 P1=>
 RR (sOp (.store 32 (.const c0) (.const O1)) 0) P1 fun _u Q1=>
 (LoadV Tryz.prog 32 c0 Q1 fun r0=>R (.returned (.tuple #[r0,(Value.bool false)])) Q1)) (
 RR (sOp (.fieldAddr 32 (.const b1) 3) 0) N1 fun S1 T1=>
 RR (sOp (.load 30 (.const S1)) 30) T1 fun U1 V1=>
 RR (sOp (.load 32 (.const J1)) 32) V1 fun W1 X1=>
 RR (sBuildSlice 30 1 [(0,W1)]) X1 fun Y1 Z1=>
 RR (sBuiltin .append #[30,30] 30 [false,false] [U1,Y1]) Z1 fun a2 b2=>
 RR (sOp (.fieldAddr 32 (.const b1) 3) 0) b2 fun c2 d2=>
 RR (sOp (.store 30 (.const c2) (.const a2)) 0) d2 fun _u e2=>
 RR (sBin .add 3 false true m1 (Value.int .i64 1)) e2 fun f2 g2=>
 k1 f2 g2/\l1 f2 g2<l1 m1 n1)) (
 RR (sOp (.load 32 (.const b1)) 32) q1 fun h2 i2=>
 RR (sOp (.store 32 (.const c0) (.const h2)) 0) i2 fun _ j2=>
 (LoadV Tryz.prog 32 c0 j2 fun r0=>R (.returned (.tuple #[r0,(Value.bool true)])) j2)))))
theorem ge {p0 p1 p2 p3:Value} {w:World} {R:Ending->World->Prop} (h:dG p0 p1 p2 p3 w R):Calls Tryz.prog 175 #[p0,p1,p2,p3] w R:=
  calls_sh (.seq none .leaf (.seq none .leaf (.seq none .leaf (.seq none (.seq (some [30]) .leaf .leaf) (.seq none .leaf (.seq none (.seq none .leaf (.one (.loop [42] .leaf))) .leaf)))))) [p0,p1,p2,p3] aw Tryz.func175 (by kernel_rfl) (by kernel_rfl) h


/- loop.example/prologserver/spec.l1Own : function 176 -/
def tS (p0:Value) (w:World) (R:Ending->World->Prop):Prop:=
 RR (sOp (.box 32 (.const p0)) 0) w fun a0 b0=>
 RR (sOp (.fieldAddr 32 (.const a0) 0) 0) b0 fun c0 d0=>
 RR (sOp (.load 3 (.const c0)) 3) d0 fun e0 f0=>
 RR (sBin .eql 3 false true e0 (Value.int .i64 1)) f0 fun g0 h0=>
 CondV g0 (
 RR (sOp (.fieldAddr 32 (.const a0) 1) 0) h0 fun i0 j0=>
 RR (sOp (.load 3 (.const i0)) 3) j0 fun k0 l0=>
 RR (sBin .geq 3 false true k0 (Value.int .i64 0)) l0 fun m0 n0=>
 GuardV m0 true (
 RR (sOp (.fieldAddr 32 (.const a0) 1) 0) n0 fun o0 q0=>
 RR (sOp (.load 3 (.const o0)) 3) q0 fun s0 t0=>
 RR (sBin .leq 3 false true s0 (Value.int .i64 25)) t0 fun u0 v0=>
 RR (sOp (.pick (.const m0) (.const u0) (.const (Value.bool false))) 4) v0 fun w0 x0=>
 GuardV w0 true (
 RR (sOp (.fieldAddr 32 (.const a0) 2) 0) x0 fun y0 z0=>
 RR (sOp (.load 9 (.const y0)) 9) z0 fun A0 B0=>
 RR (sBin .eql 9 false true A0 (Value.string ⟨#[]⟩)) B0 fun C0 D0=>
 RR (sOp (.pick (.const w0) (.const C0) (.const (Value.bool false))) 4) D0 fun E0 F0=>
 GuardV E0 true (
 RR (sOp (.fieldAddr 32 (.const a0) 3) 0) F0 fun G0 H0=>
 RR (sOp (.load 30 (.const G0)) 30) H0 fun I0 J0=>
 RR (sBuiltin .len #[30] 3 [false] [I0]) J0 fun K0 L0=>
 RR (sBin .eql 3 false true K0 (Value.int .i64 0)) L0 fun M0 N0=>
 RR (sOp (.pick (.const E0) (.const M0) (.const (Value.bool false))) 4) N0 fun O0 P0=>
 R (.returned O0) P0) (
 RR (sOp (.pick (.const E0) (.const undef) (.const (Value.bool false))) 4) F0 fun Q0 S0=>
 R (.returned Q0) S0)) (
 RR (sOp (.pick (.const w0) (.const undef) (.const (Value.bool false))) 4) x0 fun T0 U0=>
 GuardV T0 true (
 RR (sOp (.fieldAddr 32 (.const a0) 3) 0) U0 fun V0 W0=>
 RR (sOp (.load 30 (.const V0)) 30) W0 fun X0 Y0=>
 RR (sBuiltin .len #[30] 3 [false] [X0]) Y0 fun Z0 a1=>
 RR (sBin .eql 3 false true Z0 (Value.int .i64 0)) a1 fun b1 c1=>
 RR (sOp (.pick (.const T0) (.const b1) (.const (Value.bool false))) 4) c1 fun d1 e1=>
 R (.returned d1) e1) (
 RR (sOp (.pick (.const T0) (.const undef) (.const (Value.bool false))) 4) U0 fun f1 g1=>
 R (.returned f1) g1))) (
 RR (sOp (.pick (.const m0) (.const undef) (.const (Value.bool false))) 4) n0 fun h1 i1=>
 GuardV h1 true (
 RR (sOp (.fieldAddr 32 (.const a0) 2) 0) i1 fun j1 k1=>
 RR (sOp (.load 9 (.const j1)) 9) k1 fun l1 m1=>
 RR (sBin .eql 9 false true l1 (Value.string ⟨#[]⟩)) m1 fun n1 o1=>
 RR (sOp (.pick (.const h1) (.const n1) (.const (Value.bool false))) 4) o1 fun q1 s1=>
 GuardV q1 true (
 RR (sOp (.fieldAddr 32 (.const a0) 3) 0) s1 fun t1 u1=>
 RR (sOp (.load 30 (.const t1)) 30) u1 fun v1 w1=>
 RR (sBuiltin .len #[30] 3 [false] [v1]) w1 fun x1 y1=>
 RR (sBin .eql 3 false true x1 (Value.int .i64 0)) y1 fun z1 A1=>
 RR (sOp (.pick (.const q1) (.const z1) (.const (Value.bool false))) 4) A1 fun B1 C1=>
 R (.returned B1) C1) (
 RR (sOp (.pick (.const q1) (.const undef) (.const (Value.bool false))) 4) s1 fun D1 E1=>
 R (.returned D1) E1)) (
 RR (sOp (.pick (.const h1) (.const undef) (.const (Value.bool false))) 4) i1 fun F1 G1=>
 GuardV F1 true (
 RR (sOp (.fieldAddr 32 (.const a0) 3) 0) G1 fun H1 I1=>
 RR (sOp (.load 30 (.const H1)) 30) I1 fun J1 K1=>
 RR (sBuiltin .len #[30] 3 [false] [J1]) K1 fun L1 M1=>
 RR (sBin .eql 3 false true L1 (Value.int .i64 0)) M1 fun N1 O1=>
 RR (sOp (.pick (.const F1) (.const N1) (.const (Value.bool false))) 4) O1 fun P1 Q1=>
 R (.returned P1) Q1) (
 RR (sOp (.pick (.const F1) (.const undef) (.const (Value.bool false))) 4) G1 fun S1 T1=>
 R (.returned S1) T1)))) (
 RR (sBin .eql 3 false true e0 (Value.int .i64 2)) h0 fun U1 V1=>
 CondV U1 (
 RR (sOp (.fieldAddr 32 (.const a0) 1) 0) V1 fun W1 X1=>
 RR (sOp (.load 3 (.const W1)) 3) X1 fun Y1 Z1=>
 RR (sBin .geq 3 false true Y1 (Value.int .i64 (-999))) Z1 fun a2 b2=>
 GuardV a2 true (
 RR (sOp (.fieldAddr 32 (.const a0) 1) 0) b2 fun c2 d2=>
 RR (sOp (.load 3 (.const c2)) 3) d2 fun e2 f2=>
 RR (sBin .leq 3 false true e2 (Value.int .i64 999)) f2 fun g2 h2=>
 RR (sOp (.pick (.const a2) (.const g2) (.const (Value.bool false))) 4) h2 fun i2 j2=>
 GuardV i2 true (
 RR (sOp (.fieldAddr 32 (.const a0) 2) 0) j2 fun k2 l2=>
 RR (sOp (.load 9 (.const k2)) 9) l2 fun m2 n2=>
 RR (sBin .eql 9 false true m2 (Value.string ⟨#[]⟩)) n2 fun o2 q2=>
 RR (sOp (.pick (.const i2) (.const o2) (.const (Value.bool false))) 4) q2 fun s2 t2=>
 GuardV s2 true (
 RR (sOp (.fieldAddr 32 (.const a0) 3) 0) t2 fun u2 v2=>
 RR (sOp (.load 30 (.const u2)) 30) v2 fun w2 x2=>
 RR (sBuiltin .len #[30] 3 [false] [w2]) x2 fun y2 z2=>
 RR (sBin .eql 3 false true y2 (Value.int .i64 0)) z2 fun A2 B2=>
 RR (sOp (.pick (.const s2) (.const A2) (.const (Value.bool false))) 4) B2 fun C2 D2=>
 R (.returned C2) D2) (
 RR (sOp (.pick (.const s2) (.const undef) (.const (Value.bool false))) 4) t2 fun E2 F2=>
 R (.returned E2) F2)) (
 RR (sOp (.pick (.const i2) (.const undef) (.const (Value.bool false))) 4) j2 fun G2 H2=>
 GuardV G2 true (
 RR (sOp (.fieldAddr 32 (.const a0) 3) 0) H2 fun I2 J2=>
 RR (sOp (.load 30 (.const I2)) 30) J2 fun K2 L2=>
 RR (sBuiltin .len #[30] 3 [false] [K2]) L2 fun M2 N2=>
 RR (sBin .eql 3 false true M2 (Value.int .i64 0)) N2 fun O2 P2=>
 RR (sOp (.pick (.const G2) (.const O2) (.const (Value.bool false))) 4) P2 fun Q2 S2=>
 R (.returned Q2) S2) (
 RR (sOp (.pick (.const G2) (.const undef) (.const (Value.bool false))) 4) H2 fun T2 U2=>
 R (.returned T2) U2))) (
 RR (sOp (.pick (.const a2) (.const undef) (.const (Value.bool false))) 4) b2 fun V2 W2=>
 GuardV V2 true (
 RR (sOp (.fieldAddr 32 (.const a0) 2) 0) W2 fun X2 Y2=>
 RR (sOp (.load 9 (.const X2)) 9) Y2 fun Z2 a3=>
 RR (sBin .eql 9 false true Z2 (Value.string ⟨#[]⟩)) a3 fun b3 c3=>
 RR (sOp (.pick (.const V2) (.const b3) (.const (Value.bool false))) 4) c3 fun d3 e3=>
 GuardV d3 true (
 RR (sOp (.fieldAddr 32 (.const a0) 3) 0) e3 fun f3 g3=>
 RR (sOp (.load 30 (.const f3)) 30) g3 fun h3 i3=>
 RR (sBuiltin .len #[30] 3 [false] [h3]) i3 fun j3 k3=>
 RR (sBin .eql 3 false true j3 (Value.int .i64 0)) k3 fun l3 m3=>
 RR (sOp (.pick (.const d3) (.const l3) (.const (Value.bool false))) 4) m3 fun n3 o3=>
 R (.returned n3) o3) (
 RR (sOp (.pick (.const d3) (.const undef) (.const (Value.bool false))) 4) e3 fun q3 s3=>
 R (.returned q3) s3)) (
 RR (sOp (.pick (.const V2) (.const undef) (.const (Value.bool false))) 4) W2 fun t3 u3=>
 GuardV t3 true (
 RR (sOp (.fieldAddr 32 (.const a0) 3) 0) u3 fun v3 w3=>
 RR (sOp (.load 30 (.const v3)) 30) w3 fun x3 y3=>
 RR (sBuiltin .len #[30] 3 [false] [x3]) y3 fun z3 A3=>
 RR (sBin .eql 3 false true z3 (Value.int .i64 0)) A3 fun B3 C3=>
 RR (sOp (.pick (.const t3) (.const B3) (.const (Value.bool false))) 4) C3 fun D3 E3=>
 R (.returned D3) E3) (
 RR (sOp (.pick (.const t3) (.const undef) (.const (Value.bool false))) 4) u3 fun F3 G3=>
 R (.returned F3) G3)))) (
 RR (sBin .eql 3 false true e0 (Value.int .i64 3)) V1 fun H3 I3=>
 CondV H3 (
 RR (sOp (.fieldAddr 32 (.const a0) 1) 0) I3 fun J3 K3=>
 RR (sOp (.load 3 (.const J3)) 3) K3 fun L3 M3=>
 RR (sBin .eql 3 false true L3 (Value.int .i64 0)) M3 fun N3 O3=>
 GuardV N3 true (
 RR (sOp (.fieldAddr 32 (.const a0) 2) 0) O3 fun P3 Q3=>
 RR (sOp (.load 9 (.const P3)) 9) Q3 fun S3 T3=>
 RR (sCall (Value.func (.func 183) #[] #[]) [S3]) T3 fun U3 V3=>
 RR (sOp (.pick (.const N3) (.const U3) (.const (Value.bool false))) 4) V3 fun W3 X3=>
 GuardV W3 true (
 RR (sOp (.fieldAddr 32 (.const a0) 3) 0) X3 fun Y3 Z3=>
 RR (sOp (.load 30 (.const Y3)) 30) Z3 fun a4 b4=>
 RR (sBuiltin .len #[30] 3 [false] [a4]) b4 fun c4 d4=>
 RR (sBin .leq 3 false true c4 (Value.int .i64 4)) d4 fun e4 f4=>
 RR (sOp (.pick (.const W3) (.const e4) (.const (Value.bool false))) 4) f4 fun g4 h4=>
 R (.returned g4) h4) (
 RR (sOp (.pick (.const W3) (.const undef) (.const (Value.bool false))) 4) X3 fun i4 j4=>
 R (.returned i4) j4)) (
 RR (sOp (.pick (.const N3) (.const undef) (.const (Value.bool false))) 4) O3 fun k4 l4=>
 GuardV k4 true (
 RR (sOp (.fieldAddr 32 (.const a0) 3) 0) l4 fun m4 n4=>
 RR (sOp (.load 30 (.const m4)) 30) n4 fun o4 q4=>
 RR (sBuiltin .len #[30] 3 [false] [o4]) q4 fun s4 t4=>
 RR (sBin .leq 3 false true s4 (Value.int .i64 4)) t4 fun u4 v4=>
 RR (sOp (.pick (.const k4) (.const u4) (.const (Value.bool false))) 4) v4 fun w4 x4=>
 R (.returned w4) x4) (
 RR (sOp (.pick (.const k4) (.const undef) (.const (Value.bool false))) 4) l4 fun y4 z4=>
 R (.returned y4) z4))) (
 R (.returned (Value.bool false)) I3)))
theorem uW {p0:Value} {w:World} {R:Ending->World->Prop} (h:tS p0 w R):Calls Tryz.prog 176 #[p0] w R:=
  calls_sh .leaf [p0] aw Tryz.func176 (by kernel_rfl) (by kernel_rfl) h


/- slices.Contains[[]string,string] : function 177 -/
def dH (p0 p1:Value) (w:World) (R:Ending->World->Prop):Prop:=
 RR (sCall (Value.func (.func 184) #[] #[]) [p0,p1]) w fun a0 b0=>
 RR (sBin .geq 3 false true a0 (Value.int .i64 0)) b0 fun c0 d0=>
 R (.returned c0) d0
theorem fP {p0 p1:Value} {w:World} {R:Ending->World->Prop} (h:dH p0 p1 w R):Calls Tryz.prog 177 #[p0,p1] w R:=
  calls_sh .leaf [p0,p1] aw Tryz.func177 (by kernel_rfl) (by kernel_rfl) h


/- loop.example/prologserver/impl.symbols : function 178 -/
def oD (w:World) (R:Ending->World->Prop):Prop:=
 RR (sBuildSlice 82 15 [(0,(Value.string ⟨#[43]⟩)),(1,(Value.string ⟨#[45]⟩)),(2,(Value.string ⟨#[42]⟩)),(3,(Value.string ⟨#[47,47]⟩)),(4,(Value.string ⟨#[61]⟩)),(5,(Value.string ⟨#[92,61]⟩)),(6,(Value.string ⟨#[61,61]⟩)),(7,(Value.string ⟨#[60]⟩)),(8,(Value.string ⟨#[62]⟩)),(9,(Value.string ⟨#[61,60]⟩)),(10,(Value.string ⟨#[62,61]⟩)),(11,(Value.string ⟨#[61,58,61]⟩)),(12,(Value.string ⟨#[46]⟩)),(13,(Value.string ⟨#[91,93]⟩)),(14,(Value.string ⟨#[33]⟩))]) w fun a0 b0=>
 R (.returned a0) b0
theorem rv {w:World} {R:Ending->World->Prop} (h:oD w R):Calls Tryz.prog 178 #[] w R:=
  calls_sh .leaf [] aw Tryz.func178 (by kernel_rfl) (by kernel_rfl) h


/- loop.example/prologserver/spec.l2Prime : function 179 -/
def mX (p0 p1 p2:Value) (w:World) (R:Ending->World->Prop):Prop:=
 RR (sOp (.alloc 32) 0) w fun a0 b0=>
 (∃ c0:Value->World->Prop,(
 RR (sBin .lss 3 false true p2 (Value.int .i64 1)) b0 fun d0 e0=>
 GuardV d0 false (
 RR (sBuiltin .len #[9] 3 [false] [p0]) e0 fun f0 g0=>
 RR (sBin .geq 3 false false p1 f0) g0 fun h0 i0=>
 RR (sOp (.pick (.const d0) (.const (Value.bool true)) (.const h0)) 4) i0 fun j0 k0=>
 c0 j0 k0) (
 RR (sOp (.pick (.const d0) (.const (Value.bool true)) (.const undef)) 4) e0 fun l0 m0=>
 c0 l0 m0))/\
 ∀ n0 _ _ _ _ _ _ _:Value,∀ o0:World,c0 n0 o0->
 CondV n0 (
 RR (sCall (Value.func (.func 185) #[] #[]) [p1]) o0 fun q0 s0=>
 RR (sOp (.extract (.const q0) 0) 32) s0 fun t0 u0=>
 RR (sOp (.extract (.const q0) 1) 3) u0 fun v0 w0=>
 RR (sOp (.store 32 (.const a0) (.const t0)) 0) w0 fun _u x0=>
 (LoadV Tryz.prog 32 a0 x0 fun r0=>R (.returned (.tuple #[r0,v0])) x0)) (
 RR (sOp (.index 9 (.const p0) (.const p1)) 5) o0 fun y0 z0=>
 RR (sBin .eql 5 false true y0 (Value.int .u8 40)) z0 fun A0 B0=>
 CondV A0 (
 RR (sBin .add 3 false true p1 (Value.int .i64 1)) B0 fun C0 D0=>
 RR (sCall (Value.func (.func 162) #[] #[]) [p0,C0,p2,(Value.int .i64 3)]) D0 fun E0 F0=>
 RR (sOp (.extract (.const E0) 0) 32) F0 fun G0 H0=>
 RR (sOp (.extract (.const E0) 1) 3) H0 fun I0 J0=>
 RR (sOp (.alloc 32) 0) J0 fun K0 L0=>
 RR (sOp (.store 32 (.const K0) (.const G0)) 0) L0 fun _u M0=>
 RR (sBin .lss 3 false true I0 (Value.int .i64 0)) M0 fun N0 O0=>
 CondV N0 (
 RR (sBuild 32 []) O0 fun P0 Q0=>
 RR (sOp (.store 32 (.const a0) (.const P0)) 0) Q0 fun _u S0=>
 (LoadV Tryz.prog 32 a0 S0 fun r0=>R (.returned (.tuple #[r0,I0])) S0)) (
 RR (sCall (Value.func (.func 163) #[] #[]) [p0,I0,(Value.int .u8 41)]) O0 fun T0 U0=>
 RR (sOp (.unOp .not 4 (.const T0)) 4) U0 fun V0 W0=>
 CondV V0 (
 RR (sCall (Value.func (.func 185) #[] #[]) [I0]) W0 fun X0 Y0=>
 RR (sOp (.extract (.const X0) 0) 32) Y0 fun Z0 a1=>
 RR (sOp (.extract (.const X0) 1) 3) a1 fun b1 c1=>
 RR (sOp (.store 32 (.const a0) (.const Z0)) 0) c1 fun _u d1=>
 (LoadV Tryz.prog 32 a0 d1 fun r0=>R (.returned (.tuple #[r0,b1])) d1)) (
 RR (sOp (.load 32 (.const K0)) 32) W0 fun e1 f1=>
 RR (sBin .add 3 false true I0 (Value.int .i64 1)) f1 fun g1 h1=>
 RR (sOp (.store 32 (.const a0) (.const e1)) 0) h1 fun _u i1=>
 (LoadV Tryz.prog 32 a0 i1 fun r0=>R (.returned (.tuple #[r0,g1])) i1)))) (
 (∃ j1:Value->World->Prop,(
 RR (sOp (.index 9 (.const p0) (.const p1)) 5) B0 fun k1 l1=>
 RR (sBin .eql 5 false true k1 (Value.int .u8 91)) l1 fun m1 n1=>
 GuardV m1 true (
 RR (sBin .add 3 false true p1 (Value.int .i64 1)) n1 fun o1 q1=>
 RR (sCall (Value.func (.func 163) #[] #[]) [p0,o1,(Value.int .u8 93)]) q1 fun s1 t1=>
 RR (sOp (.unOp .not 4 (.const s1)) 4) t1 fun u1 v1=>
 RR (sOp (.pick (.const m1) (.const u1) (.const (Value.bool false))) 4) v1 fun w1 x1=>
 j1 w1 x1) (
 RR (sOp (.pick (.const m1) (.const undef) (.const (Value.bool false))) 4) n1 fun y1 z1=>
 j1 y1 z1))/\
 ∀ A1 _ _ _ _ _ _ _ _ _ _:Value,∀ B1:World,j1 A1 B1->
 CondV A1 (
 RR (sBin .add 3 false true p1 (Value.int .i64 1)) B1 fun C1 D1=>
 RR (sBin .sub 3 false true p2 (Value.int .i64 1)) D1 fun E1 F1=>
 RR (sCall (Value.func (.func 186) #[] #[]) [p0,C1,E1]) F1 fun G1 H1=>
 RR (sOp (.extract (.const G1) 0) 32) H1 fun I1 J1=>
 RR (sOp (.extract (.const G1) 1) 3) J1 fun K1 L1=>
 RR (sOp (.store 32 (.const a0) (.const I1)) 0) L1 fun _u M1=>
 (LoadV Tryz.prog 32 a0 M1 fun r0=>R (.returned (.tuple #[r0,K1])) M1)) (
 (∃ N1:Value->World->Prop,(
 RR (sOp (.index 9 (.const p0) (.const p1)) 5) B1 fun O1 P1=>
 RR (sBin .geq 5 false true O1 (Value.int .u8 65)) P1 fun Q1 S1=>
 GuardV Q1 true (
 RR (sOp (.index 9 (.const p0) (.const p1)) 5) S1 fun T1 U1=>
 RR (sBin .leq 5 false true T1 (Value.int .u8 90)) U1 fun V1 W1=>
 RR (sOp (.pick (.const Q1) (.const V1) (.const (Value.bool false))) 4) W1 fun X1 Y1=>
 N1 X1 Y1) (
 RR (sOp (.pick (.const Q1) (.const undef) (.const (Value.bool false))) 4) S1 fun Z1 a2=>
 N1 Z1 a2))/\
 ∀ b2 _ _ _ _ _ _ _ _ _:Value,∀ c2:World,N1 b2 c2->
 CondV b2 (
 RR (sOp (.index 9 (.const p0) (.const p1)) 5) c2 fun d2 e2=>
 RR (sBin .sub 5 false true d2 (Value.int .u8 65)) e2 fun f2 g2=>
 RR (sOp (.convert 5 3 (.const f2)) 3) g2 fun h2 i2=>
 RR (sCall (Value.func (.func 148) #[] #[]) [h2]) i2 fun j2 k2=>
 RR (sBin .add 3 false true p1 (Value.int .i64 1)) k2 fun l2 m2=>
 RR (sOp (.store 32 (.const a0) (.const j2)) 0) m2 fun _u n2=>
 (LoadV Tryz.prog 32 a0 n2 fun r0=>R (.returned (.tuple #[r0,l2])) n2)) (
 (∃ o2:Value->World->Prop,(
 RR (sCall (Value.func (.func 187) #[] #[]) [p0,p1]) c2 fun q2 s2=>
 GuardV q2 false (
 RR (sOp (.index 9 (.const p0) (.const p1)) 5) s2 fun t2 u2=>
 RR (sBin .eql 5 false true t2 (Value.int .u8 45)) u2 fun v2 w2=>
 GuardV v2 true (
 RR (sBin .add 3 false true p1 (Value.int .i64 1)) w2 fun x2 y2=>
 RR (sCall (Value.func (.func 187) #[] #[]) [p0,x2]) y2 fun z2 A2=>
 GuardV q2 false (
 RR (sOp (.pick (.const v2) (.const z2) (.const (Value.bool false))) 4) A2 fun B2 C2=>
 RR (sOp (.pick (.const q2) (.const (Value.bool true)) (.const B2)) 4) C2 fun D2 E2=>
 o2 D2 E2) (
 RR (sOp (.pick (.const q2) (.const (Value.bool true)) (.const undef)) 4) A2 fun F2 G2=>
 o2 F2 G2)) (
 GuardV q2 false (
 RR (sOp (.pick (.const v2) (.const undef) (.const (Value.bool false))) 4) w2 fun H2 I2=>
 RR (sOp (.pick (.const q2) (.const (Value.bool true)) (.const H2)) 4) I2 fun J2 K2=>
 o2 J2 K2) (
 RR (sOp (.pick (.const q2) (.const (Value.bool true)) (.const undef)) 4) w2 fun L2 M2=>
 o2 L2 M2))) (
 GuardV undef true (
 RR (sBin .add 3 false true p1 (Value.int .i64 1)) s2 fun N2 O2=>
 RR (sCall (Value.func (.func 187) #[] #[]) [p0,N2]) O2 fun P2 Q2=>
 GuardV q2 false (
 RR (sOp (.pick (.const undef) (.const P2) (.const (Value.bool false))) 4) Q2 fun S2 T2=>
 RR (sOp (.pick (.const q2) (.const (Value.bool true)) (.const S2)) 4) T2 fun U2 V2=>
 o2 U2 V2) (
 RR (sOp (.pick (.const q2) (.const (Value.bool true)) (.const undef)) 4) Q2 fun W2 X2=>
 o2 W2 X2)) (
 GuardV q2 false (
 RR (sOp (.pick (.const undef) (.const undef) (.const (Value.bool false))) 4) s2 fun Y2 Z2=>
 RR (sOp (.pick (.const q2) (.const (Value.bool true)) (.const Y2)) 4) Z2 fun a3 b3=>
 o2 a3 b3) (
 RR (sOp (.pick (.const q2) (.const (Value.bool true)) (.const undef)) 4) s2 fun c3 d3=>
 o2 c3 d3))))/\
 ∀ e3 _ _ _ _ _ _ _ _ _ _ _ _ _ _:Value,∀ f3:World,o2 e3 f3->
 CondV e3 (
 RR (sCall (Value.func (.func 188) #[] #[]) [p0,p1]) f3 fun g3 h3=>
 RR (sOp (.extract (.const g3) 0) 32) h3 fun i3 j3=>
 RR (sOp (.extract (.const g3) 1) 3) j3 fun k3 l3=>
 RR (sOp (.alloc 32) 0) l3 fun m3 n3=>
 RR (sOp (.store 32 (.const m3) (.const i3)) 0) n3 fun _u o3=>
 RR (sBin .lss 3 false true k3 (Value.int .i64 0)) o3 fun q3 s3=>
 CondV q3 (
 RR (sCall (Value.func (.func 185) #[] #[]) [p1]) s3 fun t3 u3=>
 RR (sOp (.extract (.const t3) 0) 32) u3 fun v3 w3=>
 RR (sOp (.extract (.const t3) 1) 3) w3 fun x3 y3=>
 RR (sOp (.store 32 (.const a0) (.const v3)) 0) y3 fun _u z3=>
 (LoadV Tryz.prog 32 a0 z3 fun r0=>R (.returned (.tuple #[r0,x3])) z3)) (
 RR (sOp (.load 32 (.const m3)) 32) s3 fun A3 B3=>
 RR (sOp (.store 32 (.const a0) (.const A3)) 0) B3 fun _u C3=>
 (LoadV Tryz.prog 32 a0 C3 fun r0=>R (.returned (.tuple #[r0,k3])) C3))) (
 RR (sCall (Value.func (.func 189) #[] #[]) [p0,p1]) f3 fun D3 E3=>
 RR (sOp (.extract (.const D3) 0) 9) E3 fun F3 G3=>
 RR (sOp (.extract (.const D3) 1) 3) G3 fun H3 I3=>
 RR (sBin .lss 3 false true H3 (Value.int .i64 0)) I3 fun J3 K3=>
 CondV J3 (
 RR (sCall (Value.func (.func 185) #[] #[]) [p1]) K3 fun L3 M3=>
 RR (sOp (.extract (.const L3) 0) 32) M3 fun N3 O3=>
 RR (sOp (.extract (.const L3) 1) 3) O3 fun P3 Q3=>
 RR (sOp (.store 32 (.const a0) (.const N3)) 0) Q3 fun _u S3=>
 (LoadV Tryz.prog 32 a0 S3 fun r0=>R (.returned (.tuple #[r0,P3])) S3)) (
 RR (sCall (Value.func (.func 163) #[] #[]) [p0,H3,(Value.int .u8 40)]) K3 fun T3 U3=>
 RR (sOp (.unOp .not 4 (.const T3)) 4) U3 fun V3 W3=>
 CondV V3 (
 RR (sCall (Value.func (.func 106) #[] #[]) [F3,(Value.slice none 0 0)]) W3 fun X3 Y3=>
 RR (sOp (.store 32 (.const a0) (.const X3)) 0) Y3 fun _u Z3=>
 (LoadV Tryz.prog 32 a0 Z3 fun r0=>R (.returned (.tuple #[r0,H3])) Z3)) (
 RR (sBin .add 3 false true H3 (Value.int .i64 1)) W3 fun a4 b4=>
 RR (sBin .sub 3 false true p2 (Value.int .i64 1)) b4 fun c4 d4=>
 RR (sCall (Value.func (.func 190) #[] #[]) [p0,a4,c4,(Value.int .u8 41),(Value.int .u8 41)]) d4 fun e4 f4=>
 RR (sOp (.extract (.const e4) 0) 30) f4 fun g4 h4=>
 RR (sOp (.extract (.const e4) 1) 3) h4 fun i4 j4=>
 RR (sBin .lss 3 false true i4 (Value.int .i64 0)) j4 fun k4 l4=>
 CondV k4 (
 RR (sBuild 32 []) l4 fun m4 n4=>
 RR (sOp (.store 32 (.const a0) (.const m4)) 0) n4 fun _u o4=>
 (LoadV Tryz.prog 32 a0 o4 fun r0=>R (.returned (.tuple #[r0,i4])) o4)) (
 RR (sBuild 32 [(0,(Value.int .i64 3)),(2,F3),(3,g4)]) l4 fun q4 s4=>
 RR (sBin .add 3 false true i4 (Value.int .i64 1)) s4 fun t4 u4=>
 RR (sOp (.store 32 (.const a0) (.const q4)) 0) u4 fun _ v4=>
 (LoadV Tryz.prog 32 a0 v4 fun r0=>R (.returned (.tuple #[r0,t4])) v4)))))))))))))
theorem rU {p0 p1 p2:Value} {w:World} {R:Ending->World->Prop} (h:mX p0 p1 p2 w R):Calls Tryz.prog 179 #[p0,p1,p2] w R:=
  calls_sh (.seq none .leaf (.seq none (.seq (some [23]) .leaf .leaf) (.seq none .leaf (.seq none (.seq (some [65]) .leaf .leaf) (.seq none (.seq (some [83]) .leaf .leaf) (.seq none (.seq (some [106]) .leaf .leaf) .leaf)))))) [p0,p1,p2] aw Tryz.func179 (by kernel_rfl) (by kernel_rfl) h


/- loop.example/prologserver/spec.l2Op : function 180 -/
def vS (p0 p1:Value) (w:World) (R:Ending->World->Prop):Prop:=
 (∃ a0:Value->World->Prop,(
 RR (sCall (Value.func (.func 163) #[] #[]) [p0,p1,(Value.int .u8 32)]) w fun b0 c0=>
 CondV b0 (
 RR (sBin .add 3 false true p1 (Value.int .i64 1)) c0 fun d0 e0=>
 a0 d0 e0) (
 a0 p1 c0))/\
 ∀ f0 _ _ _ _ _:Value,∀ g0:World,a0 f0 g0->
 RR (sBuiltin .len #[9] 3 [false] [p0]) g0 fun h0 i0=>
 RR (sBin .geq 3 false false f0 h0) i0 fun j0 k0=>
 CondV j0 (
 R (.returned (.tuple #[(Value.string ⟨#[]⟩),p1])) k0) (
 RR (sCall (Value.func (.func 189) #[] #[]) [p0,f0]) k0 fun l0 m0=>
 RR (sOp (.extract (.const l0) 0) 9) m0 fun n0 o0=>
 RR (sOp (.extract (.const l0) 1) 3) o0 fun q0 s0=>
 (∃ t0:Value->World->Prop,(
 RR (sBin .lss 3 false true q0 (Value.int .i64 0)) s0 fun u0 v0=>
 GuardV u0 false (
 RR (sCall (Value.func (.func 156) #[] #[]) [n0]) v0 fun w0 x0=>
 RR (sBin .eql 3 false true w0 (Value.int .i64 0)) x0 fun y0 z0=>
 RR (sOp (.pick (.const u0) (.const (Value.bool true)) (.const y0)) 4) z0 fun A0 B0=>
 t0 A0 B0) (
 RR (sOp (.pick (.const u0) (.const (Value.bool true)) (.const undef)) 4) v0 fun C0 D0=>
 t0 C0 D0))/\
 ∀ E0 _ _ _ _ _ _:Value,∀ F0:World,t0 E0 F0->
 CondV E0 (
 R (.returned (.tuple #[(Value.string ⟨#[]⟩),p1])) F0) (
 (∃ G0:Value->World->Prop,(
 RR (sBin .eql 9 false true n0 (Value.string ⟨#[105,115]⟩)) F0 fun H0 I0=>
 GuardV H0 false (
 RR (sBin .eql 9 false true n0 (Value.string ⟨#[109,111,100]⟩)) I0 fun J0 K0=>
 RR (sOp (.pick (.const H0) (.const (Value.bool true)) (.const J0)) 4) K0 fun L0 M0=>
 G0 L0 M0) (
 RR (sOp (.pick (.const H0) (.const (Value.bool true)) (.const undef)) 4) I0 fun N0 O0=>
 G0 N0 O0))/\
 ∀ P0 _ _ _ _ _ _:Value,∀ Q0:World,G0 P0 Q0->
 (∃ S0:Value->World->Prop,(
 RR (sBin .gtr 3 false false f0 p1) Q0 fun T0 U0=>
 RR (sBin .neq 4 false false P0 T0) U0 fun V0 W0=>
 GuardV V0 false (
 GuardV P0 true (
 RR (sCall (Value.func (.func 163) #[] #[]) [p0,q0,(Value.int .u8 32)]) W0 fun X0 Y0=>
 RR (sOp (.unOp .not 4 (.const X0)) 4) Y0 fun Z0 a1=>
 GuardV V0 false (
 RR (sOp (.pick (.const P0) (.const Z0) (.const (Value.bool false))) 4) a1 fun b1 c1=>
 RR (sOp (.pick (.const V0) (.const (Value.bool true)) (.const b1)) 4) c1 fun d1 e1=>
 S0 d1 e1) (
 RR (sOp (.pick (.const V0) (.const (Value.bool true)) (.const undef)) 4) a1 fun f1 g1=>
 S0 f1 g1)) (
 GuardV V0 false (
 RR (sOp (.pick (.const P0) (.const undef) (.const (Value.bool false))) 4) W0 fun h1 i1=>
 RR (sOp (.pick (.const V0) (.const (Value.bool true)) (.const h1)) 4) i1 fun j1 k1=>
 S0 j1 k1) (
 RR (sOp (.pick (.const V0) (.const (Value.bool true)) (.const undef)) 4) W0 fun l1 m1=>
 S0 l1 m1))) (
 GuardV undef true (
 RR (sCall (Value.func (.func 163) #[] #[]) [p0,q0,(Value.int .u8 32)]) W0 fun n1 o1=>
 RR (sOp (.unOp .not 4 (.const n1)) 4) o1 fun q1 s1=>
 GuardV V0 false (
 RR (sOp (.pick (.const undef) (.const q1) (.const (Value.bool false))) 4) s1 fun t1 u1=>
 RR (sOp (.pick (.const V0) (.const (Value.bool true)) (.const t1)) 4) u1 fun v1 w1=>
 S0 v1 w1) (
 RR (sOp (.pick (.const V0) (.const (Value.bool true)) (.const undef)) 4) s1 fun x1 y1=>
 S0 x1 y1)) (
 GuardV V0 false (
 RR (sOp (.pick (.const undef) (.const undef) (.const (Value.bool false))) 4) W0 fun z1 A1=>
 RR (sOp (.pick (.const V0) (.const (Value.bool true)) (.const z1)) 4) A1 fun B1 C1=>
 S0 B1 C1) (
 RR (sOp (.pick (.const V0) (.const (Value.bool true)) (.const undef)) 4) W0 fun D1 E1=>
 S0 D1 E1))))/\
 ∀ F1 _ _ _ _ _ _ _ _ _ _ _ _ _:Value,∀ G1:World,S0 F1 G1->
 CondV F1 (
 R (.returned (.tuple #[(Value.string ⟨#[]⟩),p1])) G1) (
 (∃ H1:Value->World->Prop,(
 CondV P0 (
 RR (sBin .add 3 false true q0 (Value.int .i64 1)) G1 fun I1 J1=>
 H1 I1 J1) (
 H1 q0 G1))/\
 ∀ K1 _ _ _:Value,∀ L1:World,H1 K1 L1->
 R (.returned (.tuple #[n0,K1])) L1))))))))
theorem xg {p0 p1:Value} {w:World} {R:Ending->World->Prop} (h:vS p0 p1 w R):Calls Tryz.prog 180 #[p0,p1] w R:=
  calls_sh (.seq none .leaf (.seq none .leaf (.seq (some [6]) .leaf (.seq none .leaf (.seq none .leaf (.seq none (.seq (some [33]) .leaf .leaf) (.seq (some [9]) .leaf (.seq none (.seq (some [54]) .leaf .leaf) (.seq (some [8]) .leaf .leaf))))))))) [p0,p1] aw Tryz.func180 (by kernel_rfl) (by kernel_rfl) h


/- loop.example/prologserver/spec.l4Text : function 181 -/
def qQ (p0:Value) (w:World) (R:Ending->World->Prop):Prop:=
 RR (sOp (.box 34 (.const p0)) 0) w fun a0 b0=>
 RR (sOp (.fieldAddr 34 (.const a0) 0) 0) b0 fun c0 d0=>
 RR (sOp (.load 32 (.const c0)) 32) d0 fun e0 f0=>
 RR (sCall (Value.func (.func 191) #[] #[]) [e0]) f0 fun g0 h0=>
 (∃ (i0:Value->Value->World->Prop) (j0:Value->Value->World->Nat),i0 (Value.int .i64 0) g0 h0/\
 ∀ k0 _ _ _ _ _ _ _ _ _ _ _ _ l0 _ _ _ _ _ _ _ _ _:Value,∀ m0:World,i0 k0 l0 m0->
 RR (sOp (.fieldAddr 34 (.const a0) 1) 0) m0 fun n0 o0=>
 RR (sOp (.load 30 (.const n0)) 30) o0 fun q0 s0=>
 RR (sBuiltin .len #[30] 3 [false] [q0]) s0 fun t0 u0=>
 RR (sBin .lss 3 false false k0 t0) u0 fun v0 w0=>
 CondV v0 (
 (∃ x0:Value->World->Prop,(
 RR (sBin .eql 3 false true k0 (Value.int .i64 0)) w0 fun y0 z0=>
 CondV y0 (
 RR (sBin .add 9 false true l0 (Value.string ⟨#[58,45]⟩)) z0 fun A0 B0=>
 x0 A0 B0) (
 RR (sBin .add 9 false true l0 (Value.string ⟨#[44]⟩)) z0 fun C0 D0=>
 x0 C0 D0))/\
 ∀ _ _ E0 _ _ _ _:Value,∀ F0:World,x0 E0 F0->
 RR (sOp (.fieldAddr 34 (.const a0) 1) 0) F0 fun G0 H0=>
 RR (sOp (.load 30 (.const G0)) 30) H0 fun I0 J0=>
 RR (sOp (.indexAddr 30 (.const I0) (.const k0)) 0) J0 fun K0 L0=>
 RR (sOp (.load 32 (.const K0)) 32) L0 fun M0 N0=>
 RR (sCall (Value.func (.func 191) #[] #[]) [M0]) N0 fun O0 P0=>
 RR (sBin .add 9 false false E0 O0) P0 fun Q0 S0=>
 RR (sBin .add 3 false true k0 (Value.int .i64 1)) S0 fun T0 U0=>
 i0 T0 Q0 U0/\j0 T0 Q0 U0<j0 k0 l0 m0)) (
 RR (sBin .add 9 false true l0 (Value.string ⟨#[46]⟩)) w0 fun V0 W0=>
 R (.returned V0) W0))
theorem sy {p0:Value} {w:World} {R:Ending->World->Prop} (h:qQ p0 w R):Calls Tryz.prog 181 #[p0] w R:=
  calls_sh (.seq none .leaf (.seq none .leaf (.seq none (.seq none .leaf (.one (.loop [4,3] (.seq none .leaf (.seq none (.one (.seq (some [3]) .leaf .leaf)) .leaf))))) .leaf))) [p0] aw Tryz.func181 (by kernel_rfl) (by kernel_rfl) h


/- (*loop.example/prologserver/impl.store).occurs : function 182 -/
def fo (p0 p1 p2 p3:Value) (w:World) (R:Ending->World->Prop):Prop:=
 RR (sOp (.box 128 (.const p0)) 0) w fun a0 b0=>
 RR (sOp (.box 3 (.const p1)) 0) b0 fun c0 d0=>
 RR (sOp (.box 32 (.const p2)) 0) d0 fun e0 f0=>
 RR (sOp (.box 156 (.const p3)) 0) f0 fun g0 h0=>
 RR (sOp (.fieldAddr 32 (.const e0) 0) 0) h0 fun i0 j0=>
 RR (sOp (.load 3 (.const i0)) 3) j0 fun k0 l0=>
 RR (sBin .eql 3 false true k0 (Value.int .i64 1)) l0 fun m0 n0=>
 CondV m0 (
 RR (sOp (.load 156 (.const g0)) 156) n0 fun o0 q0=>
 RR (sOp (.fieldAddr 32 (.const e0) 1) 0) q0 fun s0 t0=>
 RR (sOp (.load 3 (.const s0)) 3) t0 fun u0 v0=>
 RR (sOp (.lookup 156 (.const o0) (.const u0) false) 4) v0 fun w0 x0=>
 CondV w0 (
 R (.returned (Value.bool false)) x0) (
 RR (sOp (.load 156 (.const g0)) 156) x0 fun y0 z0=>
 RR (sOp (.fieldAddr 32 (.const e0) 1) 0) z0 fun A0 B0=>
 RR (sOp (.load 3 (.const A0)) 3) B0 fun C0 D0=>
 RR (sOp (.mapUpdate 156 (.const y0) (.const C0) (.const (Value.bool true))) 0) D0 fun _u E0=>
 RR (sOp (.load 128 (.const a0)) 128) E0 fun F0 G0=>
 RR (sOp (.load 32 (.const e0)) 32) G0 fun H0 I0=>
 RR (sCall (Value.func (.func 173) #[] #[]) [F0,H0]) I0 fun J0 K0=>
 RR (sOp (.alloc 32) 0) K0 fun L0 M0=>
 RR (sOp (.store 32 (.const L0) (.const J0)) 0) M0 fun _ N0=>
 RR (sOp (.fieldAddr 32 (.const L0) 0) 0) N0 fun O0 P0=>
 RR (sOp (.load 3 (.const O0)) 3) P0 fun Q0 S0=>
 RR (sBin .eql 3 false true Q0 (Value.int .i64 1)) S0 fun T0 U0=>
 CondV T0 (
 RR (sOp (.fieldAddr 32 (.const L0) 1) 0) U0 fun V0 W0=>
 RR (sOp (.load 3 (.const V0)) 3) W0 fun X0 Y0=>
 RR (sOp (.load 3 (.const c0)) 3) Y0 fun Z0 a1=>
 RR (sBin .eql 3 false false X0 Z0) a1 fun b1 c1=>
 R (.returned b1) c1) (
 RR (sOp (.load 128 (.const a0)) 128) U0 fun d1 e1=>
 RR (sOp (.load 3 (.const c0)) 3) e1 fun f1 g1=>
 RR (sOp (.load 32 (.const L0)) 32) g1 fun h1 i1=>
 RR (sOp (.load 156 (.const g0)) 156) i1 fun j1 k1=>
 RR (sCall (Value.func (.func 182) #[] #[]) [d1,f1,h1,j1]) k1 fun l1 m1=>
 R (.returned l1) m1))) (
 RR (sOp (.fieldAddr 32 (.const e0) 3) 0) n0 fun n1 o1=>
 RR (sOp (.load 30 (.const n1)) 30) o1 fun q1 s1=>
 RR (sMakeFunc (.func 192) [] [a0,c0,g0]) s1 fun t1 u1=>
 RR (sCall (Value.func (.func 122) #[] #[]) [q1,t1]) u1 fun v1 w1=>
 R (.returned v1) w1)
theorem jl {p0 p1 p2 p3:Value} {w:World} {R:Ending->World->Prop} (h:fo p0 p1 p2 p3 w R):Calls Tryz.prog 182 #[p0,p1,p2,p3] w R:=
  calls_sh .leaf [p0,p1,p2,p3] aw Tryz.func182 (by kernel_rfl) (by kernel_rfl) h


/- loop.example/prologserver/spec.NameValid : function 183 -/
def kl (p0:Value) (w:World) (R:Ending->World->Prop):Prop:=
 RR (sCall (Value.func (.func 154) #[] #[]) [p0]) w fun a0 b0=>
 GuardV a0 false (
 RR (sCall (Value.func (.func 194) #[] #[]) []) b0 fun c0 d0=>
 RR (sCall (Value.func (.func 193) #[] #[]) [c0,p0]) d0 fun e0 f0=>
 RR (sOp (.pick (.const a0) (.const (Value.bool true)) (.const e0)) 4) f0 fun g0 h0=>
 R (.returned g0) h0) (
 RR (sOp (.pick (.const a0) (.const (Value.bool true)) (.const undef)) 4) b0 fun i0 j0=>
 R (.returned i0) j0)
theorem mP {p0:Value} {w:World} {R:Ending->World->Prop} (h:kl p0 w R):Calls Tryz.prog 183 #[p0] w R:=
  calls_sh .leaf [p0] aw Tryz.func183 (by kernel_rfl) (by kernel_rfl) h


/- slices.Index[[]string,string] : function 184 -/
def eY (p0 p1:Value) (w:World) (R:Ending->World->Prop):Prop:=
 RR (sBuiltin .len #[82] 3 [false] [p0]) w fun a0 b0=>
 (∃ (c0:Value->World->Prop) (d0:Value->World->Nat),c0 (Value.int .i64 0) b0/\
 ∀ e0 _ _ _ _ _ _ _ _ _ _ _ _:Value,∀ f0:World,c0 e0 f0->
 RR (sBin .lss 3 false false e0 a0) f0 fun g0 h0=>
 CondV g0 (
 RR (sOp (.indexAddr 82 (.const p0) (.const e0)) 0) h0 fun i0 j0=>
 RR (sOp (.load 9 (.const i0)) 9) j0 fun k0 l0=>
 RR (sBin .eql 9 false false p1 k0) l0 fun m0 n0=>
 CondV m0 (
 R (.returned e0) n0) (
 RR (sBin .add 3 false true e0 (Value.int .i64 1)) n0 fun o0 q0=>
 c0 o0 q0/\d0 o0 q0<d0 e0 f0)) (
 R (.returned (Value.int .i64 (-1))) h0))
theorem iI {p0 p1:Value} {w:World} {R:Ending->World->Prop} (h:eY p0 p1 w R):Calls Tryz.prog 184 #[p0,p1] w R:=
  calls_sh (.seq none .leaf (.seq none (.seq none .leaf (.one (.loop [8] .leaf))) .leaf)) [p0,p1] aw Tryz.func184 (by kernel_rfl) (by kernel_rfl) h


/- loop.example/prologserver/spec.l2Items : function 186 -/
def mI (p0 p1 p2:Value) (w:World) (R:Ending->World->Prop):Prop:=
 RR (sOp (.alloc 32) 0) w fun a0 b0=>
 RR (sCall (Value.func (.func 190) #[] #[]) [p0,p1,p2,(Value.int .u8 93),(Value.int .u8 124)]) b0 fun c0 d0=>
 RR (sOp (.extract (.const c0) 0) 30) d0 fun e0 f0=>
 RR (sOp (.extract (.const c0) 1) 3) f0 fun g0 h0=>
 RR (sBin .lss 3 false true g0 (Value.int .i64 0)) h0 fun i0 j0=>
 CondV i0 (
 RR (sBuild 32 []) j0 fun k0 l0=>
 RR (sOp (.store 32 (.const a0) (.const k0)) 0) l0 fun _u m0=>
 (LoadV Tryz.prog 32 a0 m0 fun r0=>R (.returned (.tuple #[r0,g0])) m0)) (
 RR (sCall (Value.func (.func 163) #[] #[]) [p0,g0,(Value.int .u8 93)]) j0 fun n0 o0=>
 CondV n0 (
 RR (sCall (Value.func (.func 106) #[] #[]) [(Value.string ⟨#[91,93]⟩),(Value.slice none 0 0)]) o0 fun q0 s0=>
 RR (sCall (Value.func (.func 195) #[] #[]) [e0,q0]) s0 fun t0 u0=>
 RR (sBin .add 3 false true g0 (Value.int .i64 1)) u0 fun v0 w0=>
 RR (sOp (.store 32 (.const a0) (.const t0)) 0) w0 fun _u x0=>
 (LoadV Tryz.prog 32 a0 x0 fun r0=>R (.returned (.tuple #[r0,v0])) x0)) (
 RR (sBin .add 3 false true g0 (Value.int .i64 1)) o0 fun y0 z0=>
 RR (sCall (Value.func (.func 162) #[] #[]) [p0,y0,p2,(Value.int .i64 3)]) z0 fun A0 B0=>
 RR (sOp (.extract (.const A0) 0) 32) B0 fun C0 D0=>
 RR (sOp (.extract (.const A0) 1) 3) D0 fun E0 F0=>
 RR (sOp (.alloc 32) 0) F0 fun G0 H0=>
 RR (sOp (.store 32 (.const G0) (.const C0)) 0) H0 fun _u I0=>
 RR (sBin .lss 3 false true E0 (Value.int .i64 0)) I0 fun J0 K0=>
 CondV J0 (
 RR (sBuild 32 []) K0 fun L0 M0=>
 RR (sOp (.store 32 (.const a0) (.const L0)) 0) M0 fun _u N0=>
 (LoadV Tryz.prog 32 a0 N0 fun r0=>R (.returned (.tuple #[r0,E0])) N0)) (
 RR (sCall (Value.func (.func 163) #[] #[]) [p0,E0,(Value.int .u8 93)]) K0 fun O0 P0=>
 RR (sOp (.unOp .not 4 (.const O0)) 4) P0 fun Q0 S0=>
 CondV Q0 (
 RR (sCall (Value.func (.func 185) #[] #[]) [E0]) S0 fun T0 U0=>
 RR (sOp (.extract (.const T0) 0) 32) U0 fun V0 W0=>
 RR (sOp (.extract (.const T0) 1) 3) W0 fun X0 Y0=>
 RR (sOp (.store 32 (.const a0) (.const V0)) 0) Y0 fun _u Z0=>
 (LoadV Tryz.prog 32 a0 Z0 fun r0=>R (.returned (.tuple #[r0,X0])) Z0)) (
 RR (sOp (.load 32 (.const G0)) 32) S0 fun a1 b1=>
 RR (sCall (Value.func (.func 195) #[] #[]) [e0,a1]) b1 fun c1 d1=>
 RR (sBin .add 3 false true E0 (Value.int .i64 1)) d1 fun e1 f1=>
 RR (sOp (.store 32 (.const a0) (.const c1)) 0) f1 fun _ g1=>
 (LoadV Tryz.prog 32 a0 g1 fun r0=>R (.returned (.tuple #[r0,e1])) g1)))))
theorem rE {p0 p1 p2:Value} {w:World} {R:Ending->World->Prop} (h:mI p0 p1 p2 w R):Calls Tryz.prog 186 #[p0,p1,p2] w R:=
  calls_sh .leaf [p0,p1,p2] aw Tryz.func186 (by kernel_rfl) (by kernel_rfl) h


/- loop.example/prologserver/spec.l1Digit : function 187 -/
def oy (p0 p1:Value) (w:World) (R:Ending->World->Prop):Prop:=
 RR (sBin .geq 3 false true p1 (Value.int .i64 0)) w fun a0 b0=>
 GuardV a0 true (
 RR (sBuiltin .len #[9] 3 [false] [p0]) b0 fun c0 d0=>
 RR (sBin .lss 3 false false p1 c0) d0 fun e0 f0=>
 RR (sOp (.pick (.const a0) (.const e0) (.const (Value.bool false))) 4) f0 fun g0 h0=>
 GuardV g0 true (
 RR (sOp (.index 9 (.const p0) (.const p1)) 5) h0 fun i0 j0=>
 RR (sBin .geq 5 false true i0 (Value.int .u8 48)) j0 fun k0 l0=>
 RR (sOp (.pick (.const g0) (.const k0) (.const (Value.bool false))) 4) l0 fun m0 n0=>
 GuardV m0 true (
 RR (sOp (.index 9 (.const p0) (.const p1)) 5) n0 fun o0 q0=>
 RR (sBin .leq 5 false true o0 (Value.int .u8 57)) q0 fun s0 t0=>
 RR (sOp (.pick (.const m0) (.const s0) (.const (Value.bool false))) 4) t0 fun u0 v0=>
 R (.returned u0) v0) (
 RR (sOp (.pick (.const m0) (.const undef) (.const (Value.bool false))) 4) n0 fun w0 x0=>
 R (.returned w0) x0)) (
 RR (sOp (.pick (.const g0) (.const undef) (.const (Value.bool false))) 4) h0 fun y0 z0=>
 GuardV y0 true (
 RR (sOp (.index 9 (.const p0) (.const p1)) 5) z0 fun A0 B0=>
 RR (sBin .leq 5 false true A0 (Value.int .u8 57)) B0 fun C0 D0=>
 RR (sOp (.pick (.const y0) (.const C0) (.const (Value.bool false))) 4) D0 fun E0 F0=>
 R (.returned E0) F0) (
 RR (sOp (.pick (.const y0) (.const undef) (.const (Value.bool false))) 4) z0 fun G0 H0=>
 R (.returned G0) H0))) (
 RR (sOp (.pick (.const a0) (.const undef) (.const (Value.bool false))) 4) b0 fun I0 J0=>
 GuardV I0 true (
 RR (sOp (.index 9 (.const p0) (.const p1)) 5) J0 fun K0 L0=>
 RR (sBin .geq 5 false true K0 (Value.int .u8 48)) L0 fun M0 N0=>
 RR (sOp (.pick (.const I0) (.const M0) (.const (Value.bool false))) 4) N0 fun O0 P0=>
 GuardV O0 true (
 RR (sOp (.index 9 (.const p0) (.const p1)) 5) P0 fun Q0 S0=>
 RR (sBin .leq 5 false true Q0 (Value.int .u8 57)) S0 fun T0 U0=>
 RR (sOp (.pick (.const O0) (.const T0) (.const (Value.bool false))) 4) U0 fun V0 W0=>
 R (.returned V0) W0) (
 RR (sOp (.pick (.const O0) (.const undef) (.const (Value.bool false))) 4) P0 fun X0 Y0=>
 R (.returned X0) Y0)) (
 RR (sOp (.pick (.const I0) (.const undef) (.const (Value.bool false))) 4) J0 fun Z0 a1=>
 GuardV Z0 true (
 RR (sOp (.index 9 (.const p0) (.const p1)) 5) a1 fun b1 c1=>
 RR (sBin .leq 5 false true b1 (Value.int .u8 57)) c1 fun d1 e1=>
 RR (sOp (.pick (.const Z0) (.const d1) (.const (Value.bool false))) 4) e1 fun f1 g1=>
 R (.returned f1) g1) (
 RR (sOp (.pick (.const Z0) (.const undef) (.const (Value.bool false))) 4) a1 fun h1 i1=>
 R (.returned h1) i1)))
theorem ry {p0 p1:Value} {w:World} {R:Ending->World->Prop} (h:oy p0 p1 w R):Calls Tryz.prog 187 #[p0,p1] w R:=
  calls_sh .leaf [p0,p1] aw Tryz.func187 (by kernel_rfl) (by kernel_rfl) h


/- loop.example/prologserver/spec.l1Number : function 188 -/
def ly (p0 p1:Value) (w:World) (R:Ending->World->Prop):Prop:=
 RR (sOp (.alloc 32) 0) w fun a0 b0=>
 (∃ c0:Value->World->Prop,(
 RR (sCall (Value.func (.func 163) #[] #[]) [p0,p1,(Value.int .u8 45)]) b0 fun d0 e0=>
 CondV d0 (
 RR (sBin .add 3 false true p1 (Value.int .i64 1)) e0 fun f0 g0=>
 c0 f0 g0) (
 c0 p1 e0))/\
 ∀ h0 _ _ _ _ _:Value,∀ i0:World,c0 h0 i0->
 (∃ (j0:Value->World->Prop) (k0:Value->World->Nat),j0 h0 i0/\
 ∀ l0 _ _ _ _ _ _ _ _ _ _ _:Value,∀ m0:World,j0 l0 m0->
 (∃ n0:Value->World->Prop,(
 RR (sCall (Value.func (.func 187) #[] #[]) [p0,l0]) m0 fun o0 q0=>
 GuardV o0 true (
 RR (sBin .add 3 false true h0 (Value.int .i64 4)) q0 fun s0 t0=>
 RR (sBin .lss 3 false false l0 s0) t0 fun u0 v0=>
 RR (sOp (.pick (.const o0) (.const u0) (.const (Value.bool false))) 4) v0 fun w0 x0=>
 n0 w0 x0) (
 RR (sOp (.pick (.const o0) (.const undef) (.const (Value.bool false))) 4) q0 fun y0 z0=>
 n0 y0 z0))/\
 ∀ A0 _ _ _ _ _ _ _ _:Value,∀ B0:World,n0 A0 B0->
 CondV A0 (
 RR (sBin .add 3 false true l0 (Value.int .i64 1)) B0 fun C0 D0=>
 j0 C0 D0/\k0 C0 D0<k0 l0 m0) (
 RR (sOp (.slice 9 (.const p0) (some (.const h0)) (some (.const l0)) none) 9) B0 fun E0 F0=>
 RR (sCall (Value.func (.func 196) #[] #[]) [E0]) F0 fun G0 H0=>
 RR (sOp (.extract (.const G0) 0) 3) H0 fun I0 J0=>
 RR (sOp (.extract (.const G0) 1) 4) J0 fun K0 L0=>
 (∃ M0:Value->World->Prop,(
 RR (sOp (.unOp .not 4 (.const K0)) 4) L0 fun N0 O0=>
 GuardV N0 false (
 RR (sBin .gtr 3 false false h0 p1) O0 fun P0 Q0=>
 GuardV P0 true (
 RR (sBin .eql 3 false true I0 (Value.int .i64 0)) Q0 fun S0 T0=>
 GuardV N0 false (
 RR (sOp (.pick (.const P0) (.const S0) (.const (Value.bool false))) 4) T0 fun U0 V0=>
 RR (sOp (.pick (.const N0) (.const (Value.bool true)) (.const U0)) 4) V0 fun W0 X0=>
 GuardV W0 false (
 RR (sBin .gtr 3 false true I0 (Value.int .i64 999)) X0 fun Y0 Z0=>
 RR (sOp (.pick (.const W0) (.const (Value.bool true)) (.const Y0)) 4) Z0 fun a1 b1=>
 M0 a1 b1) (
 RR (sOp (.pick (.const W0) (.const (Value.bool true)) (.const undef)) 4) X0 fun c1 d1=>
 M0 c1 d1)) (
 RR (sOp (.pick (.const N0) (.const (Value.bool true)) (.const undef)) 4) T0 fun e1 f1=>
 GuardV e1 false (
 RR (sBin .gtr 3 false true I0 (Value.int .i64 999)) f1 fun g1 h1=>
 RR (sOp (.pick (.const e1) (.const (Value.bool true)) (.const g1)) 4) h1 fun i1 j1=>
 M0 i1 j1) (
 RR (sOp (.pick (.const e1) (.const (Value.bool true)) (.const undef)) 4) f1 fun k1 l1=>
 M0 k1 l1))) (
 GuardV N0 false (
 RR (sOp (.pick (.const P0) (.const undef) (.const (Value.bool false))) 4) Q0 fun m1 n1=>
 RR (sOp (.pick (.const N0) (.const (Value.bool true)) (.const m1)) 4) n1 fun o1 q1=>
 GuardV o1 false (
 RR (sBin .gtr 3 false true I0 (Value.int .i64 999)) q1 fun s1 t1=>
 RR (sOp (.pick (.const o1) (.const (Value.bool true)) (.const s1)) 4) t1 fun u1 v1=>
 M0 u1 v1) (
 RR (sOp (.pick (.const o1) (.const (Value.bool true)) (.const undef)) 4) q1 fun w1 x1=>
 M0 w1 x1)) (
 RR (sOp (.pick (.const N0) (.const (Value.bool true)) (.const undef)) 4) Q0 fun y1 z1=>
 GuardV y1 false (
 RR (sBin .gtr 3 false true I0 (Value.int .i64 999)) z1 fun A1 B1=>
 RR (sOp (.pick (.const y1) (.const (Value.bool true)) (.const A1)) 4) B1 fun C1 D1=>
 M0 C1 D1) (
 RR (sOp (.pick (.const y1) (.const (Value.bool true)) (.const undef)) 4) z1 fun E1 F1=>
 M0 E1 F1)))) (
 GuardV undef true (
 RR (sBin .eql 3 false true I0 (Value.int .i64 0)) O0 fun G1 H1=>
 GuardV N0 false (
 RR (sOp (.pick (.const undef) (.const G1) (.const (Value.bool false))) 4) H1 fun I1 J1=>
 RR (sOp (.pick (.const N0) (.const (Value.bool true)) (.const I1)) 4) J1 fun K1 L1=>
 GuardV K1 false (
 RR (sBin .gtr 3 false true I0 (Value.int .i64 999)) L1 fun M1 N1=>
 RR (sOp (.pick (.const K1) (.const (Value.bool true)) (.const M1)) 4) N1 fun O1 P1=>
 M0 O1 P1) (
 RR (sOp (.pick (.const K1) (.const (Value.bool true)) (.const undef)) 4) L1 fun Q1 S1=>
 M0 Q1 S1)) (
 RR (sOp (.pick (.const N0) (.const (Value.bool true)) (.const undef)) 4) H1 fun T1 U1=>
 GuardV T1 false (
 RR (sBin .gtr 3 false true I0 (Value.int .i64 999)) U1 fun V1 W1=>
 RR (sOp (.pick (.const T1) (.const (Value.bool true)) (.const V1)) 4) W1 fun X1 Y1=>
 M0 X1 Y1) (
 RR (sOp (.pick (.const T1) (.const (Value.bool true)) (.const undef)) 4) U1 fun Z1 a2=>
 M0 Z1 a2))) (
 GuardV N0 false (
 RR (sOp (.pick (.const undef) (.const undef) (.const (Value.bool false))) 4) O0 fun b2 c2=>
 RR (sOp (.pick (.const N0) (.const (Value.bool true)) (.const b2)) 4) c2 fun d2 e2=>
 GuardV d2 false (
 RR (sBin .gtr 3 false true I0 (Value.int .i64 999)) e2 fun f2 g2=>
 RR (sOp (.pick (.const d2) (.const (Value.bool true)) (.const f2)) 4) g2 fun h2 i2=>
 M0 h2 i2) (
 RR (sOp (.pick (.const d2) (.const (Value.bool true)) (.const undef)) 4) e2 fun j2 k2=>
 M0 j2 k2)) (
 RR (sOp (.pick (.const N0) (.const (Value.bool true)) (.const undef)) 4) O0 fun l2 m2=>
 GuardV l2 false (
 RR (sBin .gtr 3 false true I0 (Value.int .i64 999)) m2 fun n2 o2=>
 RR (sOp (.pick (.const l2) (.const (Value.bool true)) (.const n2)) 4) o2 fun q2 s2=>
 M0 q2 s2) (
 RR (sOp (.pick (.const l2) (.const (Value.bool true)) (.const undef)) 4) m2 fun t2 u2=>
 M0 t2 u2)))))/\
 ∀ v2 _ _ _ _ _ _ _ _ _ _ _ _ _ _:Value,∀ w2:World,M0 v2 w2->
 CondV v2 (
 RR (sBuild 32 []) w2 fun x2 y2=>
 RR (sOp (.store 32 (.const a0) (.const x2)) 0) y2 fun _u z2=>
 (LoadV Tryz.prog 32 a0 z2 fun r0=>R (.returned (.tuple #[r0,(Value.int .i64 (-1))])) z2)) (
 (∃ A2:Value->World->Prop,(
 RR (sBin .gtr 3 false false h0 p1) w2 fun B2 C2=>
 CondV B2 (
 RR (sOp (.unOp .neg 3 (.const I0)) 3) C2 fun D2 E2=>
 A2 D2 E2) (
 A2 I0 C2))/\
 ∀ F2 _ _ _ _ _:Value,∀ G2:World,A2 F2 G2->
 RR (sCall (Value.func (.func 149) #[] #[]) [F2]) G2 fun H2 I2=>
 RR (sOp (.store 32 (.const a0) (.const H2)) 0) I2 fun _ J2=>
 (LoadV Tryz.prog 32 a0 J2 fun r0=>R (.returned (.tuple #[r0,l0])) J2))))))))
theorem pH {p0 p1:Value} {w:World} {R:Ending->World->Prop} (h:ly p0 p1 w R):Calls Tryz.prog 188 #[p0,p1] w R:=
  calls_sh (.seq none .leaf (.seq none .leaf (.seq (some [6]) .leaf (.seq none .leaf (.seq none (.one (.loop [6] (.seq none (.seq (some [25]) .leaf .leaf) .leaf))) (.seq none .leaf (.seq none (.seq (some [50]) .leaf .leaf) (.seq (some [8]) .leaf .leaf)))))))) [p0,p1] aw Tryz.func188 (by kernel_rfl) (by kernel_rfl) h


/- loop.example/prologserver/spec.l1Name : function 189 -/
def qt (p0 p1:Value) (w:World) (R:Ending->World->Prop):Prop:=
 (∃ (a0:Value->World->Prop) (b0:Value->World->Nat),a0 p1 w/\
 ∀ c0 _ _ _ _ _:Value,∀ d0:World,a0 c0 d0->
 RR (sCall (Value.func (.func 197) #[] #[]) [p0,c0]) d0 fun e0 f0=>
 CondV e0 (
 RR (sBin .add 3 false true c0 (Value.int .i64 1)) f0 fun g0 h0=>
 a0 g0 h0/\b0 g0 h0<b0 c0 d0) (
 RR (sBin .add 3 false true p1 (Value.int .i64 6)) f0 fun i0 j0=>
 RR (sBin .gtr 3 false false c0 i0) j0 fun k0 l0=>
 CondV k0 (
 R (.returned (.tuple #[(Value.string ⟨#[]⟩),(Value.int .i64 (-1))])) l0) (
 RR (sBin .gtr 3 false false c0 p1) l0 fun m0 n0=>
 CondV m0 (
 RR (sOp (.slice 9 (.const p0) (some (.const p1)) (some (.const c0)) none) 9) n0 fun o0 q0=>
 R (.returned (.tuple #[o0,c0])) q0) (
 RR (sCall (Value.func (.func 194) #[] #[]) []) n0 fun s0 t0=>
 (∃ (u0:Value->Value->World->Prop) (v0:Value->Value->World->Nat),u0 (Value.int .i64 0) (Value.string ⟨#[]⟩) t0/\
 ∀ w0 _ _ x0 _ _ _ _ y0 z0 A0 B0 C0 D0 E0 F0 G0 H0 I0 J0 K0 L0 M0 N0 O0 P0 Q0 S0 T0 U0 V0 W0 X0 _ _ _ _ _ _ _ _ _ _:Value,∀ Y0:World,u0 w0 x0 Y0->
 RR (sBuiltin .len #[82] 3 [false] [s0]) Y0 fun Z0 a1=>
 RR (sBin .lss 3 false false w0 Z0) a1 fun b1 c1=>
 CondV b1 (
 (∃ d1:Value->World->Prop,(
 RR (sOp (.indexAddr 82 (.const s0) (.const w0)) 0) c1 fun e1 f1=>
 RR (sOp (.load 9 (.const e1)) 9) f1 fun g1 h1=>
 RR (sBuiltin .len #[9] 3 [false] [g1]) h1 fun i1 j1=>
 (∃ k1:(Nat->Bool)->Value->Value->Value->Value->Value->Value->Value->Value->Value->Value->Value->Value->Value->Value->Value->Value->Value->Value->Value->Value->Value->Value->Value->Value->Value->World->Prop,k1 (fun _=>false) y0 z0 A0 B0 C0 D0 E0 F0 G0 H0 I0 J0 K0 L0 M0 N0 O0 P0 Q0 S0 T0 U0 V0 W0 X0 { j1 with drawn:=j1.drawn+1 }/\(
 (∀ l1:Nat->Bool,l1 0=false->∀ m1 n1 o1 q1 s1 t1 u1 v1 w1 x1 y1 z1 A1 B1 C1 D1 E1 F1 G1 H1 I1 J1 K1 L1 M1 N1,k1 l1 m1 n1 o1 q1 s1 t1 u1 v1 w1 x1 y1 z1 A1 B1 C1 D1 E1 F1 G1 H1 I1 J1 K1 L1 M1 N1->
 k1 (setD l1 0) m1 n1 o1 q1 s1 t1 u1 v1 w1 x1 y1 z1 A1 B1 C1 D1 E1 F1 G1 H1 I1 J1 K1 L1 p1 N1)/\
 (∀ l1:Nat->Bool,l1 1=false->∀ m1 n1 o1 q1 s1 t1 u1 v1 w1 x1 y1 z1 A1 B1 C1 D1 E1 F1 G1 H1 I1 J1 K1 L1 M1 O1,k1 l1 m1 n1 o1 q1 s1 t1 u1 v1 w1 x1 y1 z1 A1 B1 C1 D1 E1 F1 G1 H1 I1 J1 K1 L1 M1 O1->
 k1 (setD l1 1) m1 n1 o1 q1 s1 t1 u1 v1 w1 x1 y1 z1 A1 B1 C1 D1 E1 F1 G1 H1 I1 J1 K1 i1 M1 O1)/\
 (∀ l1:Nat->Bool,l1 2=false->l1 0=true->l1 1=true->∀ m1 n1 o1 q1 s1 t1 u1 v1 w1 x1 y1 z1 A1 B1 C1 D1 E1 F1 G1 H1 I1 J1 K1 L1 M1 P1,k1 l1 m1 n1 o1 q1 s1 t1 u1 v1 w1 x1 y1 z1 A1 B1 C1 D1 E1 F1 G1 H1 I1 J1 K1 L1 M1 P1->
 RR (sBin .add 3 false false M1 L1) P1 fun Q1 S1=>
 k1 (setD l1 2) m1 n1 o1 q1 s1 t1 u1 v1 w1 x1 y1 z1 A1 B1 C1 D1 E1 F1 G1 H1 I1 J1 Q1 L1 M1 S1)/\
 (∀ l1:Nat->Bool,l1 3=false->∀ m1 n1 o1 q1 s1 t1 u1 v1 w1 x1 y1 z1 A1 B1 C1 D1 E1 F1 G1 H1 I1 J1 K1 L1 M1 T1,k1 l1 m1 n1 o1 q1 s1 t1 u1 v1 w1 x1 y1 z1 A1 B1 C1 D1 E1 F1 G1 H1 I1 J1 K1 L1 M1 T1->
 k1 (setD l1 3) m1 n1 o1 q1 s1 t1 u1 v1 w1 x1 y1 z1 A1 B1 C1 D1 E1 F1 G1 H1 I1 p0 K1 L1 M1 T1)/\
 (∀ l1:Nat->Bool,l1 4=false->l1 3=true->∀ m1 n1 o1 q1 s1 t1 u1 v1 w1 x1 y1 z1 A1 B1 C1 D1 E1 F1 G1 H1 I1 J1 K1 L1 M1 U1,k1 l1 m1 n1 o1 q1 s1 t1 u1 v1 w1 x1 y1 z1 A1 B1 C1 D1 E1 F1 G1 H1 I1 J1 K1 L1 M1 U1->
 RR (sBuiltin .len #[9] 3 [false] [J1]) U1 fun V1 W1=>
 k1 (setD l1 4) m1 n1 o1 q1 s1 t1 u1 v1 w1 x1 y1 z1 A1 B1 C1 D1 E1 F1 G1 H1 V1 J1 K1 L1 M1 W1)/\
 (∀ l1:Nat->Bool,l1 5=false->l1 2=true->l1 4=true->∀ m1 n1 o1 q1 s1 t1 u1 v1 w1 x1 y1 z1 A1 B1 C1 D1 E1 F1 G1 H1 I1 J1 K1 L1 M1 X1,k1 l1 m1 n1 o1 q1 s1 t1 u1 v1 w1 x1 y1 z1 A1 B1 C1 D1 E1 F1 G1 H1 I1 J1 K1 L1 M1 X1->
 RR (sBin .leq 3 false false K1 I1) X1 fun Y1 Z1=>
 k1 (setD l1 5) m1 n1 o1 q1 s1 t1 u1 v1 w1 x1 y1 z1 A1 B1 C1 D1 E1 F1 G1 Y1 I1 J1 K1 L1 M1 Z1)/\
 (∀ l1:Nat->Bool,l1 6=false->l1 5=true->∀ m1 n1 o1 q1 s1 t1 u1 v1 w1 x1 y1 z1 A1 B1 C1 D1 E1 F1 G1 H1 I1 J1 K1 L1 M1 a2,k1 l1 m1 n1 o1 q1 s1 t1 u1 v1 w1 x1 y1 z1 A1 B1 C1 D1 E1 F1 G1 H1 I1 J1 K1 L1 M1 a2->
 k1 (setD l1 6) m1 n1 o1 q1 s1 t1 u1 v1 w1 x1 y1 z1 A1 B1 C1 D1 E1 F1 H1 H1 I1 J1 K1 L1 M1 a2)/\
 (∀ l1:Nat->Bool,l1 7=false->l1 6=true->∀ m1 n1 o1 q1 s1 t1 u1 v1 w1 x1 y1 z1 A1 B1 C1 D1 E1 F1 G1 H1 I1 J1 K1 L1 M1 b2,k1 l1 m1 n1 o1 q1 s1 t1 u1 v1 w1 x1 y1 z1 A1 B1 C1 D1 E1 F1 G1 H1 I1 J1 K1 L1 M1 b2->
 GuardV G1 true (k1 (setD l1 7) m1 n1 o1 q1 s1 t1 u1 v1 w1 x1 y1 z1 A1 B1 C1 D1 E1 p0 G1 H1 I1 J1 K1 L1 M1 b2) (k1 (setD l1 7) m1 n1 o1 q1 s1 t1 u1 v1 w1 x1 y1 z1 A1 B1 C1 D1 E1 undef G1 H1 I1 J1 K1 L1 M1 b2))/\
 (∀ l1:Nat->Bool,l1 8=false->l1 6=true->∀ m1 n1 o1 q1 s1 t1 u1 v1 w1 x1 y1 z1 A1 B1 C1 D1 E1 F1 G1 H1 I1 J1 K1 L1 M1 c2,k1 l1 m1 n1 o1 q1 s1 t1 u1 v1 w1 x1 y1 z1 A1 B1 C1 D1 E1 F1 G1 H1 I1 J1 K1 L1 M1 c2->
 GuardV G1 true (k1 (setD l1 8) m1 n1 o1 q1 s1 t1 u1 v1 w1 x1 y1 z1 A1 B1 C1 D1 p1 F1 G1 H1 I1 J1 K1 L1 M1 c2) (k1 (setD l1 8) m1 n1 o1 q1 s1 t1 u1 v1 w1 x1 y1 z1 A1 B1 C1 D1 undef F1 G1 H1 I1 J1 K1 L1 M1 c2))/\
 (∀ l1:Nat->Bool,l1 9=false->l1 6=true->∀ m1 n1 o1 q1 s1 t1 u1 v1 w1 x1 y1 z1 A1 B1 C1 D1 E1 F1 G1 H1 I1 J1 K1 L1 M1 d2,k1 l1 m1 n1 o1 q1 s1 t1 u1 v1 w1 x1 y1 z1 A1 B1 C1 D1 E1 F1 G1 H1 I1 J1 K1 L1 M1 d2->
 GuardV G1 true (k1 (setD l1 9) m1 n1 o1 q1 s1 t1 u1 v1 w1 x1 y1 z1 A1 B1 C1 p1 E1 F1 G1 H1 I1 J1 K1 L1 M1 d2) (k1 (setD l1 9) m1 n1 o1 q1 s1 t1 u1 v1 w1 x1 y1 z1 A1 B1 C1 undef E1 F1 G1 H1 I1 J1 K1 L1 M1 d2))/\
 (∀ l1:Nat->Bool,l1 10=false->l1 6=true->∀ m1 n1 o1 q1 s1 t1 u1 v1 w1 x1 y1 z1 A1 B1 C1 D1 E1 F1 G1 H1 I1 J1 K1 L1 M1 e2,k1 l1 m1 n1 o1 q1 s1 t1 u1 v1 w1 x1 y1 z1 A1 B1 C1 D1 E1 F1 G1 H1 I1 J1 K1 L1 M1 e2->
 GuardV G1 true (k1 (setD l1 10) m1 n1 o1 q1 s1 t1 u1 v1 w1 x1 y1 z1 A1 B1 i1 D1 E1 F1 G1 H1 I1 J1 K1 L1 M1 e2) (k1 (setD l1 10) m1 n1 o1 q1 s1 t1 u1 v1 w1 x1 y1 z1 A1 B1 undef D1 E1 F1 G1 H1 I1 J1 K1 L1 M1 e2))/\
 (∀ l1:Nat->Bool,l1 11=false->l1 9=true->l1 10=true->l1 6=true->∀ m1 n1 o1 q1 s1 t1 u1 v1 w1 x1 y1 z1 A1 B1 C1 D1 E1 F1 G1 H1 I1 J1 K1 L1 M1 f2,k1 l1 m1 n1 o1 q1 s1 t1 u1 v1 w1 x1 y1 z1 A1 B1 C1 D1 E1 F1 G1 H1 I1 J1 K1 L1 M1 f2->
 GuardV G1 true (RR (sBin .add 3 false false D1 C1) f2 fun g2 h2=>
 k1 (setD l1 11) m1 n1 o1 q1 s1 t1 u1 v1 w1 x1 y1 z1 A1 g2 C1 D1 E1 F1 G1 H1 I1 J1 K1 L1 M1 h2) (k1 (setD l1 11) m1 n1 o1 q1 s1 t1 u1 v1 w1 x1 y1 z1 A1 undef C1 D1 E1 F1 G1 H1 I1 J1 K1 L1 M1 f2))/\
 (∀ l1:Nat->Bool,l1 12=false->l1 7=true->l1 8=true->l1 11=true->l1 6=true->∀ m1 n1 o1 q1 s1 t1 u1 v1 w1 x1 y1 z1 A1 B1 C1 D1 E1 F1 G1 H1 I1 J1 K1 L1 M1 i2,k1 l1 m1 n1 o1 q1 s1 t1 u1 v1 w1 x1 y1 z1 A1 B1 C1 D1 E1 F1 G1 H1 I1 J1 K1 L1 M1 i2->
 GuardV G1 true (RR (sOp (.slice 9 (.const F1) (some (.const E1)) (some (.const B1)) none) 9) i2 fun j2 k2=>
 k1 (setD l1 12) m1 n1 o1 q1 s1 t1 u1 v1 w1 x1 y1 z1 j2 B1 C1 D1 E1 F1 G1 H1 I1 J1 K1 L1 M1 k2) (k1 (setD l1 12) m1 n1 o1 q1 s1 t1 u1 v1 w1 x1 y1 z1 undef B1 C1 D1 E1 F1 G1 H1 I1 J1 K1 L1 M1 i2))/\
 (∀ l1:Nat->Bool,l1 13=false->l1 6=true->∀ m1 n1 o1 q1 s1 t1 u1 v1 w1 x1 y1 z1 A1 B1 C1 D1 E1 F1 G1 H1 I1 J1 K1 L1 M1 l2,k1 l1 m1 n1 o1 q1 s1 t1 u1 v1 w1 x1 y1 z1 A1 B1 C1 D1 E1 F1 G1 H1 I1 J1 K1 L1 M1 l2->
 GuardV G1 true (k1 (setD l1 13) m1 n1 o1 q1 s1 t1 u1 v1 w1 x1 y1 s0 A1 B1 C1 D1 E1 F1 G1 H1 I1 J1 K1 L1 M1 l2) (k1 (setD l1 13) m1 n1 o1 q1 s1 t1 u1 v1 w1 x1 y1 undef A1 B1 C1 D1 E1 F1 G1 H1 I1 J1 K1 L1 M1 l2))/\
 (∀ l1:Nat->Bool,l1 14=false->l1 6=true->∀ m1 n1 o1 q1 s1 t1 u1 v1 w1 x1 y1 z1 A1 B1 C1 D1 E1 F1 G1 H1 I1 J1 K1 L1 M1 m2,k1 l1 m1 n1 o1 q1 s1 t1 u1 v1 w1 x1 y1 z1 A1 B1 C1 D1 E1 F1 G1 H1 I1 J1 K1 L1 M1 m2->
 GuardV G1 true (k1 (setD l1 14) m1 n1 o1 q1 s1 t1 u1 v1 w1 x1 w0 z1 A1 B1 C1 D1 E1 F1 G1 H1 I1 J1 K1 L1 M1 m2) (k1 (setD l1 14) m1 n1 o1 q1 s1 t1 u1 v1 w1 x1 undef z1 A1 B1 C1 D1 E1 F1 G1 H1 I1 J1 K1 L1 M1 m2))/\
 (∀ l1:Nat->Bool,l1 15=false->l1 13=true->l1 14=true->l1 6=true->∀ m1 n1 o1 q1 s1 t1 u1 v1 w1 x1 y1 z1 A1 B1 C1 D1 E1 F1 G1 H1 I1 J1 K1 L1 M1 n2,k1 l1 m1 n1 o1 q1 s1 t1 u1 v1 w1 x1 y1 z1 A1 B1 C1 D1 E1 F1 G1 H1 I1 J1 K1 L1 M1 n2->
 GuardV G1 true (RR (sOp (.indexAddr 82 (.const z1) (.const y1)) 0) n2 fun o2 q2=>
 k1 (setD l1 15) m1 n1 o1 q1 s1 t1 u1 v1 w1 o2 y1 z1 A1 B1 C1 D1 E1 F1 G1 H1 I1 J1 K1 L1 M1 q2) (k1 (setD l1 15) m1 n1 o1 q1 s1 t1 u1 v1 w1 undef y1 z1 A1 B1 C1 D1 E1 F1 G1 H1 I1 J1 K1 L1 M1 n2))/\
 (∀ l1:Nat->Bool,l1 16=false->l1 15=true->l1 6=true->∀ m1 n1 o1 q1 s1 t1 u1 v1 w1 x1 y1 z1 A1 B1 C1 D1 E1 F1 G1 H1 I1 J1 K1 L1 M1 s2,k1 l1 m1 n1 o1 q1 s1 t1 u1 v1 w1 x1 y1 z1 A1 B1 C1 D1 E1 F1 G1 H1 I1 J1 K1 L1 M1 s2->
 GuardV G1 true (RR (sOp (.load 9 (.const x1)) 9) s2 fun t2 u2=>
 k1 (setD l1 16) m1 n1 o1 q1 s1 t1 u1 v1 t2 x1 y1 z1 A1 B1 C1 D1 E1 F1 G1 H1 I1 J1 K1 L1 M1 u2) (k1 (setD l1 16) m1 n1 o1 q1 s1 t1 u1 v1 undef x1 y1 z1 A1 B1 C1 D1 E1 F1 G1 H1 I1 J1 K1 L1 M1 s2))/\
 (∀ l1:Nat->Bool,l1 17=false->l1 12=true->l1 16=true->l1 6=true->∀ m1 n1 o1 q1 s1 t1 u1 v1 w1 x1 y1 z1 A1 B1 C1 D1 E1 F1 G1 H1 I1 J1 K1 L1 M1 v2,k1 l1 m1 n1 o1 q1 s1 t1 u1 v1 w1 x1 y1 z1 A1 B1 C1 D1 E1 F1 G1 H1 I1 J1 K1 L1 M1 v2->
 GuardV G1 true (RR (sBin .eql 9 false false A1 w1) v2 fun w2 x2=>
 k1 (setD l1 17) m1 n1 o1 q1 s1 t1 u1 w2 w1 x1 y1 z1 A1 B1 C1 D1 E1 F1 G1 H1 I1 J1 K1 L1 M1 x2) (k1 (setD l1 17) m1 n1 o1 q1 s1 t1 u1 undef w1 x1 y1 z1 A1 B1 C1 D1 E1 F1 G1 H1 I1 J1 K1 L1 M1 v2))/\
 (∀ l1:Nat->Bool,l1 18=false->l1 6=true->l1 17=true->∀ m1 n1 o1 q1 s1 t1 u1 v1 w1 x1 y1 z1 A1 B1 C1 D1 E1 F1 G1 H1 I1 J1 K1 L1 M1 y2,k1 l1 m1 n1 o1 q1 s1 t1 u1 v1 w1 x1 y1 z1 A1 B1 C1 D1 E1 F1 G1 H1 I1 J1 K1 L1 M1 y2->
 RR (sOp (.pick (.const G1) (.const v1) (.const (Value.bool false))) 4) y2 fun z2 A2=>
 k1 (setD l1 18) m1 n1 o1 q1 s1 t1 z2 v1 w1 x1 y1 z1 A1 B1 C1 D1 E1 F1 G1 H1 I1 J1 K1 L1 M1 A2)/\
 (∀ l1:Nat->Bool,l1 19=false->l1 18=true->l1 6=true->∀ m1 n1 o1 q1 s1 t1 u1 v1 w1 x1 y1 z1 A1 B1 C1 D1 E1 F1 G1 H1 I1 J1 K1 L1 M1 B2,k1 l1 m1 n1 o1 q1 s1 t1 u1 v1 w1 x1 y1 z1 A1 B1 C1 D1 E1 F1 G1 H1 I1 J1 K1 L1 M1 B2->
 k1 (setD l1 19) m1 n1 o1 q1 s1 u1 u1 v1 w1 x1 y1 z1 A1 B1 C1 D1 E1 F1 G1 H1 I1 J1 K1 L1 M1 B2)/\
 (∀ l1:Nat->Bool,l1 20=false->l1 19=true->∀ m1 n1 o1 q1 s1 t1 u1 v1 w1 x1 y1 z1 A1 B1 C1 D1 E1 F1 G1 H1 I1 J1 K1 L1 M1 C2,k1 l1 m1 n1 o1 q1 s1 t1 u1 v1 w1 x1 y1 z1 A1 B1 C1 D1 E1 F1 G1 H1 I1 J1 K1 L1 M1 C2->
 GuardV t1 true (k1 (setD l1 20) m1 n1 o1 q1 i1 t1 u1 v1 w1 x1 y1 z1 A1 B1 C1 D1 E1 F1 G1 H1 I1 J1 K1 L1 M1 C2) (k1 (setD l1 20) m1 n1 o1 q1 undef t1 u1 v1 w1 x1 y1 z1 A1 B1 C1 D1 E1 F1 G1 H1 I1 J1 K1 L1 M1 C2))/\
 (∀ l1:Nat->Bool,l1 21=false->l1 19=true->∀ m1 n1 o1 q1 s1 t1 u1 v1 w1 x1 y1 z1 A1 B1 C1 D1 E1 F1 G1 H1 I1 J1 K1 L1 M1 D2,k1 l1 m1 n1 o1 q1 s1 t1 u1 v1 w1 x1 y1 z1 A1 B1 C1 D1 E1 F1 G1 H1 I1 J1 K1 L1 M1 D2->
 GuardV t1 true (k1 (setD l1 21) m1 n1 o1 x0 s1 t1 u1 v1 w1 x1 y1 z1 A1 B1 C1 D1 E1 F1 G1 H1 I1 J1 K1 L1 M1 D2) (k1 (setD l1 21) m1 n1 o1 undef s1 t1 u1 v1 w1 x1 y1 z1 A1 B1 C1 D1 E1 F1 G1 H1 I1 J1 K1 L1 M1 D2))/\
 (∀ l1:Nat->Bool,l1 22=false->l1 21=true->l1 19=true->∀ m1 n1 o1 q1 s1 t1 u1 v1 w1 x1 y1 z1 A1 B1 C1 D1 E1 F1 G1 H1 I1 J1 K1 L1 M1 E2,k1 l1 m1 n1 o1 q1 s1 t1 u1 v1 w1 x1 y1 z1 A1 B1 C1 D1 E1 F1 G1 H1 I1 J1 K1 L1 M1 E2->
 GuardV t1 true (RR (sBuiltin .len #[9] 3 [false] [q1]) E2 fun F2 G2=>
 k1 (setD l1 22) m1 n1 F2 q1 s1 t1 u1 v1 w1 x1 y1 z1 A1 B1 C1 D1 E1 F1 G1 H1 I1 J1 K1 L1 M1 G2) (k1 (setD l1 22) m1 n1 undef q1 s1 t1 u1 v1 w1 x1 y1 z1 A1 B1 C1 D1 E1 F1 G1 H1 I1 J1 K1 L1 M1 E2))/\
 (∀ l1:Nat->Bool,l1 23=false->l1 20=true->l1 22=true->l1 19=true->∀ m1 n1 o1 q1 s1 t1 u1 v1 w1 x1 y1 z1 A1 B1 C1 D1 E1 F1 G1 H1 I1 J1 K1 L1 M1 H2,k1 l1 m1 n1 o1 q1 s1 t1 u1 v1 w1 x1 y1 z1 A1 B1 C1 D1 E1 F1 G1 H1 I1 J1 K1 L1 M1 H2->
 GuardV t1 true (RR (sBin .gtr 3 false false s1 o1) H2 fun I2 J2=>
 k1 (setD l1 23) m1 I2 o1 q1 s1 t1 u1 v1 w1 x1 y1 z1 A1 B1 C1 D1 E1 F1 G1 H1 I1 J1 K1 L1 M1 J2) (k1 (setD l1 23) m1 undef o1 q1 s1 t1 u1 v1 w1 x1 y1 z1 A1 B1 C1 D1 E1 F1 G1 H1 I1 J1 K1 L1 M1 H2))/\
 (∀ l1:Nat->Bool,l1 24=false->l1 19=true->l1 23=true->∀ m1 n1 o1 q1 s1 t1 u1 v1 w1 x1 y1 z1 A1 B1 C1 D1 E1 F1 G1 H1 I1 J1 K1 L1 M1 K2,k1 l1 m1 n1 o1 q1 s1 t1 u1 v1 w1 x1 y1 z1 A1 B1 C1 D1 E1 F1 G1 H1 I1 J1 K1 L1 M1 K2->
 RR (sOp (.pick (.const t1) (.const n1) (.const (Value.bool false))) 4) K2 fun L2 M2=>
 k1 (setD l1 24) L2 n1 o1 q1 s1 t1 u1 v1 w1 x1 y1 z1 A1 B1 C1 D1 E1 F1 G1 H1 I1 J1 K1 L1 M1 M2)/\
 True)/\
 ∀ l1:Nat->Bool,l1 24=true->l1 23=true->l1 22=true->l1 21=true->l1 20=true->l1 19=true->l1 18=true->l1 17=true->l1 16=true->l1 15=true->l1 14=true->l1 13=true->l1 12=true->l1 11=true->l1 10=true->l1 9=true->l1 8=true->l1 7=true->l1 6=true->l1 5=true->l1 4=true->l1 3=true->l1 2=true->l1 1=true->l1 0=true->∀ m1 n1 o1 q1 s1 t1 u1 v1 w1 x1 y1 z1 A1 B1 C1 D1 E1 F1 G1 H1 I1 J1 K1 L1 M1 N2,k1 l1 m1 n1 o1 q1 s1 t1 u1 v1 w1 x1 y1 z1 A1 B1 C1 D1 E1 F1 G1 H1 I1 J1 K1 L1 M1 N2->
 CondV m1 (
 RR (sOp (.indexAddr 82 (.const s0) (.const w0)) 0) N2 fun O2 P2=>
 RR (sOp (.load 9 (.const O2)) 9) P2 fun Q2 S2=>
 d1 Q2 S2) (
 d1 x0 N2)))/\
 ∀ T2 _ _ _ _ _ _ _ _ _ _ _ _ _ _ _ _ _ _ _ _ _ _ _ _ _ _ _ _ _ _ _ _ _ _ _:Value,∀ U2:World,d1 T2 U2->
 RR (sBin .add 3 false true w0 (Value.int .i64 1)) U2 fun V2 W2=>
 u0 V2 T2 W2/\v0 V2 T2 W2<v0 w0 x0 Y0)) (
 RR (sBin .eql 9 false true x0 (Value.string ⟨#[]⟩)) c1 fun X2 Y2=>
 CondV X2 (
 R (.returned (.tuple #[(Value.string ⟨#[]⟩),(Value.int .i64 (-1))])) Y2) (
 RR (sBuiltin .len #[9] 3 [false] [x0]) Y2 fun Z2 a3=>
 RR (sBin .add 3 false false p1 Z2) a3 fun b3 c3=>
 R (.returned (.tuple #[x0,b3])) c3)))))))
theorem sH {p0 p1:Value} {w:World} {R:Ending->World->Prop} (h:qt p0 p1 w R):Calls Tryz.prog 189 #[p0,p1] w R:=
  calls_sh (.seq none .leaf (.seq none .leaf (.seq none (.one (.loop [6] .leaf)) (.seq none .leaf (.seq none .leaf (.seq none .leaf (.seq none .leaf (.seq none (.seq none .leaf (.one (.loop [9,7] (.seq none .leaf (.seq (some [7]) .leaf .leaf))))) .leaf)))))))) [p0,p1] aw Tryz.func189 (by kernel_rfl) (by kernel_rfl) h


/- loop.example/prologserver/spec.l2Terms : function 190 -/
def ou (p0 p1 p2 p3 p4:Value) (w:World) (R:Ending->World->Prop):Prop:=
 RR (sBuildSlice 30 0 []) w fun a0 b0=>
 (∃ (c0:Value->Value->World->Prop) (d0:Value->Value->World->Nat),c0 p1 a0 b0/\
 ∀ e0 _ _ _ _ _ _ _ _ _ _ _ _ _ _ _ _ _ _ _ _ f0 _ _ _ _ _ _ _ _ _ _ _ _ _ _ _ _ _ _:Value,∀ g0:World,c0 e0 f0 g0->
 RR (sCall (Value.func (.func 162) #[] #[]) [p0,e0,p2,(Value.int .i64 3)]) g0 fun h0 i0=>
 RR (sOp (.extract (.const h0) 0) 32) i0 fun j0 k0=>
 RR (sOp (.extract (.const h0) 1) 3) k0 fun l0 m0=>
 RR (sOp (.alloc 32) 0) m0 fun n0 o0=>
 RR (sOp (.store 32 (.const n0) (.const j0)) 0) o0 fun _ q0=>
 RR (sBin .lss 3 false true l0 (Value.int .i64 0)) q0 fun s0 t0=>
 CondV s0 (
 R (.returned (.tuple #[(Value.slice none 0 0),l0])) t0) (
 RR (sOp (.load 32 (.const n0)) 32) t0 fun u0 v0=>
 RR (sBuildSlice 30 1 [(0,u0)]) v0 fun w0 x0=>
 RR (sBuiltin .append #[30,30] 30 [false,false] [f0,w0]) x0 fun y0 z0=>
 (∃ A0:Value->World->Prop,(
 RR (sCall (Value.func (.func 163) #[] #[]) [p0,l0,p3]) z0 fun B0 C0=>
 GuardV B0 false (
 RR (sCall (Value.func (.func 163) #[] #[]) [p0,l0,p4]) C0 fun D0 E0=>
 RR (sOp (.pick (.const B0) (.const (Value.bool true)) (.const D0)) 4) E0 fun F0 G0=>
 A0 F0 G0) (
 RR (sOp (.pick (.const B0) (.const (Value.bool true)) (.const undef)) 4) C0 fun H0 I0=>
 A0 H0 I0))/\
 ∀ J0 _ _ _ _ _ _ _ _ _:Value,∀ K0:World,A0 J0 K0->
 CondV J0 (
 R (.returned (.tuple #[y0,l0])) K0) (
 RR (sCall (Value.func (.func 163) #[] #[]) [p0,l0,(Value.int .u8 44)]) K0 fun L0 M0=>
 RR (sOp (.unOp .not 4 (.const L0)) 4) M0 fun N0 O0=>
 CondV N0 (
 RR (sBin .sub 3 true false (Value.int .i64 (-1)) l0) O0 fun P0 Q0=>
 R (.returned (.tuple #[(Value.slice none 0 0),P0])) Q0) (
 RR (sBin .add 3 false true l0 (Value.int .i64 1)) O0 fun S0 T0=>
 c0 S0 y0 T0/\d0 S0 y0 T0<d0 e0 f0 g0)))))
theorem rh {p0 p1 p2 p3 p4:Value} {w:World} {R:Ending->World->Prop} (h:ou p0 p1 p2 p3 p4 w R):Calls Tryz.prog 190 #[p0,p1,p2,p3,p4] w R:=
  calls_sh (.seq none .leaf (.seq none .leaf (.one (.loop [1,12] (.one (.seq none .leaf (.seq none .leaf (.seq none .leaf (.seq none (.seq (some [39]) .leaf .leaf) .leaf))))))))) [p0,p1,p2,p3,p4] aw Tryz.func190 (by kernel_rfl) (by kernel_rfl) h


/- loop.example/prologserver/spec.l2Text : function 191 -/
def qk (p0:Value) (w:World) (R:Ending->World->Prop):Prop:=
 RR (sOp (.box 32 (.const p0)) 0) w fun a0 b0=>
 RR (sOp (.load 32 (.const a0)) 32) b0 fun c0 d0=>
 RR (sCall (Value.func (.func 198) #[] #[]) [c0]) d0 fun e0 f0=>
 CondV e0 (
 RR (sOp (.load 32 (.const a0)) 32) f0 fun g0 h0=>
 RR (sCall (Value.func (.func 199) #[] #[]) [g0]) h0 fun i0 j0=>
 R (.returned i0) j0) (
 RR (sOp (.load 32 (.const a0)) 32) f0 fun k0 l0=>
 RR (sCall (Value.func (.func 200) #[] #[]) [k0]) l0 fun m0 n0=>
 CondV m0 (
 RR (sOp (.fieldAddr 32 (.const a0) 2) 0) n0 fun o0 q0=>
 RR (sOp (.load 9 (.const o0)) 9) q0 fun s0 t0=>
 RR (sCall (Value.func (.func 156) #[] #[]) [s0]) t0 fun u0 v0=>
 (∃ w0:Value->World->Prop,(
 RR (sBin .eql 3 false true u0 (Value.int .i64 3)) v0 fun x0 y0=>
 CondV x0 (
 w0 (Value.int .i64 2) y0) (
 w0 u0 y0))/\
 ∀ z0 _ _:Value,∀ A0:World,w0 z0 A0->
 (∃ B0:(Nat->Bool)->Value->Value->Value->Value->Value->Value->Value->Value->Value->Value->Value->Value->Value->Value->Value->Value->Value->Value->Value->World->Prop,B0 (fun _=>false) (Value.string ⟨#[]⟩) undef undef undef undef undef undef undef undef undef undef undef undef undef undef undef undef undef undef { A0 with drawn:=A0.drawn+1 }/\(
 (∀ C0:Nat->Bool,C0 0=false->∀ D0 E0 F0 G0 H0 I0 J0 K0 L0 M0 N0 O0 P0 Q0 S0 T0 U0 V0 W0 X0,B0 C0 D0 E0 F0 G0 H0 I0 J0 K0 L0 M0 N0 O0 P0 Q0 S0 T0 U0 V0 W0 X0->
 RR (sOp (.fieldAddr 32 (.const a0) 3) 0) X0 fun Y0 Z0=>
 B0 (setD C0 0) D0 E0 F0 G0 H0 I0 J0 K0 L0 M0 N0 O0 P0 Q0 S0 T0 U0 V0 Y0 Z0)/\
 (∀ C0:Nat->Bool,C0 1=false->C0 0=true->∀ D0 E0 F0 G0 H0 I0 J0 K0 L0 M0 N0 O0 P0 Q0 S0 T0 U0 V0 W0 a1,B0 C0 D0 E0 F0 G0 H0 I0 J0 K0 L0 M0 N0 O0 P0 Q0 S0 T0 U0 V0 W0 a1->
 RR (sOp (.load 30 (.const W0)) 30) a1 fun b1 c1=>
 B0 (setD C0 1) D0 E0 F0 G0 H0 I0 J0 K0 L0 M0 N0 O0 P0 Q0 S0 T0 U0 b1 W0 c1)/\
 (∀ C0:Nat->Bool,C0 2=false->C0 1=true->∀ D0 E0 F0 G0 H0 I0 J0 K0 L0 M0 N0 O0 P0 Q0 S0 T0 U0 V0 W0 d1,B0 C0 D0 E0 F0 G0 H0 I0 J0 K0 L0 M0 N0 O0 P0 Q0 S0 T0 U0 V0 W0 d1->
 RR (sOp (.indexAddr 30 (.const V0) (.const (Value.int .i64 0))) 0) d1 fun e1 f1=>
 B0 (setD C0 2) D0 E0 F0 G0 H0 I0 J0 K0 L0 M0 N0 O0 P0 Q0 S0 T0 e1 V0 W0 f1)/\
 (∀ C0:Nat->Bool,C0 3=false->C0 2=true->∀ D0 E0 F0 G0 H0 I0 J0 K0 L0 M0 N0 O0 P0 Q0 S0 T0 U0 V0 W0 g1,B0 C0 D0 E0 F0 G0 H0 I0 J0 K0 L0 M0 N0 O0 P0 Q0 S0 T0 U0 V0 W0 g1->
 RR (sOp (.load 32 (.const U0)) 32) g1 fun h1 i1=>
 B0 (setD C0 3) D0 E0 F0 G0 H0 I0 J0 K0 L0 M0 N0 O0 P0 Q0 S0 h1 U0 V0 W0 i1)/\
 (∀ C0:Nat->Bool,C0 4=false->∀ D0 E0 F0 G0 H0 I0 J0 K0 L0 M0 N0 O0 P0 Q0 S0 T0 U0 V0 W0 j1,B0 C0 D0 E0 F0 G0 H0 I0 J0 K0 L0 M0 N0 O0 P0 Q0 S0 T0 U0 V0 W0 j1->
 B0 (setD C0 4) D0 E0 F0 G0 H0 I0 J0 K0 L0 M0 N0 O0 P0 Q0 z0 T0 U0 V0 W0 j1)/\
 (∀ C0:Nat->Bool,C0 5=false->C0 3=true->C0 4=true->∀ D0 E0 F0 G0 H0 I0 J0 K0 L0 M0 N0 O0 P0 Q0 S0 T0 U0 V0 W0 k1,B0 C0 D0 E0 F0 G0 H0 I0 J0 K0 L0 M0 N0 O0 P0 Q0 S0 T0 U0 V0 W0 k1->
 RR (sCall (Value.func (.func 201) #[] #[]) [T0,S0]) k1 fun l1 m1=>
 B0 (setD C0 5) D0 E0 F0 G0 H0 I0 J0 K0 L0 M0 N0 O0 P0 l1 S0 T0 U0 V0 W0 m1)/\
 (∀ C0:Nat->Bool,C0 6=false->∀ D0 E0 F0 G0 H0 I0 J0 K0 L0 M0 N0 O0 P0 Q0 S0 T0 U0 V0 W0 n1,B0 C0 D0 E0 F0 G0 H0 I0 J0 K0 L0 M0 N0 O0 P0 Q0 S0 T0 U0 V0 W0 n1->
 RR (sOp (.fieldAddr 32 (.const a0) 2) 0) n1 fun o1 q1=>
 B0 (setD C0 6) D0 E0 F0 G0 H0 I0 J0 K0 L0 M0 N0 O0 o1 Q0 S0 T0 U0 V0 W0 q1)/\
 (∀ C0:Nat->Bool,C0 7=false->C0 6=true->∀ D0 E0 F0 G0 H0 I0 J0 K0 L0 M0 N0 O0 P0 Q0 S0 T0 U0 V0 W0 s1,B0 C0 D0 E0 F0 G0 H0 I0 J0 K0 L0 M0 N0 O0 P0 Q0 S0 T0 U0 V0 W0 s1->
 RR (sOp (.load 9 (.const P0)) 9) s1 fun t1 u1=>
 B0 (setD C0 7) D0 E0 F0 G0 H0 I0 J0 K0 L0 M0 N0 t1 P0 Q0 S0 T0 U0 V0 W0 u1)/\
 (∀ C0:Nat->Bool,C0 8=false->C0 7=true->C0 5=true->∀ D0 E0 F0 G0 H0 I0 J0 K0 L0 M0 N0 O0 P0 Q0 S0 T0 U0 V0 W0 v1,B0 C0 D0 E0 F0 G0 H0 I0 J0 K0 L0 M0 N0 O0 P0 Q0 S0 T0 U0 V0 W0 v1->
 RR (sCall (Value.func (.func 202) #[] #[]) [O0]) v1 fun w1 x1=>
 B0 (setD C0 8) D0 E0 F0 G0 H0 I0 J0 K0 L0 M0 w1 O0 P0 Q0 S0 T0 U0 V0 W0 x1)/\
 (∀ C0:Nat->Bool,C0 9=false->C0 5=true->C0 8=true->∀ D0 E0 F0 G0 H0 I0 J0 K0 L0 M0 N0 O0 P0 Q0 S0 T0 U0 V0 W0 y1,B0 C0 D0 E0 F0 G0 H0 I0 J0 K0 L0 M0 N0 O0 P0 Q0 S0 T0 U0 V0 W0 y1->
 RR (sBin .add 9 false false Q0 N0) y1 fun z1 A1=>
 B0 (setD C0 9) D0 E0 F0 G0 H0 I0 J0 K0 L0 z1 N0 O0 P0 Q0 S0 T0 U0 V0 W0 A1)/\
 (∀ C0:Nat->Bool,C0 10=false->∀ D0 E0 F0 G0 H0 I0 J0 K0 L0 M0 N0 O0 P0 Q0 S0 T0 U0 V0 W0 B1,B0 C0 D0 E0 F0 G0 H0 I0 J0 K0 L0 M0 N0 O0 P0 Q0 S0 T0 U0 V0 W0 B1->
 RR (sOp (.fieldAddr 32 (.const a0) 3) 0) B1 fun C1 D1=>
 B0 (setD C0 10) D0 E0 F0 G0 H0 I0 J0 K0 C1 M0 N0 O0 P0 Q0 S0 T0 U0 V0 W0 D1)/\
 (∀ C0:Nat->Bool,C0 11=false->C0 10=true->∀ D0 E0 F0 G0 H0 I0 J0 K0 L0 M0 N0 O0 P0 Q0 S0 T0 U0 V0 W0 E1,B0 C0 D0 E0 F0 G0 H0 I0 J0 K0 L0 M0 N0 O0 P0 Q0 S0 T0 U0 V0 W0 E1->
 RR (sOp (.load 30 (.const L0)) 30) E1 fun F1 G1=>
 B0 (setD C0 11) D0 E0 F0 G0 H0 I0 J0 F1 L0 M0 N0 O0 P0 Q0 S0 T0 U0 V0 W0 G1)/\
 (∀ C0:Nat->Bool,C0 12=false->C0 11=true->∀ D0 E0 F0 G0 H0 I0 J0 K0 L0 M0 N0 O0 P0 Q0 S0 T0 U0 V0 W0 H1,B0 C0 D0 E0 F0 G0 H0 I0 J0 K0 L0 M0 N0 O0 P0 Q0 S0 T0 U0 V0 W0 H1->
 RR (sOp (.indexAddr 30 (.const K0) (.const (Value.int .i64 1))) 0) H1 fun I1 J1=>
 B0 (setD C0 12) D0 E0 F0 G0 H0 I0 I1 K0 L0 M0 N0 O0 P0 Q0 S0 T0 U0 V0 W0 J1)/\
 (∀ C0:Nat->Bool,C0 13=false->C0 12=true->∀ D0 E0 F0 G0 H0 I0 J0 K0 L0 M0 N0 O0 P0 Q0 S0 T0 U0 V0 W0 K1,B0 C0 D0 E0 F0 G0 H0 I0 J0 K0 L0 M0 N0 O0 P0 Q0 S0 T0 U0 V0 W0 K1->
 RR (sOp (.load 32 (.const J0)) 32) K1 fun L1 M1=>
 B0 (setD C0 13) D0 E0 F0 G0 H0 L1 J0 K0 L0 M0 N0 O0 P0 Q0 S0 T0 U0 V0 W0 M1)/\
 (∀ C0:Nat->Bool,C0 14=false->∀ D0 E0 F0 G0 H0 I0 J0 K0 L0 M0 N0 O0 P0 Q0 S0 T0 U0 V0 W0 N1,B0 C0 D0 E0 F0 G0 H0 I0 J0 K0 L0 M0 N0 O0 P0 Q0 S0 T0 U0 V0 W0 N1->
 B0 (setD C0 14) D0 E0 F0 G0 u0 I0 J0 K0 L0 M0 N0 O0 P0 Q0 S0 T0 U0 V0 W0 N1)/\
 (∀ C0:Nat->Bool,C0 15=false->C0 14=true->∀ D0 E0 F0 G0 H0 I0 J0 K0 L0 M0 N0 O0 P0 Q0 S0 T0 U0 V0 W0 O1,B0 C0 D0 E0 F0 G0 H0 I0 J0 K0 L0 M0 N0 O0 P0 Q0 S0 T0 U0 V0 W0 O1->
 RR (sBin .sub 3 false true H0 (Value.int .i64 1)) O1 fun P1 Q1=>
 B0 (setD C0 15) D0 E0 F0 P1 H0 I0 J0 K0 L0 M0 N0 O0 P0 Q0 S0 T0 U0 V0 W0 Q1)/\
 (∀ C0:Nat->Bool,C0 16=false->C0 13=true->C0 15=true->C0 8=true->∀ D0 E0 F0 G0 H0 I0 J0 K0 L0 M0 N0 O0 P0 Q0 S0 T0 U0 V0 W0 S1,B0 C0 D0 E0 F0 G0 H0 I0 J0 K0 L0 M0 N0 O0 P0 Q0 S0 T0 U0 V0 W0 S1->
 RR (sCall (Value.func (.func 203) #[] #[]) [I0,G0]) S1 fun T1 U1=>
 B0 (setD C0 16) D0 E0 T1 G0 H0 I0 J0 K0 L0 M0 N0 O0 P0 Q0 S0 T0 U0 V0 W0 U1)/\
 (∀ C0:Nat->Bool,C0 17=false->C0 9=true->C0 16=true->∀ D0 E0 F0 G0 H0 I0 J0 K0 L0 M0 N0 O0 P0 Q0 S0 T0 U0 V0 W0 V1,B0 C0 D0 E0 F0 G0 H0 I0 J0 K0 L0 M0 N0 O0 P0 Q0 S0 T0 U0 V0 W0 V1->
 RR (sBin .add 9 false false M0 F0) V1 fun W1 X1=>
 B0 (setD C0 17) D0 W1 F0 G0 H0 I0 J0 K0 L0 M0 N0 O0 P0 Q0 S0 T0 U0 V0 W0 X1)/\
 (∀ C0:Nat->Bool,C0 18=false->C0 17=true->C0 16=true->C0 0=true->C0 1=true->C0 2=true->C0 3=true->C0 4=true->C0 5=true->C0 6=true->C0 7=true->C0 8=true->C0 9=true->C0 10=true->C0 11=true->C0 12=true->C0 13=true->C0 14=true->C0 15=true->C0 16=true->C0 17=true->∀ D0 E0 F0 G0 H0 I0 J0 K0 L0 M0 N0 O0 P0 Q0 S0 T0 U0 V0 W0 Y1,B0 C0 D0 E0 F0 G0 H0 I0 J0 K0 L0 M0 N0 O0 P0 Q0 S0 T0 U0 V0 W0 Y1->
 B0 (setD C0 18) E0 E0 F0 G0 H0 I0 J0 K0 L0 M0 N0 O0 P0 Q0 S0 T0 U0 V0 W0 Y1)/\
 True)/\
 ∀ C0:Nat->Bool,C0 18=true->C0 17=true->C0 16=true->C0 15=true->C0 14=true->C0 13=true->C0 12=true->C0 11=true->C0 10=true->C0 9=true->C0 8=true->C0 7=true->C0 6=true->C0 5=true->C0 4=true->C0 3=true->C0 2=true->C0 1=true->C0 0=true->∀ D0 E0 F0 G0 H0 I0 J0 K0 L0 M0 N0 O0 P0 Q0 S0 T0 U0 V0 W0 Z1,B0 C0 D0 E0 F0 G0 H0 I0 J0 K0 L0 M0 N0 O0 P0 Q0 S0 T0 U0 V0 W0 Z1->
 R (.returned D0) Z1))) (
 (∃ a2:Value->World->Prop,(
 RR (sOp (.fieldAddr 32 (.const a0) 0) 0) n0 fun b2 c2=>
 RR (sOp (.load 3 (.const b2)) 3) c2 fun d2 e2=>
 RR (sBin .eql 3 false true d2 (Value.int .i64 3)) e2 fun f2 g2=>
 GuardV f2 true (
 RR (sOp (.fieldAddr 32 (.const a0) 3) 0) g2 fun h2 i2=>
 RR (sOp (.load 30 (.const h2)) 30) i2 fun j2 k2=>
 RR (sBuiltin .len #[30] 3 [false] [j2]) k2 fun l2 m2=>
 RR (sBin .gtr 3 false true l2 (Value.int .i64 0)) m2 fun n2 o2=>
 RR (sOp (.pick (.const f2) (.const n2) (.const (Value.bool false))) 4) o2 fun q2 s2=>
 a2 q2 s2) (
 RR (sOp (.pick (.const f2) (.const undef) (.const (Value.bool false))) 4) g2 fun t2 u2=>
 a2 t2 u2))/\
 ∀ v2 _ _ _ _ _ _ _ _ _:Value,∀ w2:World,a2 v2 w2->
 CondV v2 (
 (∃ x2:(Nat->Bool)->Value->Value->Value->Value->Value->Value->Value->Value->Value->World->Prop,x2 (fun _=>false) (Value.string ⟨#[]⟩) undef undef undef undef undef undef undef undef { w2 with drawn:=w2.drawn+1 }/\(
 (∀ y2:Nat->Bool,y2 0=false->∀ z2 A2 B2 C2 D2 E2 F2 G2 H2 I2,x2 y2 z2 A2 B2 C2 D2 E2 F2 G2 H2 I2->
 RR (sOp (.fieldAddr 32 (.const a0) 2) 0) I2 fun J2 K2=>
 x2 (setD y2 0) z2 A2 B2 C2 D2 E2 F2 G2 J2 K2)/\
 (∀ y2:Nat->Bool,y2 1=false->y2 0=true->∀ z2 A2 B2 C2 D2 E2 F2 G2 H2 L2,x2 y2 z2 A2 B2 C2 D2 E2 F2 G2 H2 L2->
 RR (sOp (.load 9 (.const H2)) 9) L2 fun M2 N2=>
 x2 (setD y2 1) z2 A2 B2 C2 D2 E2 F2 M2 H2 N2)/\
 (∀ y2:Nat->Bool,y2 2=false->y2 1=true->∀ z2 A2 B2 C2 D2 E2 F2 G2 H2 O2,x2 y2 z2 A2 B2 C2 D2 E2 F2 G2 H2 O2->
 RR (sBin .add 9 false true G2 (Value.string ⟨#[40]⟩)) O2 fun P2 Q2=>
 x2 (setD y2 2) z2 A2 B2 C2 D2 E2 P2 G2 H2 Q2)/\
 (∀ y2:Nat->Bool,y2 3=false->∀ z2 A2 B2 C2 D2 E2 F2 G2 H2 S2,x2 y2 z2 A2 B2 C2 D2 E2 F2 G2 H2 S2->
 RR (sOp (.fieldAddr 32 (.const a0) 3) 0) S2 fun T2 U2=>
 x2 (setD y2 3) z2 A2 B2 C2 D2 T2 F2 G2 H2 U2)/\
 (∀ y2:Nat->Bool,y2 4=false->y2 3=true->∀ z2 A2 B2 C2 D2 E2 F2 G2 H2 V2,x2 y2 z2 A2 B2 C2 D2 E2 F2 G2 H2 V2->
 RR (sOp (.load 30 (.const E2)) 30) V2 fun W2 X2=>
 x2 (setD y2 4) z2 A2 B2 C2 W2 E2 F2 G2 H2 X2)/\
 (∀ y2:Nat->Bool,y2 5=false->y2 4=true->∀ z2 A2 B2 C2 D2 E2 F2 G2 H2 Y2,x2 y2 z2 A2 B2 C2 D2 E2 F2 G2 H2 Y2->
 RR (sCall (Value.func (.func 204) #[] #[]) [D2]) Y2 fun Z2 a3=>
 x2 (setD y2 5) z2 A2 B2 Z2 D2 E2 F2 G2 H2 a3)/\
 (∀ y2:Nat->Bool,y2 6=false->y2 2=true->y2 5=true->∀ z2 A2 B2 C2 D2 E2 F2 G2 H2 b3,x2 y2 z2 A2 B2 C2 D2 E2 F2 G2 H2 b3->
 RR (sBin .add 9 false false F2 C2) b3 fun c3 d3=>
 x2 (setD y2 6) z2 A2 c3 C2 D2 E2 F2 G2 H2 d3)/\
 (∀ y2:Nat->Bool,y2 7=false->y2 6=true->∀ z2 A2 B2 C2 D2 E2 F2 G2 H2 e3,x2 y2 z2 A2 B2 C2 D2 E2 F2 G2 H2 e3->
 RR (sBin .add 9 false true B2 (Value.string ⟨#[41]⟩)) e3 fun f3 g3=>
 x2 (setD y2 7) z2 f3 B2 C2 D2 E2 F2 G2 H2 g3)/\
 (∀ y2:Nat->Bool,y2 8=false->y2 7=true->y2 5=true->y2 0=true->y2 1=true->y2 2=true->y2 3=true->y2 4=true->y2 5=true->y2 6=true->y2 7=true->∀ z2 A2 B2 C2 D2 E2 F2 G2 H2 h3,x2 y2 z2 A2 B2 C2 D2 E2 F2 G2 H2 h3->
 x2 (setD y2 8) A2 A2 B2 C2 D2 E2 F2 G2 H2 h3)/\
 True)/\
 ∀ y2:Nat->Bool,y2 8=true->y2 7=true->y2 6=true->y2 5=true->y2 4=true->y2 3=true->y2 2=true->y2 1=true->y2 0=true->∀ z2 A2 B2 C2 D2 E2 F2 G2 H2 i3,x2 y2 z2 A2 B2 C2 D2 E2 F2 G2 H2 i3->
 R (.returned z2) i3)) (
 RR (sOp (.load 32 (.const a0)) 32) w2 fun j3 k3=>
 RR (sCall (Value.func (.func 205) #[] #[]) [j3]) k3 fun l3 m3=>
 R (.returned l3) m3))))
theorem tU {p0:Value} {w:World} {R:Ending->World->Prop} (h:qk p0 w R):Calls Tryz.prog 191 #[p0] w R:=
  calls_sh (.seq none .leaf (.seq none (.one (.seq none .leaf (.two .leaf (.seq none .leaf (.two (.seq none .leaf (.seq none .leaf (.seq (some [4]) .leaf .leaf))) (.seq (some [37]) .leaf .leaf)))))) .leaf)) [p0] aw Tryz.func191 (by kernel_rfl) (by kernel_rfl) h


/- (*loop.example/prologserver/impl.store).occurs$1 : function 192 -/
def dT (p0 p1 p2 p3:Value) (w:World) (R:Ending->World->Prop):Prop:=
 RR (sOp (.box 32 (.const p0)) 0) w fun a0 b0=>
 RR (sOp (.load 128 (.const p1)) 128) b0 fun c0 d0=>
 RR (sOp (.load 3 (.const p2)) 3) d0 fun e0 f0=>
 RR (sOp (.load 32 (.const a0)) 32) f0 fun g0 h0=>
 RR (sOp (.load 156 (.const p3)) 156) h0 fun i0 j0=>
 RR (sCall (Value.func (.func 182) #[] #[]) [c0,e0,g0,i0]) j0 fun k0 l0=>
 R (.returned k0) l0
theorem gE {p0 p1 p2 p3:Value} {w:World} {R:Ending->World->Prop} (h:dT p0 p1 p2 p3 w R):Calls Tryz.prog 192 #[p0,p1,p2,p3] w R:=
  calls_sh .leaf [p0,p1,p2,p3] aw Tryz.func192 (by kernel_rfl) (by kernel_rfl) h


/- loop.example/prologserver/spec.l1Has : function 193 -/
def sC (p0 p1:Value) (w:World) (R:Ending->World->Prop):Prop:=
 (∃ (a0:Value->World->Prop) (b0:Value->World->Nat),a0 (Value.int .i64 0) w/\
 ∀ c0 _ _ _ _ _ _ _ _ _ _ _ _ _:Value,∀ d0:World,a0 c0 d0->
 RR (sBuiltin .len #[82] 3 [false] [p0]) d0 fun e0 f0=>
 RR (sBin .lss 3 false false c0 e0) f0 fun g0 h0=>
 CondV g0 (
 RR (sOp (.indexAddr 82 (.const p0) (.const c0)) 0) h0 fun i0 j0=>
 RR (sOp (.load 9 (.const i0)) 9) j0 fun k0 l0=>
 RR (sBin .eql 9 false false k0 p1) l0 fun m0 n0=>
 CondV m0 (
 R (.returned (Value.bool true)) n0) (
 RR (sBin .add 3 false true c0 (Value.int .i64 1)) n0 fun o0 q0=>
 a0 o0 q0/\b0 o0 q0<b0 c0 d0)) (
 R (.returned (Value.bool false)) h0))
theorem vu {p0 p1:Value} {w:World} {R:Ending->World->Prop} (h:sC p0 p1 w R):Calls Tryz.prog 193 #[p0,p1] w R:=
  calls_sh (.seq none .leaf (.seq none (.seq none .leaf (.one (.loop [5] .leaf))) .leaf)) [p0,p1] aw Tryz.func193 (by kernel_rfl) (by kernel_rfl) h


/- loop.example/prologserver/spec.l1Signs : function 194 -/
def nn (w:World) (R:Ending->World->Prop):Prop:=
 RR (sBuildSlice 82 15 [(0,(Value.string ⟨#[43]⟩)),(1,(Value.string ⟨#[45]⟩)),(2,(Value.string ⟨#[42]⟩)),(3,(Value.string ⟨#[47,47]⟩)),(4,(Value.string ⟨#[61]⟩)),(5,(Value.string ⟨#[92,61]⟩)),(6,(Value.string ⟨#[61,61]⟩)),(7,(Value.string ⟨#[60]⟩)),(8,(Value.string ⟨#[62]⟩)),(9,(Value.string ⟨#[61,60]⟩)),(10,(Value.string ⟨#[62,61]⟩)),(11,(Value.string ⟨#[61,58,61]⟩)),(12,(Value.string ⟨#[46]⟩)),(13,(Value.string ⟨#[91,93]⟩)),(14,(Value.string ⟨#[33]⟩))]) w fun a0 b0=>
 R (.returned a0) b0
theorem rn {w:World} {R:Ending->World->Prop} (h:nn w R):Calls Tryz.prog 194 #[] w R:=
  calls_sh .leaf [] aw Tryz.func194 (by kernel_rfl) (by kernel_rfl) h


/- loop.example/prologserver/spec.l1Chain : function 195 -/
def nT (p0 p1:Value) (w:World) (R:Ending->World->Prop):Prop:=
 RR (sOp (.box 32 (.const p1)) 0) w fun a0 b0=>
 RR (sOp (.alloc 32) 0) b0 fun c0 d0=>
 RR (sOp (.load 32 (.const a0)) 32) d0 fun e0 f0=>
 RR (sOp (.alloc 32) 0) f0 fun g0 h0=>
 RR (sOp (.store 32 (.const g0) (.const e0)) 0) h0 fun _u i0=>
 RR (sBuiltin .len #[30] 3 [false] [p0]) i0 fun j0 k0=>
 RR (sBin .sub 3 false true j0 (Value.int .i64 1)) k0 fun l0 m0=>
 (∃ (n0:Value->World->Prop) (o0:Value->World->Nat),n0 l0 m0/\
 ∀ q0 _ _ s0 t0 u0 v0 w0 x0 y0 _ _:Value,∀ z0:World,n0 q0 z0->
 RR (sBin .geq 3 false true q0 (Value.int .i64 0)) z0 fun A0 B0=>
 CondV A0 (
 (∃ C0:(Nat->Bool)->Value->Value->Value->Value->Value->Value->Value->World->Prop,C0 (fun _=>false) s0 t0 u0 v0 w0 x0 y0 { B0 with drawn:=B0.drawn+1 }/\(
 (∀ D0:Nat->Bool,D0 0=false->∀ E0 F0 G0 H0 I0 J0 K0 L0,C0 D0 E0 F0 G0 H0 I0 J0 K0 L0->
 C0 (setD D0 0) E0 F0 G0 H0 I0 J0 p0 L0)/\
 (∀ D0:Nat->Bool,D0 1=false->∀ E0 F0 G0 H0 I0 J0 K0 M0,C0 D0 E0 F0 G0 H0 I0 J0 K0 M0->
 C0 (setD D0 1) E0 F0 G0 H0 I0 q0 K0 M0)/\
 (∀ D0:Nat->Bool,D0 2=false->D0 0=true->D0 1=true->∀ E0 F0 G0 H0 I0 J0 K0 N0,C0 D0 E0 F0 G0 H0 I0 J0 K0 N0->
 RR (sOp (.indexAddr 30 (.const K0) (.const J0)) 0) N0 fun O0 P0=>
 C0 (setD D0 2) E0 F0 G0 H0 O0 J0 K0 P0)/\
 (∀ D0:Nat->Bool,D0 3=false->D0 2=true->∀ E0 F0 G0 H0 I0 J0 K0 Q0,C0 D0 E0 F0 G0 H0 I0 J0 K0 Q0->
 RR (sOp (.load 32 (.const I0)) 32) Q0 fun S0 T0=>
 C0 (setD D0 3) E0 F0 G0 S0 I0 J0 K0 T0)/\
 (∀ D0:Nat->Bool,D0 4=false->∀ E0 F0 G0 H0 I0 J0 K0 U0,C0 D0 E0 F0 G0 H0 I0 J0 K0 U0->
 RR (sOp (.load 32 (.const g0)) 32) U0 fun V0 W0=>
 C0 (setD D0 4) E0 F0 V0 H0 I0 J0 K0 W0)/\
 (∀ D0:Nat->Bool,D0 5=false->D0 3=true->D0 4=true->∀ E0 F0 G0 H0 I0 J0 K0 X0,C0 D0 E0 F0 G0 H0 I0 J0 K0 X0->
 RR (sBuildSlice 30 2 [(0,H0),(1,G0)]) X0 fun Y0 Z0=>
 C0 (setD D0 5) E0 Y0 G0 H0 I0 J0 K0 Z0)/\
 (∀ D0:Nat->Bool,D0 6=false->D0 5=true->∀ E0 F0 G0 H0 I0 J0 K0 a1,C0 D0 E0 F0 G0 H0 I0 J0 K0 a1->
 RR (sCall (Value.func (.func 106) #[] #[]) [(Value.string ⟨#[46]⟩),F0]) a1 fun b1 c1=>
 C0 (setD D0 6) b1 F0 G0 H0 I0 J0 K0 c1)/\
 (∀ D0:Nat->Bool,D0 7=false->D0 6=true->D0 6=true->D0 0=true->D0 1=true->D0 2=true->D0 3=true->D0 4=true->D0 5=true->D0 6=true->∀ E0 F0 G0 H0 I0 J0 K0 d1,C0 D0 E0 F0 G0 H0 I0 J0 K0 d1->
 RR (sOp (.store 32 (.const g0) (.const E0)) 0) d1 fun _u e1=>
 C0 (setD D0 7) E0 F0 G0 H0 I0 J0 K0 e1)/\
 True)/\
 ∀ D0:Nat->Bool,D0 7=true->D0 6=true->D0 5=true->D0 4=true->D0 3=true->D0 2=true->D0 1=true->D0 0=true->∀ E0 F0 G0 H0 I0 J0 K0 f1,C0 D0 E0 F0 G0 H0 I0 J0 K0 f1->
 RR (sBin .sub 3 false true q0 (Value.int .i64 1)) f1 fun g1 h1=>
 n0 g1 h1/\o0 g1 h1<o0 q0 z0)) (
 RR (sOp (.load 32 (.const g0)) 32) B0 fun i1 j1=>
 RR (sOp (.store 32 (.const c0) (.const i1)) 0) j1 fun _ k1=>
 (LoadV Tryz.prog 32 c0 k1 fun r0=>R (.returned r0) k1)))
theorem rF {p0 p1:Value} {w:World} {R:Ending->World->Prop} (h:nT p0 p1 w R):Calls Tryz.prog 195 #[p0,p1] w R:=
  calls_sh (.seq none .leaf (.seq none .leaf (.seq none (.seq none .leaf (.one (.loop [6] .leaf))) .leaf))) [p0,p1] aw Tryz.func195 (by kernel_rfl) (by kernel_rfl) h


/- loop.example/prologserver/spec.l18Num : function 196 -/
def qS (p0:Value) (w:World) (R:Ending->World->Prop):Prop:=
 (∃ a0:Value->World->Prop,(
 RR (sBuiltin .len #[9] 3 [false] [p0]) w fun b0 c0=>
 RR (sBin .gtr 3 false true b0 (Value.int .i64 0)) c0 fun d0 e0=>
 GuardV d0 true (
 RR (sOp (.index 9 (.const p0) (.const (Value.int .i64 0))) 5) e0 fun f0 g0=>
 RR (sBin .eql 5 false true f0 (Value.int .u8 45)) g0 fun h0 i0=>
 RR (sOp (.pick (.const d0) (.const h0) (.const (Value.bool false))) 4) i0 fun j0 k0=>
 a0 j0 k0) (
 RR (sOp (.pick (.const d0) (.const undef) (.const (Value.bool false))) 4) e0 fun l0 m0=>
 a0 l0 m0))/\
 ∀ n0 _ _ _ _ _ _ _ _:Value,∀ o0:World,a0 n0 o0->
 (∃ q0:Value->World->Prop,(
 CondV n0 (
 RR (sOp (.slice 9 (.const p0) (some (.const (Value.int .i64 1))) none none) 9) o0 fun s0 t0=>
 q0 s0 t0) (
 q0 p0 o0))/\
 ∀ u0 _ _ _:Value,∀ v0:World,q0 u0 v0->
 (∃ w0:Value->World->Prop,(
 RR (sBuiltin .len #[9] 3 [false] [u0]) v0 fun x0 y0=>
 RR (sBin .eql 3 false true x0 (Value.int .i64 0)) y0 fun z0 A0=>
 GuardV z0 false (
 RR (sBuiltin .len #[9] 3 [false] [u0]) A0 fun B0 C0=>
 RR (sBin .gtr 3 false true B0 (Value.int .i64 17)) C0 fun D0 E0=>
 RR (sOp (.pick (.const z0) (.const (Value.bool true)) (.const D0)) 4) E0 fun F0 G0=>
 GuardV F0 false (
 RR (sOp (.index 9 (.const u0) (.const (Value.int .i64 0))) 5) G0 fun H0 I0=>
 RR (sBin .eql 5 false true H0 (Value.int .u8 48)) I0 fun J0 K0=>
 GuardV J0 true (
 RR (sBuiltin .len #[9] 3 [false] [u0]) K0 fun L0 M0=>
 RR (sBin .gtr 3 false true L0 (Value.int .i64 1)) M0 fun N0 O0=>
 GuardV N0 false (
 GuardV J0 true (
 RR (sOp (.pick (.const N0) (.const (Value.bool true)) (.const n0)) 4) O0 fun P0 Q0=>
 GuardV F0 false (
 RR (sOp (.pick (.const J0) (.const P0) (.const (Value.bool false))) 4) Q0 fun S0 T0=>
 RR (sOp (.pick (.const F0) (.const (Value.bool true)) (.const S0)) 4) T0 fun U0 V0=>
 w0 U0 V0) (
 RR (sOp (.pick (.const F0) (.const (Value.bool true)) (.const undef)) 4) Q0 fun W0 X0=>
 w0 W0 X0)) (
 GuardV F0 false (
 RR (sOp (.pick (.const J0) (.const undef) (.const (Value.bool false))) 4) O0 fun Y0 Z0=>
 RR (sOp (.pick (.const F0) (.const (Value.bool true)) (.const Y0)) 4) Z0 fun a1 b1=>
 w0 a1 b1) (
 RR (sOp (.pick (.const F0) (.const (Value.bool true)) (.const undef)) 4) O0 fun c1 d1=>
 w0 c1 d1))) (
 GuardV J0 true (
 RR (sOp (.pick (.const N0) (.const (Value.bool true)) (.const undef)) 4) O0 fun e1 f1=>
 GuardV F0 false (
 RR (sOp (.pick (.const J0) (.const e1) (.const (Value.bool false))) 4) f1 fun g1 h1=>
 RR (sOp (.pick (.const F0) (.const (Value.bool true)) (.const g1)) 4) h1 fun i1 j1=>
 w0 i1 j1) (
 RR (sOp (.pick (.const F0) (.const (Value.bool true)) (.const undef)) 4) f1 fun k1 l1=>
 w0 k1 l1)) (
 GuardV F0 false (
 RR (sOp (.pick (.const J0) (.const undef) (.const (Value.bool false))) 4) O0 fun m1 n1=>
 RR (sOp (.pick (.const F0) (.const (Value.bool true)) (.const m1)) 4) n1 fun o1 q1=>
 w0 o1 q1) (
 RR (sOp (.pick (.const F0) (.const (Value.bool true)) (.const undef)) 4) O0 fun s1 t1=>
 w0 s1 t1)))) (
 GuardV undef false (
 GuardV J0 true (
 RR (sOp (.pick (.const undef) (.const (Value.bool true)) (.const n0)) 4) K0 fun u1 v1=>
 GuardV F0 false (
 RR (sOp (.pick (.const J0) (.const u1) (.const (Value.bool false))) 4) v1 fun w1 x1=>
 RR (sOp (.pick (.const F0) (.const (Value.bool true)) (.const w1)) 4) x1 fun y1 z1=>
 w0 y1 z1) (
 RR (sOp (.pick (.const F0) (.const (Value.bool true)) (.const undef)) 4) v1 fun A1 B1=>
 w0 A1 B1)) (
 GuardV F0 false (
 RR (sOp (.pick (.const J0) (.const undef) (.const (Value.bool false))) 4) K0 fun C1 D1=>
 RR (sOp (.pick (.const F0) (.const (Value.bool true)) (.const C1)) 4) D1 fun E1 F1=>
 w0 E1 F1) (
 RR (sOp (.pick (.const F0) (.const (Value.bool true)) (.const undef)) 4) K0 fun G1 H1=>
 w0 G1 H1))) (
 GuardV J0 true (
 RR (sOp (.pick (.const undef) (.const (Value.bool true)) (.const undef)) 4) K0 fun I1 J1=>
 GuardV F0 false (
 RR (sOp (.pick (.const J0) (.const I1) (.const (Value.bool false))) 4) J1 fun K1 L1=>
 RR (sOp (.pick (.const F0) (.const (Value.bool true)) (.const K1)) 4) L1 fun M1 N1=>
 w0 M1 N1) (
 RR (sOp (.pick (.const F0) (.const (Value.bool true)) (.const undef)) 4) J1 fun O1 P1=>
 w0 O1 P1)) (
 GuardV F0 false (
 RR (sOp (.pick (.const J0) (.const undef) (.const (Value.bool false))) 4) K0 fun Q1 S1=>
 RR (sOp (.pick (.const F0) (.const (Value.bool true)) (.const Q1)) 4) S1 fun T1 U1=>
 w0 T1 U1) (
 RR (sOp (.pick (.const F0) (.const (Value.bool true)) (.const undef)) 4) K0 fun V1 W1=>
 w0 V1 W1))))) (
 GuardV undef true (
 RR (sBuiltin .len #[9] 3 [false] [u0]) G0 fun X1 Y1=>
 RR (sBin .gtr 3 false true X1 (Value.int .i64 1)) Y1 fun Z1 a2=>
 GuardV Z1 false (
 GuardV undef true (
 RR (sOp (.pick (.const Z1) (.const (Value.bool true)) (.const n0)) 4) a2 fun b2 c2=>
 GuardV F0 false (
 RR (sOp (.pick (.const undef) (.const b2) (.const (Value.bool false))) 4) c2 fun d2 e2=>
 RR (sOp (.pick (.const F0) (.const (Value.bool true)) (.const d2)) 4) e2 fun f2 g2=>
 w0 f2 g2) (
 RR (sOp (.pick (.const F0) (.const (Value.bool true)) (.const undef)) 4) c2 fun h2 i2=>
 w0 h2 i2)) (
 GuardV F0 false (
 RR (sOp (.pick (.const undef) (.const undef) (.const (Value.bool false))) 4) a2 fun j2 k2=>
 RR (sOp (.pick (.const F0) (.const (Value.bool true)) (.const j2)) 4) k2 fun l2 m2=>
 w0 l2 m2) (
 RR (sOp (.pick (.const F0) (.const (Value.bool true)) (.const undef)) 4) a2 fun n2 o2=>
 w0 n2 o2))) (
 GuardV undef true (
 RR (sOp (.pick (.const Z1) (.const (Value.bool true)) (.const undef)) 4) a2 fun q2 s2=>
 GuardV F0 false (
 RR (sOp (.pick (.const undef) (.const q2) (.const (Value.bool false))) 4) s2 fun t2 u2=>
 RR (sOp (.pick (.const F0) (.const (Value.bool true)) (.const t2)) 4) u2 fun v2 w2=>
 w0 v2 w2) (
 RR (sOp (.pick (.const F0) (.const (Value.bool true)) (.const undef)) 4) s2 fun x2 y2=>
 w0 x2 y2)) (
 GuardV F0 false (
 RR (sOp (.pick (.const undef) (.const undef) (.const (Value.bool false))) 4) a2 fun z2 A2=>
 RR (sOp (.pick (.const F0) (.const (Value.bool true)) (.const z2)) 4) A2 fun B2 C2=>
 w0 B2 C2) (
 RR (sOp (.pick (.const F0) (.const (Value.bool true)) (.const undef)) 4) a2 fun D2 E2=>
 w0 D2 E2)))) (
 GuardV undef false (
 GuardV undef true (
 RR (sOp (.pick (.const undef) (.const (Value.bool true)) (.const n0)) 4) G0 fun F2 G2=>
 GuardV F0 false (
 RR (sOp (.pick (.const undef) (.const F2) (.const (Value.bool false))) 4) G2 fun H2 I2=>
 RR (sOp (.pick (.const F0) (.const (Value.bool true)) (.const H2)) 4) I2 fun J2 K2=>
 w0 J2 K2) (
 RR (sOp (.pick (.const F0) (.const (Value.bool true)) (.const undef)) 4) G2 fun L2 M2=>
 w0 L2 M2)) (
 GuardV F0 false (
 RR (sOp (.pick (.const undef) (.const undef) (.const (Value.bool false))) 4) G0 fun N2 O2=>
 RR (sOp (.pick (.const F0) (.const (Value.bool true)) (.const N2)) 4) O2 fun P2 Q2=>
 w0 P2 Q2) (
 RR (sOp (.pick (.const F0) (.const (Value.bool true)) (.const undef)) 4) G0 fun S2 T2=>
 w0 S2 T2))) (
 GuardV undef true (
 RR (sOp (.pick (.const undef) (.const (Value.bool true)) (.const undef)) 4) G0 fun U2 V2=>
 GuardV F0 false (
 RR (sOp (.pick (.const undef) (.const U2) (.const (Value.bool false))) 4) V2 fun W2 X2=>
 RR (sOp (.pick (.const F0) (.const (Value.bool true)) (.const W2)) 4) X2 fun Y2 Z2=>
 w0 Y2 Z2) (
 RR (sOp (.pick (.const F0) (.const (Value.bool true)) (.const undef)) 4) V2 fun a3 b3=>
 w0 a3 b3)) (
 GuardV F0 false (
 RR (sOp (.pick (.const undef) (.const undef) (.const (Value.bool false))) 4) G0 fun c3 d3=>
 RR (sOp (.pick (.const F0) (.const (Value.bool true)) (.const c3)) 4) d3 fun e3 f3=>
 w0 e3 f3) (
 RR (sOp (.pick (.const F0) (.const (Value.bool true)) (.const undef)) 4) G0 fun g3 h3=>
 w0 g3 h3)))))) (
 RR (sOp (.pick (.const z0) (.const (Value.bool true)) (.const undef)) 4) A0 fun i3 j3=>
 GuardV i3 false (
 RR (sOp (.index 9 (.const u0) (.const (Value.int .i64 0))) 5) j3 fun k3 l3=>
 RR (sBin .eql 5 false true k3 (Value.int .u8 48)) l3 fun m3 n3=>
 GuardV m3 true (
 RR (sBuiltin .len #[9] 3 [false] [u0]) n3 fun o3 q3=>
 RR (sBin .gtr 3 false true o3 (Value.int .i64 1)) q3 fun s3 t3=>
 GuardV s3 false (
 GuardV m3 true (
 RR (sOp (.pick (.const s3) (.const (Value.bool true)) (.const n0)) 4) t3 fun u3 v3=>
 GuardV i3 false (
 RR (sOp (.pick (.const m3) (.const u3) (.const (Value.bool false))) 4) v3 fun w3 x3=>
 RR (sOp (.pick (.const i3) (.const (Value.bool true)) (.const w3)) 4) x3 fun y3 z3=>
 w0 y3 z3) (
 RR (sOp (.pick (.const i3) (.const (Value.bool true)) (.const undef)) 4) v3 fun A3 B3=>
 w0 A3 B3)) (
 GuardV i3 false (
 RR (sOp (.pick (.const m3) (.const undef) (.const (Value.bool false))) 4) t3 fun C3 D3=>
 RR (sOp (.pick (.const i3) (.const (Value.bool true)) (.const C3)) 4) D3 fun E3 F3=>
 w0 E3 F3) (
 RR (sOp (.pick (.const i3) (.const (Value.bool true)) (.const undef)) 4) t3 fun G3 H3=>
 w0 G3 H3))) (
 GuardV m3 true (
 RR (sOp (.pick (.const s3) (.const (Value.bool true)) (.const undef)) 4) t3 fun I3 J3=>
 GuardV i3 false (
 RR (sOp (.pick (.const m3) (.const I3) (.const (Value.bool false))) 4) J3 fun K3 L3=>
 RR (sOp (.pick (.const i3) (.const (Value.bool true)) (.const K3)) 4) L3 fun M3 N3=>
 w0 M3 N3) (
 RR (sOp (.pick (.const i3) (.const (Value.bool true)) (.const undef)) 4) J3 fun O3 P3=>
 w0 O3 P3)) (
 GuardV i3 false (
 RR (sOp (.pick (.const m3) (.const undef) (.const (Value.bool false))) 4) t3 fun Q3 S3=>
 RR (sOp (.pick (.const i3) (.const (Value.bool true)) (.const Q3)) 4) S3 fun T3 U3=>
 w0 T3 U3) (
 RR (sOp (.pick (.const i3) (.const (Value.bool true)) (.const undef)) 4) t3 fun V3 W3=>
 w0 V3 W3)))) (
 GuardV undef false (
 GuardV m3 true (
 RR (sOp (.pick (.const undef) (.const (Value.bool true)) (.const n0)) 4) n3 fun X3 Y3=>
 GuardV i3 false (
 RR (sOp (.pick (.const m3) (.const X3) (.const (Value.bool false))) 4) Y3 fun Z3 a4=>
 RR (sOp (.pick (.const i3) (.const (Value.bool true)) (.const Z3)) 4) a4 fun b4 c4=>
 w0 b4 c4) (
 RR (sOp (.pick (.const i3) (.const (Value.bool true)) (.const undef)) 4) Y3 fun d4 e4=>
 w0 d4 e4)) (
 GuardV i3 false (
 RR (sOp (.pick (.const m3) (.const undef) (.const (Value.bool false))) 4) n3 fun f4 g4=>
 RR (sOp (.pick (.const i3) (.const (Value.bool true)) (.const f4)) 4) g4 fun h4 i4=>
 w0 h4 i4) (
 RR (sOp (.pick (.const i3) (.const (Value.bool true)) (.const undef)) 4) n3 fun j4 k4=>
 w0 j4 k4))) (
 GuardV m3 true (
 RR (sOp (.pick (.const undef) (.const (Value.bool true)) (.const undef)) 4) n3 fun l4 m4=>
 GuardV i3 false (
 RR (sOp (.pick (.const m3) (.const l4) (.const (Value.bool false))) 4) m4 fun n4 o4=>
 RR (sOp (.pick (.const i3) (.const (Value.bool true)) (.const n4)) 4) o4 fun q4 s4=>
 w0 q4 s4) (
 RR (sOp (.pick (.const i3) (.const (Value.bool true)) (.const undef)) 4) m4 fun t4 u4=>
 w0 t4 u4)) (
 GuardV i3 false (
 RR (sOp (.pick (.const m3) (.const undef) (.const (Value.bool false))) 4) n3 fun v4 w4=>
 RR (sOp (.pick (.const i3) (.const (Value.bool true)) (.const v4)) 4) w4 fun x4 y4=>
 w0 x4 y4) (
 RR (sOp (.pick (.const i3) (.const (Value.bool true)) (.const undef)) 4) n3 fun z4 A4=>
 w0 z4 A4))))) (
 GuardV undef true (
 RR (sBuiltin .len #[9] 3 [false] [u0]) j3 fun B4 C4=>
 RR (sBin .gtr 3 false true B4 (Value.int .i64 1)) C4 fun D4 E4=>
 GuardV D4 false (
 GuardV undef true (
 RR (sOp (.pick (.const D4) (.const (Value.bool true)) (.const n0)) 4) E4 fun F4 G4=>
 GuardV i3 false (
 RR (sOp (.pick (.const undef) (.const F4) (.const (Value.bool false))) 4) G4 fun H4 I4=>
 RR (sOp (.pick (.const i3) (.const (Value.bool true)) (.const H4)) 4) I4 fun J4 K4=>
 w0 J4 K4) (
 RR (sOp (.pick (.const i3) (.const (Value.bool true)) (.const undef)) 4) G4 fun L4 M4=>
 w0 L4 M4)) (
 GuardV i3 false (
 RR (sOp (.pick (.const undef) (.const undef) (.const (Value.bool false))) 4) E4 fun N4 O4=>
 RR (sOp (.pick (.const i3) (.const (Value.bool true)) (.const N4)) 4) O4 fun P4 Q4=>
 w0 P4 Q4) (
 RR (sOp (.pick (.const i3) (.const (Value.bool true)) (.const undef)) 4) E4 fun S4 T4=>
 w0 S4 T4))) (
 GuardV undef true (
 RR (sOp (.pick (.const D4) (.const (Value.bool true)) (.const undef)) 4) E4 fun U4 V4=>
 GuardV i3 false (
 RR (sOp (.pick (.const undef) (.const U4) (.const (Value.bool false))) 4) V4 fun W4 X4=>
 RR (sOp (.pick (.const i3) (.const (Value.bool true)) (.const W4)) 4) X4 fun Y4 Z4=>
 w0 Y4 Z4) (
 RR (sOp (.pick (.const i3) (.const (Value.bool true)) (.const undef)) 4) V4 fun a5 b5=>
 w0 a5 b5)) (
 GuardV i3 false (
 RR (sOp (.pick (.const undef) (.const undef) (.const (Value.bool false))) 4) E4 fun c5 d5=>
 RR (sOp (.pick (.const i3) (.const (Value.bool true)) (.const c5)) 4) d5 fun e5 f5=>
 w0 e5 f5) (
 RR (sOp (.pick (.const i3) (.const (Value.bool true)) (.const undef)) 4) E4 fun g5 h5=>
 w0 g5 h5)))) (
 GuardV undef false (
 GuardV undef true (
 RR (sOp (.pick (.const undef) (.const (Value.bool true)) (.const n0)) 4) j3 fun i5 j5=>
 GuardV i3 false (
 RR (sOp (.pick (.const undef) (.const i5) (.const (Value.bool false))) 4) j5 fun k5 l5=>
 RR (sOp (.pick (.const i3) (.const (Value.bool true)) (.const k5)) 4) l5 fun m5 n5=>
 w0 m5 n5) (
 RR (sOp (.pick (.const i3) (.const (Value.bool true)) (.const undef)) 4) j5 fun o5 q5=>
 w0 o5 q5)) (
 GuardV i3 false (
 RR (sOp (.pick (.const undef) (.const undef) (.const (Value.bool false))) 4) j3 fun s5 t5=>
 RR (sOp (.pick (.const i3) (.const (Value.bool true)) (.const s5)) 4) t5 fun u5 v5=>
 w0 u5 v5) (
 RR (sOp (.pick (.const i3) (.const (Value.bool true)) (.const undef)) 4) j3 fun w5 x5=>
 w0 w5 x5))) (
 GuardV undef true (
 RR (sOp (.pick (.const undef) (.const (Value.bool true)) (.const undef)) 4) j3 fun y5 z5=>
 GuardV i3 false (
 RR (sOp (.pick (.const undef) (.const y5) (.const (Value.bool false))) 4) z5 fun A5 B5=>
 RR (sOp (.pick (.const i3) (.const (Value.bool true)) (.const A5)) 4) B5 fun C5 D5=>
 w0 C5 D5) (
 RR (sOp (.pick (.const i3) (.const (Value.bool true)) (.const undef)) 4) z5 fun E5 F5=>
 w0 E5 F5)) (
 GuardV i3 false (
 RR (sOp (.pick (.const undef) (.const undef) (.const (Value.bool false))) 4) j3 fun G5 H5=>
 RR (sOp (.pick (.const i3) (.const (Value.bool true)) (.const G5)) 4) H5 fun I5 J5=>
 w0 I5 J5) (
 RR (sOp (.pick (.const i3) (.const (Value.bool true)) (.const undef)) 4) j3 fun K5 L5=>
 w0 K5 L5)))))))/\
 ∀ M5 _ _ _ _ _ _ _ _ _ _ _ _ _ _ _ _ _ _ _ _:Value,∀ N5:World,w0 M5 N5->
 CondV M5 (
 R (.returned (.tuple #[(Value.int .i64 0),(Value.bool false)])) N5) (
 (∃ (O5:Value->Value->World->Prop) (P5:Value->Value->World->Nat),O5 (Value.int .i64 0) (Value.int .i64 0) N5/\
 ∀ Q5 _ _ S5 _ _ _ _ _ _ _ _ _ _ _ _ _ _ _ _ _ _ _ _ _ _ _ _:Value,∀ T5:World,O5 Q5 S5 T5->
 RR (sBuiltin .len #[9] 3 [false] [u0]) T5 fun U5 V5=>
 RR (sBin .lss 3 false false Q5 U5) V5 fun W5 X5=>
 CondV W5 (
 (∃ Y5:Value->World->Prop,(
 RR (sOp (.index 9 (.const u0) (.const Q5)) 5) X5 fun Z5 a6=>
 RR (sBin .lss 5 false true Z5 (Value.int .u8 48)) a6 fun b6 c6=>
 GuardV b6 false (
 RR (sOp (.index 9 (.const u0) (.const Q5)) 5) c6 fun d6 e6=>
 RR (sBin .gtr 5 false true d6 (Value.int .u8 57)) e6 fun f6 g6=>
 RR (sOp (.pick (.const b6) (.const (Value.bool true)) (.const f6)) 4) g6 fun h6 i6=>
 Y5 h6 i6) (
 RR (sOp (.pick (.const b6) (.const (Value.bool true)) (.const undef)) 4) c6 fun j6 k6=>
 Y5 j6 k6))/\
 ∀ l6 _ _ _ _ _ _ _ _ _:Value,∀ m6:World,Y5 l6 m6->
 CondV l6 (
 R (.returned (.tuple #[(Value.int .i64 0),(Value.bool false)])) m6) (
 RR (sBin .mul 3 false true S5 (Value.int .i64 10)) m6 fun n6 o6=>
 RR (sOp (.index 9 (.const u0) (.const Q5)) 5) o6 fun q6 s6=>
 RR (sBin .sub 5 false true q6 (Value.int .u8 48)) s6 fun t6 u6=>
 RR (sOp (.convert 5 3 (.const t6)) 3) u6 fun v6 w6=>
 RR (sBin .add 3 false false n6 v6) w6 fun x6 y6=>
 RR (sBin .add 3 false true Q5 (Value.int .i64 1)) y6 fun z6 A6=>
 O5 z6 x6 A6/\P5 z6 x6 A6<P5 Q5 S5 T5))) (
 (∃ B6:Value->World->Prop,(
 CondV n0 (
 RR (sOp (.unOp .neg 3 (.const S5)) 3) X5 fun C6 D6=>
 B6 C6 D6) (
 B6 S5 X5))/\
 ∀ E6 _ _ _:Value,∀ F6:World,B6 E6 F6->
 R (.returned (.tuple #[E6,(Value.bool true)])) F6)))))))
theorem sY {p0:Value} {w:World} {R:Ending->World->Prop} (h:qS p0 w R):Calls Tryz.prog 196 #[p0] w R:=
  calls_sh (.seq none .leaf (.seq (some [4]) .leaf (.seq (some [0]) .leaf (.seq none (.seq (some [38]) .leaf .leaf) (.seq none .leaf (.seq none (.seq none .leaf (.one (.loop [6,5] (.seq none .leaf (.seq none (.one (.seq none (.seq (some [54]) .leaf .leaf) .leaf)) .leaf))))) (.seq (some [5]) .leaf .leaf))))))) [p0] aw Tryz.func196 (by kernel_rfl) (by kernel_rfl) h


/- loop.example/prologserver/spec.l1Small : function 197 -/
def nH (p0 p1:Value) (w:World) (R:Ending->World->Prop):Prop:=
 RR (sBin .geq 3 false true p1 (Value.int .i64 0)) w fun a0 b0=>
 GuardV a0 true (
 RR (sBuiltin .len #[9] 3 [false] [p0]) b0 fun c0 d0=>
 RR (sBin .lss 3 false false p1 c0) d0 fun e0 f0=>
 RR (sOp (.pick (.const a0) (.const e0) (.const (Value.bool false))) 4) f0 fun g0 h0=>
 GuardV g0 true (
 RR (sOp (.index 9 (.const p0) (.const p1)) 5) h0 fun i0 j0=>
 RR (sBin .geq 5 false true i0 (Value.int .u8 97)) j0 fun k0 l0=>
 RR (sOp (.pick (.const g0) (.const k0) (.const (Value.bool false))) 4) l0 fun m0 n0=>
 GuardV m0 true (
 RR (sOp (.index 9 (.const p0) (.const p1)) 5) n0 fun o0 q0=>
 RR (sBin .leq 5 false true o0 (Value.int .u8 122)) q0 fun s0 t0=>
 RR (sOp (.pick (.const m0) (.const s0) (.const (Value.bool false))) 4) t0 fun u0 v0=>
 R (.returned u0) v0) (
 RR (sOp (.pick (.const m0) (.const undef) (.const (Value.bool false))) 4) n0 fun w0 x0=>
 R (.returned w0) x0)) (
 RR (sOp (.pick (.const g0) (.const undef) (.const (Value.bool false))) 4) h0 fun y0 z0=>
 GuardV y0 true (
 RR (sOp (.index 9 (.const p0) (.const p1)) 5) z0 fun A0 B0=>
 RR (sBin .leq 5 false true A0 (Value.int .u8 122)) B0 fun C0 D0=>
 RR (sOp (.pick (.const y0) (.const C0) (.const (Value.bool false))) 4) D0 fun E0 F0=>
 R (.returned E0) F0) (
 RR (sOp (.pick (.const y0) (.const undef) (.const (Value.bool false))) 4) z0 fun G0 H0=>
 R (.returned G0) H0))) (
 RR (sOp (.pick (.const a0) (.const undef) (.const (Value.bool false))) 4) b0 fun I0 J0=>
 GuardV I0 true (
 RR (sOp (.index 9 (.const p0) (.const p1)) 5) J0 fun K0 L0=>
 RR (sBin .geq 5 false true K0 (Value.int .u8 97)) L0 fun M0 N0=>
 RR (sOp (.pick (.const I0) (.const M0) (.const (Value.bool false))) 4) N0 fun O0 P0=>
 GuardV O0 true (
 RR (sOp (.index 9 (.const p0) (.const p1)) 5) P0 fun Q0 S0=>
 RR (sBin .leq 5 false true Q0 (Value.int .u8 122)) S0 fun T0 U0=>
 RR (sOp (.pick (.const O0) (.const T0) (.const (Value.bool false))) 4) U0 fun V0 W0=>
 R (.returned V0) W0) (
 RR (sOp (.pick (.const O0) (.const undef) (.const (Value.bool false))) 4) P0 fun X0 Y0=>
 R (.returned X0) Y0)) (
 RR (sOp (.pick (.const I0) (.const undef) (.const (Value.bool false))) 4) J0 fun Z0 a1=>
 GuardV Z0 true (
 RR (sOp (.index 9 (.const p0) (.const p1)) 5) a1 fun b1 c1=>
 RR (sBin .leq 5 false true b1 (Value.int .u8 122)) c1 fun d1 e1=>
 RR (sOp (.pick (.const Z0) (.const d1) (.const (Value.bool false))) 4) e1 fun f1 g1=>
 R (.returned f1) g1) (
 RR (sOp (.pick (.const Z0) (.const undef) (.const (Value.bool false))) 4) a1 fun h1 i1=>
 R (.returned h1) i1)))
theorem rt {p0 p1:Value} {w:World} {R:Ending->World->Prop} (h:nH p0 p1 w R):Calls Tryz.prog 197 #[p0,p1] w R:=
  calls_sh .leaf [p0,p1] aw Tryz.func197 (by kernel_rfl) (by kernel_rfl) h


/- loop.example/prologserver/spec.l1Pair : function 198 -/
def qY (p0:Value) (w:World) (R:Ending->World->Prop):Prop:=
 RR (sOp (.box 32 (.const p0)) 0) w fun a0 b0=>
 RR (sOp (.fieldAddr 32 (.const a0) 0) 0) b0 fun c0 d0=>
 RR (sOp (.load 3 (.const c0)) 3) d0 fun e0 f0=>
 RR (sBin .eql 3 false true e0 (Value.int .i64 3)) f0 fun g0 h0=>
 GuardV g0 true (
 RR (sOp (.fieldAddr 32 (.const a0) 2) 0) h0 fun i0 j0=>
 RR (sOp (.load 9 (.const i0)) 9) j0 fun k0 l0=>
 RR (sBin .eql 9 false true k0 (Value.string ⟨#[46]⟩)) l0 fun m0 n0=>
 RR (sOp (.pick (.const g0) (.const m0) (.const (Value.bool false))) 4) n0 fun o0 q0=>
 GuardV o0 true (
 RR (sOp (.fieldAddr 32 (.const a0) 3) 0) q0 fun s0 t0=>
 RR (sOp (.load 30 (.const s0)) 30) t0 fun u0 v0=>
 RR (sBuiltin .len #[30] 3 [false] [u0]) v0 fun w0 x0=>
 RR (sBin .eql 3 false true w0 (Value.int .i64 2)) x0 fun y0 z0=>
 RR (sOp (.pick (.const o0) (.const y0) (.const (Value.bool false))) 4) z0 fun A0 B0=>
 R (.returned A0) B0) (
 RR (sOp (.pick (.const o0) (.const undef) (.const (Value.bool false))) 4) q0 fun C0 D0=>
 R (.returned C0) D0)) (
 RR (sOp (.pick (.const g0) (.const undef) (.const (Value.bool false))) 4) h0 fun E0 F0=>
 GuardV E0 true (
 RR (sOp (.fieldAddr 32 (.const a0) 3) 0) F0 fun G0 H0=>
 RR (sOp (.load 30 (.const G0)) 30) H0 fun I0 J0=>
 RR (sBuiltin .len #[30] 3 [false] [I0]) J0 fun K0 L0=>
 RR (sBin .eql 3 false true K0 (Value.int .i64 2)) L0 fun M0 N0=>
 RR (sOp (.pick (.const E0) (.const M0) (.const (Value.bool false))) 4) N0 fun O0 P0=>
 R (.returned O0) P0) (
 RR (sOp (.pick (.const E0) (.const undef) (.const (Value.bool false))) 4) F0 fun Q0 S0=>
 R (.returned Q0) S0))
theorem sm {p0:Value} {w:World} {R:Ending->World->Prop} (h:qY p0 w R):Calls Tryz.prog 198 #[p0] w R:=
  calls_sh .leaf [p0] aw Tryz.func198 (by kernel_rfl) (by kernel_rfl) h


/- loop.example/prologserver/spec.l2List : function 199 -/
def qz (p0:Value) (w:World) (R:Ending->World->Prop):Prop:=
 RR (sOp (.box 32 (.const p0)) 0) w fun a0 b0=>
 RR (sBuildSlice 30 0 []) b0 fun c0 d0=>
 (∃ (e0:Value->World->Prop) (f0:Value->World->Nat),e0 c0 d0/\
 ∀ _ _ _ _ g0 _ _ _ _ _ _ _ _ _:Value,∀ h0:World,e0 g0 h0->
 RR (sOp (.load 32 (.const a0)) 32) h0 fun i0 j0=>
 RR (sCall (Value.func (.func 198) #[] #[]) [i0]) j0 fun k0 l0=>
 CondV k0 (
 RR (sOp (.fieldAddr 32 (.const a0) 3) 0) l0 fun m0 n0=>
 RR (sOp (.load 30 (.const m0)) 30) n0 fun o0 q0=>
 RR (sOp (.indexAddr 30 (.const o0) (.const (Value.int .i64 0))) 0) q0 fun s0 t0=>
 RR (sOp (.load 32 (.const s0)) 32) t0 fun u0 v0=>
 RR (sBuildSlice 30 1 [(0,u0)]) v0 fun w0 x0=>
 RR (sBuiltin .append #[30,30] 30 [false,false] [g0,w0]) x0 fun y0 z0=>
 RR (sOp (.fieldAddr 32 (.const a0) 3) 0) z0 fun A0 B0=>
 RR (sOp (.load 30 (.const A0)) 30) B0 fun C0 D0=>
 RR (sOp (.indexAddr 30 (.const C0) (.const (Value.int .i64 1))) 0) D0 fun E0 F0=>
 RR (sOp (.load 32 (.const E0)) 32) F0 fun G0 H0=>
 RR (sOp (.store 32 (.const a0) (.const G0)) 0) H0 fun _ I0=>
 e0 y0 I0/\f0 y0 I0<f0 g0 h0) (
 RR (sOp (.load 32 (.const a0)) 32) l0 fun J0 K0=>
 RR (sCall (Value.func (.func 206) #[] #[]) [J0]) K0 fun L0 M0=>
 CondV L0 (
 RR (sCall (Value.func (.func 204) #[] #[]) [g0]) M0 fun N0 O0=>
 RR (sBin .add 9 true false (Value.string ⟨#[91]⟩) N0) O0 fun P0 Q0=>
 RR (sBin .add 9 false true P0 (Value.string ⟨#[93]⟩)) Q0 fun S0 T0=>
 R (.returned S0) T0) (
 (∃ U0:(Nat->Bool)->Value->Value->Value->Value->Value->Value->Value->Value->Value->World->Prop,U0 (fun _=>false) (Value.string ⟨#[]⟩) undef undef undef undef undef undef undef undef { M0 with drawn:=M0.drawn+1 }/\(
 (∀ V0:Nat->Bool,V0 0=false->∀ W0 X0 Y0 Z0 a1 b1 c1 d1 e1 f1,U0 V0 W0 X0 Y0 Z0 a1 b1 c1 d1 e1 f1->
 U0 (setD V0 0) W0 X0 Y0 Z0 a1 b1 c1 d1 g0 f1)/\
 (∀ V0:Nat->Bool,V0 1=false->V0 0=true->∀ W0 X0 Y0 Z0 a1 b1 c1 d1 e1 g1,U0 V0 W0 X0 Y0 Z0 a1 b1 c1 d1 e1 g1->
 RR (sCall (Value.func (.func 204) #[] #[]) [e1]) g1 fun h1 i1=>
 U0 (setD V0 1) W0 X0 Y0 Z0 a1 b1 c1 h1 e1 i1)/\
 (∀ V0:Nat->Bool,V0 2=false->V0 1=true->∀ W0 X0 Y0 Z0 a1 b1 c1 d1 e1 j1,U0 V0 W0 X0 Y0 Z0 a1 b1 c1 d1 e1 j1->
 RR (sBin .add 9 true false (Value.string ⟨#[91]⟩) d1) j1 fun k1 l1=>
 U0 (setD V0 2) W0 X0 Y0 Z0 a1 b1 k1 d1 e1 l1)/\
 (∀ V0:Nat->Bool,V0 3=false->V0 2=true->∀ W0 X0 Y0 Z0 a1 b1 c1 d1 e1 m1,U0 V0 W0 X0 Y0 Z0 a1 b1 c1 d1 e1 m1->
 RR (sBin .add 9 false true c1 (Value.string ⟨#[124]⟩)) m1 fun n1 o1=>
 U0 (setD V0 3) W0 X0 Y0 Z0 a1 n1 c1 d1 e1 o1)/\
 (∀ V0:Nat->Bool,V0 4=false->∀ W0 X0 Y0 Z0 a1 b1 c1 d1 e1 q1,U0 V0 W0 X0 Y0 Z0 a1 b1 c1 d1 e1 q1->
 RR (sOp (.load 32 (.const a0)) 32) q1 fun s1 t1=>
 U0 (setD V0 4) W0 X0 Y0 Z0 s1 b1 c1 d1 e1 t1)/\
 (∀ V0:Nat->Bool,V0 5=false->V0 4=true->V0 1=true->∀ W0 X0 Y0 Z0 a1 b1 c1 d1 e1 u1,U0 V0 W0 X0 Y0 Z0 a1 b1 c1 d1 e1 u1->
 RR (sCall (Value.func (.func 191) #[] #[]) [a1]) u1 fun v1 w1=>
 U0 (setD V0 5) W0 X0 Y0 v1 a1 b1 c1 d1 e1 w1)/\
 (∀ V0:Nat->Bool,V0 6=false->V0 3=true->V0 5=true->∀ W0 X0 Y0 Z0 a1 b1 c1 d1 e1 x1,U0 V0 W0 X0 Y0 Z0 a1 b1 c1 d1 e1 x1->
 RR (sBin .add 9 false false b1 Z0) x1 fun y1 z1=>
 U0 (setD V0 6) W0 X0 y1 Z0 a1 b1 c1 d1 e1 z1)/\
 (∀ V0:Nat->Bool,V0 7=false->V0 6=true->∀ W0 X0 Y0 Z0 a1 b1 c1 d1 e1 A1,U0 V0 W0 X0 Y0 Z0 a1 b1 c1 d1 e1 A1->
 RR (sBin .add 9 false true Y0 (Value.string ⟨#[93]⟩)) A1 fun B1 C1=>
 U0 (setD V0 7) W0 B1 Y0 Z0 a1 b1 c1 d1 e1 C1)/\
 (∀ V0:Nat->Bool,V0 8=false->V0 7=true->V0 5=true->V0 0=true->V0 1=true->V0 2=true->V0 3=true->V0 4=true->V0 5=true->V0 6=true->V0 7=true->∀ W0 X0 Y0 Z0 a1 b1 c1 d1 e1 D1,U0 V0 W0 X0 Y0 Z0 a1 b1 c1 d1 e1 D1->
 U0 (setD V0 8) X0 X0 Y0 Z0 a1 b1 c1 d1 e1 D1)/\
 True)/\
 ∀ V0:Nat->Bool,V0 8=true->V0 7=true->V0 6=true->V0 5=true->V0 4=true->V0 3=true->V0 2=true->V0 1=true->V0 0=true->∀ W0 X0 Y0 Z0 a1 b1 c1 d1 e1 E1,U0 V0 W0 X0 Y0 Z0 a1 b1 c1 d1 e1 E1->
 R (.returned W0) E1))))
theorem tI {p0:Value} {w:World} {R:Ending->World->Prop} (h:qz p0 w R):Calls Tryz.prog 199 #[p0] w R:=
  calls_sh (.seq none .leaf (.seq none .leaf (.seq none (.one (.loop [3] .leaf)) .leaf))) [p0] aw Tryz.func199 (by kernel_rfl) (by kernel_rfl) h


/- loop.example/prologserver/spec.l2Infix : function 200 -/
def mR (p0:Value) (w:World) (R:Ending->World->Prop):Prop:=
 RR (sOp (.box 32 (.const p0)) 0) w fun a0 b0=>
 RR (sOp (.fieldAddr 32 (.const a0) 0) 0) b0 fun c0 d0=>
 RR (sOp (.load 3 (.const c0)) 3) d0 fun e0 f0=>
 RR (sBin .eql 3 false true e0 (Value.int .i64 3)) f0 fun g0 h0=>
 GuardV g0 true (
 RR (sOp (.fieldAddr 32 (.const a0) 3) 0) h0 fun i0 j0=>
 RR (sOp (.load 30 (.const i0)) 30) j0 fun k0 l0=>
 RR (sBuiltin .len #[30] 3 [false] [k0]) l0 fun m0 n0=>
 RR (sBin .eql 3 false true m0 (Value.int .i64 2)) n0 fun o0 q0=>
 RR (sOp (.pick (.const g0) (.const o0) (.const (Value.bool false))) 4) q0 fun s0 t0=>
 GuardV s0 true (
 RR (sOp (.fieldAddr 32 (.const a0) 2) 0) t0 fun u0 v0=>
 RR (sOp (.load 9 (.const u0)) 9) v0 fun w0 x0=>
 RR (sCall (Value.func (.func 156) #[] #[]) [w0]) x0 fun y0 z0=>
 RR (sBin .gtr 3 false true y0 (Value.int .i64 0)) z0 fun A0 B0=>
 RR (sOp (.pick (.const s0) (.const A0) (.const (Value.bool false))) 4) B0 fun C0 D0=>
 R (.returned C0) D0) (
 RR (sOp (.pick (.const s0) (.const undef) (.const (Value.bool false))) 4) t0 fun E0 F0=>
 R (.returned E0) F0)) (
 RR (sOp (.pick (.const g0) (.const undef) (.const (Value.bool false))) 4) h0 fun G0 H0=>
 GuardV G0 true (
 RR (sOp (.fieldAddr 32 (.const a0) 2) 0) H0 fun I0 J0=>
 RR (sOp (.load 9 (.const I0)) 9) J0 fun K0 L0=>
 RR (sCall (Value.func (.func 156) #[] #[]) [K0]) L0 fun M0 N0=>
 RR (sBin .gtr 3 false true M0 (Value.int .i64 0)) N0 fun O0 P0=>
 RR (sOp (.pick (.const G0) (.const O0) (.const (Value.bool false))) 4) P0 fun Q0 S0=>
 R (.returned Q0) S0) (
 RR (sOp (.pick (.const G0) (.const undef) (.const (Value.bool false))) 4) H0 fun T0 U0=>
 R (.returned T0) U0))
theorem rm {p0:Value} {w:World} {R:Ending->World->Prop} (h:mR p0 w R):Calls Tryz.prog 200 #[p0] w R:=
  calls_sh .leaf [p0] aw Tryz.func200 (by kernel_rfl) (by kernel_rfl) h


/- loop.example/prologserver/spec.l2Left : function 201 -/
def qA (p0 p1:Value) (w:World) (R:Ending->World->Prop):Prop:=
 RR (sOp (.box 32 (.const p0)) 0) w fun a0 b0=>
 RR (sOp (.load 32 (.const a0)) 32) b0 fun c0 d0=>
 RR (sCall (Value.func (.func 207) #[] #[]) [c0]) d0 fun e0 f0=>
 CondV e0 (
 RR (sOp (.load 32 (.const a0)) 32) f0 fun g0 h0=>
 RR (sCall (Value.func (.func 191) #[] #[]) [g0]) h0 fun i0 j0=>
 RR (sBin .add 9 true false (Value.string ⟨#[40]⟩) i0) j0 fun k0 l0=>
 RR (sBin .add 9 false true k0 (Value.string ⟨#[41]⟩)) l0 fun m0 n0=>
 R (.returned m0) n0) (
 RR (sOp (.load 32 (.const a0)) 32) f0 fun o0 q0=>
 RR (sCall (Value.func (.func 208) #[] #[]) [o0,p1]) q0 fun s0 t0=>
 R (.returned s0) t0)
theorem tA {p0 p1:Value} {w:World} {R:Ending->World->Prop} (h:qA p0 p1 w R):Calls Tryz.prog 201 #[p0,p1] w R:=
  calls_sh .leaf [p0,p1] aw Tryz.func201 (by kernel_rfl) (by kernel_rfl) h


/- loop.example/prologserver/spec.l2Spaced : function 202 -/
def lr (p0:Value) (w:World) (R:Ending->World->Prop):Prop:=
 (∃ a0:Value->World->Prop,(
 RR (sBin .eql 9 false true p0 (Value.string ⟨#[105,115]⟩)) w fun b0 c0=>
 GuardV b0 false (
 RR (sBin .eql 9 false true p0 (Value.string ⟨#[109,111,100]⟩)) c0 fun d0 e0=>
 RR (sOp (.pick (.const b0) (.const (Value.bool true)) (.const d0)) 4) e0 fun f0 g0=>
 a0 f0 g0) (
 RR (sOp (.pick (.const b0) (.const (Value.bool true)) (.const undef)) 4) c0 fun h0 i0=>
 a0 h0 i0))/\
 ∀ j0 _ _ _ _ _:Value,∀ k0:World,a0 j0 k0->
 CondV j0 (
 RR (sBin .add 9 true false (Value.string ⟨#[32]⟩) p0) k0 fun l0 m0=>
 RR (sBin .add 9 false true l0 (Value.string ⟨#[32]⟩)) m0 fun n0 o0=>
 R (.returned n0) o0) (
 R (.returned p0) k0))
theorem pL {p0:Value} {w:World} {R:Ending->World->Prop} (h:lr p0 w R):Calls Tryz.prog 202 #[p0] w R:=
  calls_sh (.seq none .leaf (.seq none (.seq (some [8]) .leaf .leaf) .leaf)) [p0] aw Tryz.func202 (by kernel_rfl) (by kernel_rfl) h


/- loop.example/prologserver/spec.l2Right : function 203 -/
def oX (p0 p1:Value) (w:World) (R:Ending->World->Prop):Prop:=
 RR (sOp (.box 32 (.const p0)) 0) w fun a0 b0=>
 RR (sOp (.load 32 (.const a0)) 32) b0 fun c0 d0=>
 RR (sCall (Value.func (.func 208) #[] #[]) [c0,p1]) d0 fun e0 f0=>
 (∃ g0:Value->World->Prop,(
 RR (sOp (.load 32 (.const a0)) 32) f0 fun h0 i0=>
 RR (sCall (Value.func (.func 207) #[] #[]) [h0]) i0 fun j0 k0=>
 GuardV j0 false (
 RR (sCall (Value.func (.func 209) #[] #[]) [e0]) k0 fun l0 m0=>
 RR (sOp (.unOp .not 4 (.const l0)) 4) m0 fun n0 o0=>
 RR (sOp (.pick (.const j0) (.const (Value.bool true)) (.const n0)) 4) o0 fun q0 s0=>
 g0 q0 s0) (
 RR (sOp (.pick (.const j0) (.const (Value.bool true)) (.const undef)) 4) k0 fun t0 u0=>
 g0 t0 u0))/\
 ∀ v0 _ _ _ _ _ _:Value,∀ w0:World,g0 v0 w0->
 CondV v0 (
 RR (sBin .add 9 true false (Value.string ⟨#[40]⟩) e0) w0 fun x0 y0=>
 RR (sBin .add 9 false true x0 (Value.string ⟨#[41]⟩)) y0 fun z0 A0=>
 R (.returned z0) A0) (
 R (.returned e0) w0))
theorem rO {p0 p1:Value} {w:World} {R:Ending->World->Prop} (h:oX p0 p1 w R):Calls Tryz.prog 203 #[p0,p1] w R:=
  calls_sh (.seq none .leaf (.seq none .leaf (.seq none (.seq (some [15]) .leaf .leaf) .leaf))) [p0,p1] aw Tryz.func203 (by kernel_rfl) (by kernel_rfl) h


/- loop.example/prologserver/spec.l2Args : function 204 -/
def qf (p0:Value) (w:World) (R:Ending->World->Prop):Prop:=
 (∃ (a0:Value->Value->World->Prop) (b0:Value->Value->World->Nat),a0 (Value.int .i64 0) (Value.string ⟨#[]⟩) w/\
 ∀ c0 _ _ _ _ _ _ _ _ _ d0 _ _ _ _ _ _ _ _:Value,∀ e0:World,a0 c0 d0 e0->
 RR (sBuiltin .len #[30] 3 [false] [p0]) e0 fun f0 g0=>
 RR (sBin .lss 3 false false c0 f0) g0 fun h0 i0=>
 CondV h0 (
 (∃ j0:Value->World->Prop,(
 RR (sBin .gtr 3 false true c0 (Value.int .i64 0)) i0 fun k0 l0=>
 CondV k0 (
 RR (sBin .add 9 false true d0 (Value.string ⟨#[44]⟩)) l0 fun m0 n0=>
 j0 m0 n0) (
 j0 d0 l0))/\
 ∀ o0 _ _ _ _:Value,∀ q0:World,j0 o0 q0->
 RR (sOp (.indexAddr 30 (.const p0) (.const c0)) 0) q0 fun s0 t0=>
 RR (sOp (.load 32 (.const s0)) 32) t0 fun u0 v0=>
 RR (sCall (Value.func (.func 191) #[] #[]) [u0]) v0 fun w0 x0=>
 RR (sBin .add 9 false false o0 w0) x0 fun y0 z0=>
 RR (sBin .add 3 false true c0 (Value.int .i64 1)) z0 fun A0 B0=>
 a0 A0 y0 B0/\b0 A0 y0 B0<b0 c0 d0 e0)) (
 R (.returned d0) i0))
theorem sD {p0:Value} {w:World} {R:Ending->World->Prop} (h:qf p0 w R):Calls Tryz.prog 204 #[p0] w R:=
  calls_sh (.seq none .leaf (.seq none .leaf (.seq none (.seq none .leaf (.one (.loop [4,3] (.seq none .leaf (.seq none (.one (.seq (some [3]) .leaf .leaf)) .leaf))))) .leaf))) [p0] aw Tryz.func204 (by kernel_rfl) (by kernel_rfl) h


/- loop.example/prologserver/spec.l1Text : function 205 -/
def qj (p0:Value) (w:World) (R:Ending->World->Prop):Prop:=
 RR (sOp (.box 32 (.const p0)) 0) w fun a0 b0=>
 RR (sOp (.fieldAddr 32 (.const a0) 0) 0) b0 fun c0 d0=>
 RR (sOp (.load 3 (.const c0)) 3) d0 fun e0 f0=>
 RR (sBin .eql 3 false true e0 (Value.int .i64 1)) f0 fun g0 h0=>
 CondV g0 (
 RR (sOp (.fieldAddr 32 (.const a0) 1) 0) h0 fun i0 j0=>
 RR (sOp (.load 3 (.const i0)) 3) j0 fun k0 l0=>
 RR (sCall (Value.func (.func 210) #[] #[]) [k0]) l0 fun m0 n0=>
 R (.returned m0) n0) (
 RR (sBin .eql 3 false true e0 (Value.int .i64 2)) h0 fun o0 q0=>
 CondV o0 (
 RR (sOp (.fieldAddr 32 (.const a0) 1) 0) q0 fun s0 t0=>
 RR (sOp (.load 3 (.const s0)) 3) t0 fun u0 v0=>
 RR (sCall (Value.func (.func 211) #[] #[]) [u0]) v0 fun w0 x0=>
 R (.returned w0) x0) (
 RR (sOp (.load 32 (.const a0)) 32) q0 fun y0 z0=>
 RR (sCall (Value.func (.func 198) #[] #[]) [y0]) z0 fun A0 B0=>
 CondV A0 (
 RR (sOp (.load 32 (.const a0)) 32) B0 fun C0 D0=>
 RR (sCall (Value.func (.func 212) #[] #[]) [C0]) D0 fun E0 F0=>
 R (.returned E0) F0) (
 RR (sOp (.fieldAddr 32 (.const a0) 2) 0) B0 fun G0 H0=>
 RR (sOp (.load 9 (.const G0)) 9) H0 fun I0 J0=>
 (∃ (K0:Value->Value->World->Prop) (L0:Value->Value->World->Nat),K0 (Value.int .i64 0) I0 J0/\
 ∀ M0 _ _ _ _ _ _ _ _ _ _ _ _ N0 _ _ _ _ _ _ _ _ _:Value,∀ O0:World,K0 M0 N0 O0->
 RR (sOp (.fieldAddr 32 (.const a0) 3) 0) O0 fun P0 Q0=>
 RR (sOp (.load 30 (.const P0)) 30) Q0 fun S0 T0=>
 RR (sBuiltin .len #[30] 3 [false] [S0]) T0 fun U0 V0=>
 RR (sBin .lss 3 false false M0 U0) V0 fun W0 X0=>
 CondV W0 (
 (∃ Y0:Value->World->Prop,(
 RR (sBin .eql 3 false true M0 (Value.int .i64 0)) X0 fun Z0 a1=>
 CondV Z0 (
 RR (sBin .add 9 false true N0 (Value.string ⟨#[40]⟩)) a1 fun b1 c1=>
 Y0 b1 c1) (
 RR (sBin .add 9 false true N0 (Value.string ⟨#[44]⟩)) a1 fun d1 e1=>
 Y0 d1 e1))/\
 ∀ _ _ f1 _ _ _ _:Value,∀ g1:World,Y0 f1 g1->
 RR (sOp (.fieldAddr 32 (.const a0) 3) 0) g1 fun h1 i1=>
 RR (sOp (.load 30 (.const h1)) 30) i1 fun j1 k1=>
 RR (sOp (.indexAddr 30 (.const j1) (.const M0)) 0) k1 fun l1 m1=>
 RR (sOp (.load 32 (.const l1)) 32) m1 fun n1 o1=>
 RR (sCall (Value.func (.func 205) #[] #[]) [n1]) o1 fun q1 s1=>
 RR (sBin .add 9 false false f1 q1) s1 fun t1 u1=>
 RR (sBin .add 3 false true M0 (Value.int .i64 1)) u1 fun v1 w1=>
 K0 v1 t1 w1/\L0 v1 t1 w1<L0 M0 N0 O0)) (
 (∃ x1:Value->World->Prop,(
 RR (sOp (.fieldAddr 32 (.const a0) 3) 0) X0 fun y1 z1=>
 RR (sOp (.load 30 (.const y1)) 30) z1 fun A1 B1=>
 RR (sBuiltin .len #[30] 3 [false] [A1]) B1 fun C1 D1=>
 RR (sBin .gtr 3 false true C1 (Value.int .i64 0)) D1 fun E1 F1=>
 CondV E1 (
 RR (sBin .add 9 false true N0 (Value.string ⟨#[41]⟩)) F1 fun G1 H1=>
 x1 G1 H1) (
 x1 N0 F1))/\
 ∀ I1 _ _ _ _ _ _:Value,∀ J1:World,x1 I1 J1->
 R (.returned I1) J1))))))
theorem sw {p0:Value} {w:World} {R:Ending->World->Prop} (h:qj p0 w R):Calls Tryz.prog 205 #[p0] w R:=
  calls_sh (.seq none .leaf (.seq none .leaf (.seq none .leaf (.seq none .leaf (.seq none (.seq none .leaf (.one (.loop [4,3] (.seq none .leaf (.seq none (.one (.seq (some [3]) .leaf .leaf)) .leaf))))) (.seq (some [3]) .leaf .leaf)))))) [p0] aw Tryz.func205 (by kernel_rfl) (by kernel_rfl) h


/- loop.example/prologserver/spec.l1Nil : function 206 -/
def tw (p0:Value) (w:World) (R:Ending->World->Prop):Prop:=
 RR (sOp (.box 32 (.const p0)) 0) w fun a0 b0=>
 RR (sOp (.fieldAddr 32 (.const a0) 0) 0) b0 fun c0 d0=>
 RR (sOp (.load 3 (.const c0)) 3) d0 fun e0 f0=>
 RR (sBin .eql 3 false true e0 (Value.int .i64 3)) f0 fun g0 h0=>
 GuardV g0 true (
 RR (sOp (.fieldAddr 32 (.const a0) 2) 0) h0 fun i0 j0=>
 RR (sOp (.load 9 (.const i0)) 9) j0 fun k0 l0=>
 RR (sBin .eql 9 false true k0 (Value.string ⟨#[91,93]⟩)) l0 fun m0 n0=>
 RR (sOp (.pick (.const g0) (.const m0) (.const (Value.bool false))) 4) n0 fun o0 q0=>
 GuardV o0 true (
 RR (sOp (.fieldAddr 32 (.const a0) 3) 0) q0 fun s0 t0=>
 RR (sOp (.load 30 (.const s0)) 30) t0 fun u0 v0=>
 RR (sBuiltin .len #[30] 3 [false] [u0]) v0 fun w0 x0=>
 RR (sBin .eql 3 false true w0 (Value.int .i64 0)) x0 fun y0 z0=>
 RR (sOp (.pick (.const o0) (.const y0) (.const (Value.bool false))) 4) z0 fun A0 B0=>
 R (.returned A0) B0) (
 RR (sOp (.pick (.const o0) (.const undef) (.const (Value.bool false))) 4) q0 fun C0 D0=>
 R (.returned C0) D0)) (
 RR (sOp (.pick (.const g0) (.const undef) (.const (Value.bool false))) 4) h0 fun E0 F0=>
 GuardV E0 true (
 RR (sOp (.fieldAddr 32 (.const a0) 3) 0) F0 fun G0 H0=>
 RR (sOp (.load 30 (.const G0)) 30) H0 fun I0 J0=>
 RR (sBuiltin .len #[30] 3 [false] [I0]) J0 fun K0 L0=>
 RR (sBin .eql 3 false true K0 (Value.int .i64 0)) L0 fun M0 N0=>
 RR (sOp (.pick (.const E0) (.const M0) (.const (Value.bool false))) 4) N0 fun O0 P0=>
 R (.returned O0) P0) (
 RR (sOp (.pick (.const E0) (.const undef) (.const (Value.bool false))) 4) F0 fun Q0 S0=>
 R (.returned Q0) S0))
theorem vx {p0:Value} {w:World} {R:Ending->World->Prop} (h:tw p0 w R):Calls Tryz.prog 206 #[p0] w R:=
  calls_sh .leaf [p0] aw Tryz.func206 (by kernel_rfl) (by kernel_rfl) h


/- loop.example/prologserver/spec.l2Sole : function 207 -/
def qB (p0:Value) (w:World) (R:Ending->World->Prop):Prop:=
 RR (sOp (.box 32 (.const p0)) 0) w fun a0 b0=>
 RR (sOp (.fieldAddr 32 (.const a0) 0) 0) b0 fun c0 d0=>
 RR (sOp (.load 3 (.const c0)) 3) d0 fun e0 f0=>
 RR (sBin .eql 3 false true e0 (Value.int .i64 3)) f0 fun g0 h0=>
 GuardV g0 true (
 RR (sOp (.fieldAddr 32 (.const a0) 3) 0) h0 fun i0 j0=>
 RR (sOp (.load 30 (.const i0)) 30) j0 fun k0 l0=>
 RR (sBuiltin .len #[30] 3 [false] [k0]) l0 fun m0 n0=>
 RR (sBin .eql 3 false true m0 (Value.int .i64 0)) n0 fun o0 q0=>
 RR (sOp (.pick (.const g0) (.const o0) (.const (Value.bool false))) 4) q0 fun s0 t0=>
 GuardV s0 true (
 RR (sOp (.fieldAddr 32 (.const a0) 2) 0) t0 fun u0 v0=>
 RR (sOp (.load 9 (.const u0)) 9) v0 fun w0 x0=>
 RR (sCall (Value.func (.func 156) #[] #[]) [w0]) x0 fun y0 z0=>
 RR (sBin .gtr 3 false true y0 (Value.int .i64 0)) z0 fun A0 B0=>
 RR (sOp (.pick (.const s0) (.const A0) (.const (Value.bool false))) 4) B0 fun C0 D0=>
 R (.returned C0) D0) (
 RR (sOp (.pick (.const s0) (.const undef) (.const (Value.bool false))) 4) t0 fun E0 F0=>
 R (.returned E0) F0)) (
 RR (sOp (.pick (.const g0) (.const undef) (.const (Value.bool false))) 4) h0 fun G0 H0=>
 GuardV G0 true (
 RR (sOp (.fieldAddr 32 (.const a0) 2) 0) H0 fun I0 J0=>
 RR (sOp (.load 9 (.const I0)) 9) J0 fun K0 L0=>
 RR (sCall (Value.func (.func 156) #[] #[]) [K0]) L0 fun M0 N0=>
 RR (sBin .gtr 3 false true M0 (Value.int .i64 0)) N0 fun O0 P0=>
 RR (sOp (.pick (.const G0) (.const O0) (.const (Value.bool false))) 4) P0 fun Q0 S0=>
 R (.returned Q0) S0) (
 RR (sOp (.pick (.const G0) (.const undef) (.const (Value.bool false))) 4) H0 fun T0 U0=>
 R (.returned T0) U0))
theorem sA {p0:Value} {w:World} {R:Ending->World->Prop} (h:qB p0 w R):Calls Tryz.prog 207 #[p0] w R:=
  calls_sh .leaf [p0] aw Tryz.func207 (by kernel_rfl) (by kernel_rfl) h


/- loop.example/prologserver/spec.l2Bracket : function 208 -/
def iH (p0 p1:Value) (w:World) (R:Ending->World->Prop):Prop:=
 RR (sOp (.box 32 (.const p0)) 0) w fun a0 b0=>
 (∃ c0:Value->World->Prop,(
 RR (sOp (.load 32 (.const a0)) 32) b0 fun d0 e0=>
 RR (sCall (Value.func (.func 200) #[] #[]) [d0]) e0 fun f0 g0=>
 GuardV f0 true (
 RR (sOp (.fieldAddr 32 (.const a0) 2) 0) g0 fun h0 i0=>
 RR (sOp (.load 9 (.const h0)) 9) i0 fun j0 k0=>
 RR (sCall (Value.func (.func 156) #[] #[]) [j0]) k0 fun l0 m0=>
 RR (sBin .gtr 3 false false l0 p1) m0 fun n0 o0=>
 RR (sOp (.pick (.const f0) (.const n0) (.const (Value.bool false))) 4) o0 fun q0 s0=>
 c0 q0 s0) (
 RR (sOp (.pick (.const f0) (.const undef) (.const (Value.bool false))) 4) g0 fun t0 u0=>
 c0 t0 u0))/\
 ∀ v0 _ _ _ _ _ _ _ _:Value,∀ w0:World,c0 v0 w0->
 CondV v0 (
 RR (sOp (.load 32 (.const a0)) 32) w0 fun x0 y0=>
 RR (sCall (Value.func (.func 191) #[] #[]) [x0]) y0 fun z0 A0=>
 RR (sBin .add 9 true false (Value.string ⟨#[40]⟩) z0) A0 fun B0 C0=>
 RR (sBin .add 9 false true B0 (Value.string ⟨#[41]⟩)) C0 fun D0 E0=>
 R (.returned D0) E0) (
 RR (sOp (.load 32 (.const a0)) 32) w0 fun F0 G0=>
 RR (sCall (Value.func (.func 191) #[] #[]) [F0]) G0 fun H0 I0=>
 R (.returned H0) I0))
theorem mF {p0 p1:Value} {w:World} {R:Ending->World->Prop} (h:iH p0 p1 w R):Calls Tryz.prog 208 #[p0,p1] w R:=
  calls_sh (.seq none .leaf (.seq none (.seq (some [13]) .leaf .leaf) .leaf)) [p0,p1] aw Tryz.func208 (by kernel_rfl) (by kernel_rfl) h


/- loop.example/prologserver/spec.l2Plain : function 209 -/
def oV (p0:Value) (w:World) (R:Ending->World->Prop):Prop:=
 RR (sCall (Value.func (.func 197) #[] #[]) [p0,(Value.int .i64 0)]) w fun a0 b0=>
 GuardV a0 false (
 RR (sCall (Value.func (.func 187) #[] #[]) [p0,(Value.int .i64 0)]) b0 fun c0 d0=>
 RR (sOp (.pick (.const a0) (.const (Value.bool true)) (.const c0)) 4) d0 fun e0 f0=>
 GuardV e0 false (
 RR (sOp (.index 9 (.const p0) (.const (Value.int .i64 0))) 5) f0 fun g0 h0=>
 RR (sBin .geq 5 false true g0 (Value.int .u8 65)) h0 fun i0 j0=>
 GuardV i0 true (
 RR (sOp (.index 9 (.const p0) (.const (Value.int .i64 0))) 5) j0 fun k0 l0=>
 RR (sBin .leq 5 false true k0 (Value.int .u8 90)) l0 fun m0 n0=>
 GuardV e0 false (
 RR (sOp (.pick (.const i0) (.const m0) (.const (Value.bool false))) 4) n0 fun o0 q0=>
 RR (sOp (.pick (.const e0) (.const (Value.bool true)) (.const o0)) 4) q0 fun s0 t0=>
 GuardV s0 false (
 RR (sOp (.index 9 (.const p0) (.const (Value.int .i64 0))) 5) t0 fun u0 v0=>
 RR (sBin .eql 5 false true u0 (Value.int .u8 91)) v0 fun w0 x0=>
 RR (sOp (.pick (.const s0) (.const (Value.bool true)) (.const w0)) 4) x0 fun y0 z0=>
 GuardV y0 false (
 RR (sOp (.index 9 (.const p0) (.const (Value.int .i64 0))) 5) z0 fun A0 B0=>
 RR (sBin .eql 5 false true A0 (Value.int .u8 40)) B0 fun C0 D0=>
 RR (sOp (.pick (.const y0) (.const (Value.bool true)) (.const C0)) 4) D0 fun E0 F0=>
 R (.returned E0) F0) (
 RR (sOp (.pick (.const y0) (.const (Value.bool true)) (.const undef)) 4) z0 fun G0 H0=>
 R (.returned G0) H0)) (
 RR (sOp (.pick (.const s0) (.const (Value.bool true)) (.const undef)) 4) t0 fun I0 J0=>
 GuardV I0 false (
 RR (sOp (.index 9 (.const p0) (.const (Value.int .i64 0))) 5) J0 fun K0 L0=>
 RR (sBin .eql 5 false true K0 (Value.int .u8 40)) L0 fun M0 N0=>
 RR (sOp (.pick (.const I0) (.const (Value.bool true)) (.const M0)) 4) N0 fun O0 P0=>
 R (.returned O0) P0) (
 RR (sOp (.pick (.const I0) (.const (Value.bool true)) (.const undef)) 4) J0 fun Q0 S0=>
 R (.returned Q0) S0))) (
 RR (sOp (.pick (.const e0) (.const (Value.bool true)) (.const undef)) 4) n0 fun T0 U0=>
 GuardV T0 false (
 RR (sOp (.index 9 (.const p0) (.const (Value.int .i64 0))) 5) U0 fun V0 W0=>
 RR (sBin .eql 5 false true V0 (Value.int .u8 91)) W0 fun X0 Y0=>
 RR (sOp (.pick (.const T0) (.const (Value.bool true)) (.const X0)) 4) Y0 fun Z0 a1=>
 GuardV Z0 false (
 RR (sOp (.index 9 (.const p0) (.const (Value.int .i64 0))) 5) a1 fun b1 c1=>
 RR (sBin .eql 5 false true b1 (Value.int .u8 40)) c1 fun d1 e1=>
 RR (sOp (.pick (.const Z0) (.const (Value.bool true)) (.const d1)) 4) e1 fun f1 g1=>
 R (.returned f1) g1) (
 RR (sOp (.pick (.const Z0) (.const (Value.bool true)) (.const undef)) 4) a1 fun h1 i1=>
 R (.returned h1) i1)) (
 RR (sOp (.pick (.const T0) (.const (Value.bool true)) (.const undef)) 4) U0 fun j1 k1=>
 GuardV j1 false (
 RR (sOp (.index 9 (.const p0) (.const (Value.int .i64 0))) 5) k1 fun l1 m1=>
 RR (sBin .eql 5 false true l1 (Value.int .u8 40)) m1 fun n1 o1=>
 RR (sOp (.pick (.const j1) (.const (Value.bool true)) (.const n1)) 4) o1 fun q1 s1=>
 R (.returned q1) s1) (
 RR (sOp (.pick (.const j1) (.const (Value.bool true)) (.const undef)) 4) k1 fun t1 u1=>
 R (.returned t1) u1)))) (
 GuardV e0 false (
 RR (sOp (.pick (.const i0) (.const undef) (.const (Value.bool false))) 4) j0 fun v1 w1=>
 RR (sOp (.pick (.const e0) (.const (Value.bool true)) (.const v1)) 4) w1 fun x1 y1=>
 GuardV x1 false (
 RR (sOp (.index 9 (.const p0) (.const (Value.int .i64 0))) 5) y1 fun z1 A1=>
 RR (sBin .eql 5 false true z1 (Value.int .u8 91)) A1 fun B1 C1=>
 RR (sOp (.pick (.const x1) (.const (Value.bool true)) (.const B1)) 4) C1 fun D1 E1=>
 GuardV D1 false (
 RR (sOp (.index 9 (.const p0) (.const (Value.int .i64 0))) 5) E1 fun F1 G1=>
 RR (sBin .eql 5 false true F1 (Value.int .u8 40)) G1 fun H1 I1=>
 RR (sOp (.pick (.const D1) (.const (Value.bool true)) (.const H1)) 4) I1 fun J1 K1=>
 R (.returned J1) K1) (
 RR (sOp (.pick (.const D1) (.const (Value.bool true)) (.const undef)) 4) E1 fun L1 M1=>
 R (.returned L1) M1)) (
 RR (sOp (.pick (.const x1) (.const (Value.bool true)) (.const undef)) 4) y1 fun N1 O1=>
 GuardV N1 false (
 RR (sOp (.index 9 (.const p0) (.const (Value.int .i64 0))) 5) O1 fun P1 Q1=>
 RR (sBin .eql 5 false true P1 (Value.int .u8 40)) Q1 fun S1 T1=>
 RR (sOp (.pick (.const N1) (.const (Value.bool true)) (.const S1)) 4) T1 fun U1 V1=>
 R (.returned U1) V1) (
 RR (sOp (.pick (.const N1) (.const (Value.bool true)) (.const undef)) 4) O1 fun W1 X1=>
 R (.returned W1) X1))) (
 RR (sOp (.pick (.const e0) (.const (Value.bool true)) (.const undef)) 4) j0 fun Y1 Z1=>
 GuardV Y1 false (
 RR (sOp (.index 9 (.const p0) (.const (Value.int .i64 0))) 5) Z1 fun a2 b2=>
 RR (sBin .eql 5 false true a2 (Value.int .u8 91)) b2 fun c2 d2=>
 RR (sOp (.pick (.const Y1) (.const (Value.bool true)) (.const c2)) 4) d2 fun e2 f2=>
 GuardV e2 false (
 RR (sOp (.index 9 (.const p0) (.const (Value.int .i64 0))) 5) f2 fun g2 h2=>
 RR (sBin .eql 5 false true g2 (Value.int .u8 40)) h2 fun i2 j2=>
 RR (sOp (.pick (.const e2) (.const (Value.bool true)) (.const i2)) 4) j2 fun k2 l2=>
 R (.returned k2) l2) (
 RR (sOp (.pick (.const e2) (.const (Value.bool true)) (.const undef)) 4) f2 fun m2 n2=>
 R (.returned m2) n2)) (
 RR (sOp (.pick (.const Y1) (.const (Value.bool true)) (.const undef)) 4) Z1 fun o2 q2=>
 GuardV o2 false (
 RR (sOp (.index 9 (.const p0) (.const (Value.int .i64 0))) 5) q2 fun s2 t2=>
 RR (sBin .eql 5 false true s2 (Value.int .u8 40)) t2 fun u2 v2=>
 RR (sOp (.pick (.const o2) (.const (Value.bool true)) (.const u2)) 4) v2 fun w2 x2=>
 R (.returned w2) x2) (
 RR (sOp (.pick (.const o2) (.const (Value.bool true)) (.const undef)) 4) q2 fun y2 z2=>
 R (.returned y2) z2))))) (
 GuardV undef true (
 RR (sOp (.index 9 (.const p0) (.const (Value.int .i64 0))) 5) f0 fun A2 B2=>
 RR (sBin .leq 5 false true A2 (Value.int .u8 90)) B2 fun C2 D2=>
 GuardV e0 false (
 RR (sOp (.pick (.const undef) (.const C2) (.const (Value.bool false))) 4) D2 fun E2 F2=>
 RR (sOp (.pick (.const e0) (.const (Value.bool true)) (.const E2)) 4) F2 fun G2 H2=>
 GuardV G2 false (
 RR (sOp (.index 9 (.const p0) (.const (Value.int .i64 0))) 5) H2 fun I2 J2=>
 RR (sBin .eql 5 false true I2 (Value.int .u8 91)) J2 fun K2 L2=>
 RR (sOp (.pick (.const G2) (.const (Value.bool true)) (.const K2)) 4) L2 fun M2 N2=>
 GuardV M2 false (
 RR (sOp (.index 9 (.const p0) (.const (Value.int .i64 0))) 5) N2 fun O2 P2=>
 RR (sBin .eql 5 false true O2 (Value.int .u8 40)) P2 fun Q2 S2=>
 RR (sOp (.pick (.const M2) (.const (Value.bool true)) (.const Q2)) 4) S2 fun T2 U2=>
 R (.returned T2) U2) (
 RR (sOp (.pick (.const M2) (.const (Value.bool true)) (.const undef)) 4) N2 fun V2 W2=>
 R (.returned V2) W2)) (
 RR (sOp (.pick (.const G2) (.const (Value.bool true)) (.const undef)) 4) H2 fun X2 Y2=>
 GuardV X2 false (
 RR (sOp (.index 9 (.const p0) (.const (Value.int .i64 0))) 5) Y2 fun Z2 a3=>
 RR (sBin .eql 5 false true Z2 (Value.int .u8 40)) a3 fun b3 c3=>
 RR (sOp (.pick (.const X2) (.const (Value.bool true)) (.const b3)) 4) c3 fun d3 e3=>
 R (.returned d3) e3) (
 RR (sOp (.pick (.const X2) (.const (Value.bool true)) (.const undef)) 4) Y2 fun f3 g3=>
 R (.returned f3) g3))) (
 RR (sOp (.pick (.const e0) (.const (Value.bool true)) (.const undef)) 4) D2 fun h3 i3=>
 GuardV h3 false (
 RR (sOp (.index 9 (.const p0) (.const (Value.int .i64 0))) 5) i3 fun j3 k3=>
 RR (sBin .eql 5 false true j3 (Value.int .u8 91)) k3 fun l3 m3=>
 RR (sOp (.pick (.const h3) (.const (Value.bool true)) (.const l3)) 4) m3 fun n3 o3=>
 GuardV n3 false (
 RR (sOp (.index 9 (.const p0) (.const (Value.int .i64 0))) 5) o3 fun q3 s3=>
 RR (sBin .eql 5 false true q3 (Value.int .u8 40)) s3 fun t3 u3=>
 RR (sOp (.pick (.const n3) (.const (Value.bool true)) (.const t3)) 4) u3 fun v3 w3=>
 R (.returned v3) w3) (
 RR (sOp (.pick (.const n3) (.const (Value.bool true)) (.const undef)) 4) o3 fun x3 y3=>
 R (.returned x3) y3)) (
 RR (sOp (.pick (.const h3) (.const (Value.bool true)) (.const undef)) 4) i3 fun z3 A3=>
 GuardV z3 false (
 RR (sOp (.index 9 (.const p0) (.const (Value.int .i64 0))) 5) A3 fun B3 C3=>
 RR (sBin .eql 5 false true B3 (Value.int .u8 40)) C3 fun D3 E3=>
 RR (sOp (.pick (.const z3) (.const (Value.bool true)) (.const D3)) 4) E3 fun F3 G3=>
 R (.returned F3) G3) (
 RR (sOp (.pick (.const z3) (.const (Value.bool true)) (.const undef)) 4) A3 fun H3 I3=>
 R (.returned H3) I3)))) (
 GuardV e0 false (
 RR (sOp (.pick (.const undef) (.const undef) (.const (Value.bool false))) 4) f0 fun J3 K3=>
 RR (sOp (.pick (.const e0) (.const (Value.bool true)) (.const J3)) 4) K3 fun L3 M3=>
 GuardV L3 false (
 RR (sOp (.index 9 (.const p0) (.const (Value.int .i64 0))) 5) M3 fun N3 O3=>
 RR (sBin .eql 5 false true N3 (Value.int .u8 91)) O3 fun P3 Q3=>
 RR (sOp (.pick (.const L3) (.const (Value.bool true)) (.const P3)) 4) Q3 fun S3 T3=>
 GuardV S3 false (
 RR (sOp (.index 9 (.const p0) (.const (Value.int .i64 0))) 5) T3 fun U3 V3=>
 RR (sBin .eql 5 false true U3 (Value.int .u8 40)) V3 fun W3 X3=>
 RR (sOp (.pick (.const S3) (.const (Value.bool true)) (.const W3)) 4) X3 fun Y3 Z3=>
 R (.returned Y3) Z3) (
 RR (sOp (.pick (.const S3) (.const (Value.bool true)) (.const undef)) 4) T3 fun a4 b4=>
 R (.returned a4) b4)) (
 RR (sOp (.pick (.const L3) (.const (Value.bool true)) (.const undef)) 4) M3 fun c4 d4=>
 GuardV c4 false (
 RR (sOp (.index 9 (.const p0) (.const (Value.int .i64 0))) 5) d4 fun e4 f4=>
 RR (sBin .eql 5 false true e4 (Value.int .u8 40)) f4 fun g4 h4=>
 RR (sOp (.pick (.const c4) (.const (Value.bool true)) (.const g4)) 4) h4 fun i4 j4=>
 R (.returned i4) j4) (
 RR (sOp (.pick (.const c4) (.const (Value.bool true)) (.const undef)) 4) d4 fun k4 l4=>
 R (.returned k4) l4))) (
 RR (sOp (.pick (.const e0) (.const (Value.bool true)) (.const undef)) 4) f0 fun m4 n4=>
 GuardV m4 false (
 RR (sOp (.index 9 (.const p0) (.const (Value.int .i64 0))) 5) n4 fun o4 q4=>
 RR (sBin .eql 5 false true o4 (Value.int .u8 91)) q4 fun s4 t4=>
 RR (sOp (.pick (.const m4) (.const (Value.bool true)) (.const s4)) 4) t4 fun u4 v4=>
 GuardV u4 false (
 RR (sOp (.index 9 (.const p0) (.const (Value.int .i64 0))) 5) v4 fun w4 x4=>
 RR (sBin .eql 5 false true w4 (Value.int .u8 40)) x4 fun y4 z4=>
 RR (sOp (.pick (.const u4) (.const (Value.bool true)) (.const y4)) 4) z4 fun A4 B4=>
 R (.returned A4) B4) (
 RR (sOp (.pick (.const u4) (.const (Value.bool true)) (.const undef)) 4) v4 fun C4 D4=>
 R (.returned C4) D4)) (
 RR (sOp (.pick (.const m4) (.const (Value.bool true)) (.const undef)) 4) n4 fun E4 F4=>
 GuardV E4 false (
 RR (sOp (.index 9 (.const p0) (.const (Value.int .i64 0))) 5) F4 fun G4 H4=>
 RR (sBin .eql 5 false true G4 (Value.int .u8 40)) H4 fun I4 J4=>
 RR (sOp (.pick (.const E4) (.const (Value.bool true)) (.const I4)) 4) J4 fun K4 L4=>
 R (.returned K4) L4) (
 RR (sOp (.pick (.const E4) (.const (Value.bool true)) (.const undef)) 4) F4 fun M4 N4=>
 R (.returned M4) N4)))))) (
 RR (sOp (.pick (.const a0) (.const (Value.bool true)) (.const undef)) 4) b0 fun O4 P4=>
 GuardV O4 false (
 RR (sOp (.index 9 (.const p0) (.const (Value.int .i64 0))) 5) P4 fun Q4 S4=>
 RR (sBin .geq 5 false true Q4 (Value.int .u8 65)) S4 fun T4 U4=>
 GuardV T4 true (
 RR (sOp (.index 9 (.const p0) (.const (Value.int .i64 0))) 5) U4 fun V4 W4=>
 RR (sBin .leq 5 false true V4 (Value.int .u8 90)) W4 fun X4 Y4=>
 GuardV O4 false (
 RR (sOp (.pick (.const T4) (.const X4) (.const (Value.bool false))) 4) Y4 fun Z4 a5=>
 RR (sOp (.pick (.const O4) (.const (Value.bool true)) (.const Z4)) 4) a5 fun b5 c5=>
 GuardV b5 false (
 RR (sOp (.index 9 (.const p0) (.const (Value.int .i64 0))) 5) c5 fun d5 e5=>
 RR (sBin .eql 5 false true d5 (Value.int .u8 91)) e5 fun f5 g5=>
 RR (sOp (.pick (.const b5) (.const (Value.bool true)) (.const f5)) 4) g5 fun h5 i5=>
 GuardV h5 false (
 RR (sOp (.index 9 (.const p0) (.const (Value.int .i64 0))) 5) i5 fun j5 k5=>
 RR (sBin .eql 5 false true j5 (Value.int .u8 40)) k5 fun l5 m5=>
 RR (sOp (.pick (.const h5) (.const (Value.bool true)) (.const l5)) 4) m5 fun n5 o5=>
 R (.returned n5) o5) (
 RR (sOp (.pick (.const h5) (.const (Value.bool true)) (.const undef)) 4) i5 fun q5 s5=>
 R (.returned q5) s5)) (
 RR (sOp (.pick (.const b5) (.const (Value.bool true)) (.const undef)) 4) c5 fun t5 u5=>
 GuardV t5 false (
 RR (sOp (.index 9 (.const p0) (.const (Value.int .i64 0))) 5) u5 fun v5 w5=>
 RR (sBin .eql 5 false true v5 (Value.int .u8 40)) w5 fun x5 y5=>
 RR (sOp (.pick (.const t5) (.const (Value.bool true)) (.const x5)) 4) y5 fun z5 A5=>
 R (.returned z5) A5) (
 RR (sOp (.pick (.const t5) (.const (Value.bool true)) (.const undef)) 4) u5 fun B5 C5=>
 R (.returned B5) C5))) (
 RR (sOp (.pick (.const O4) (.const (Value.bool true)) (.const undef)) 4) Y4 fun D5 E5=>
 GuardV D5 false (
 RR (sOp (.index 9 (.const p0) (.const (Value.int .i64 0))) 5) E5 fun F5 G5=>
 RR (sBin .eql 5 false true F5 (Value.int .u8 91)) G5 fun H5 I5=>
 RR (sOp (.pick (.const D5) (.const (Value.bool true)) (.const H5)) 4) I5 fun J5 K5=>
 GuardV J5 false (
 RR (sOp (.index 9 (.const p0) (.const (Value.int .i64 0))) 5) K5 fun L5 M5=>
 RR (sBin .eql 5 false true L5 (Value.int .u8 40)) M5 fun N5 O5=>
 RR (sOp (.pick (.const J5) (.const (Value.bool true)) (.const N5)) 4) O5 fun P5 Q5=>
 R (.returned P5) Q5) (
 RR (sOp (.pick (.const J5) (.const (Value.bool true)) (.const undef)) 4) K5 fun S5 T5=>
 R (.returned S5) T5)) (
 RR (sOp (.pick (.const D5) (.const (Value.bool true)) (.const undef)) 4) E5 fun U5 V5=>
 GuardV U5 false (
 RR (sOp (.index 9 (.const p0) (.const (Value.int .i64 0))) 5) V5 fun W5 X5=>
 RR (sBin .eql 5 false true W5 (Value.int .u8 40)) X5 fun Y5 Z5=>
 RR (sOp (.pick (.const U5) (.const (Value.bool true)) (.const Y5)) 4) Z5 fun a6 b6=>
 R (.returned a6) b6) (
 RR (sOp (.pick (.const U5) (.const (Value.bool true)) (.const undef)) 4) V5 fun c6 d6=>
 R (.returned c6) d6)))) (
 GuardV O4 false (
 RR (sOp (.pick (.const T4) (.const undef) (.const (Value.bool false))) 4) U4 fun e6 f6=>
 RR (sOp (.pick (.const O4) (.const (Value.bool true)) (.const e6)) 4) f6 fun g6 h6=>
 GuardV g6 false (
 RR (sOp (.index 9 (.const p0) (.const (Value.int .i64 0))) 5) h6 fun i6 j6=>
 RR (sBin .eql 5 false true i6 (Value.int .u8 91)) j6 fun k6 l6=>
 RR (sOp (.pick (.const g6) (.const (Value.bool true)) (.const k6)) 4) l6 fun m6 n6=>
 GuardV m6 false (
 RR (sOp (.index 9 (.const p0) (.const (Value.int .i64 0))) 5) n6 fun o6 q6=>
 RR (sBin .eql 5 false true o6 (Value.int .u8 40)) q6 fun s6 t6=>
 RR (sOp (.pick (.const m6) (.const (Value.bool true)) (.const s6)) 4) t6 fun u6 v6=>
 R (.returned u6) v6) (
 RR (sOp (.pick (.const m6) (.const (Value.bool true)) (.const undef)) 4) n6 fun w6 x6=>
 R (.returned w6) x6)) (
 RR (sOp (.pick (.const g6) (.const (Value.bool true)) (.const undef)) 4) h6 fun y6 z6=>
 GuardV y6 false (
 RR (sOp (.index 9 (.const p0) (.const (Value.int .i64 0))) 5) z6 fun A6 B6=>
 RR (sBin .eql 5 false true A6 (Value.int .u8 40)) B6 fun C6 D6=>
 RR (sOp (.pick (.const y6) (.const (Value.bool true)) (.const C6)) 4) D6 fun E6 F6=>
 R (.returned E6) F6) (
 RR (sOp (.pick (.const y6) (.const (Value.bool true)) (.const undef)) 4) z6 fun G6 H6=>
 R (.returned G6) H6))) (
 RR (sOp (.pick (.const O4) (.const (Value.bool true)) (.const undef)) 4) U4 fun I6 J6=>
 GuardV I6 false (
 RR (sOp (.index 9 (.const p0) (.const (Value.int .i64 0))) 5) J6 fun K6 L6=>
 RR (sBin .eql 5 false true K6 (Value.int .u8 91)) L6 fun M6 N6=>
 RR (sOp (.pick (.const I6) (.const (Value.bool true)) (.const M6)) 4) N6 fun O6 P6=>
 GuardV O6 false (
 RR (sOp (.index 9 (.const p0) (.const (Value.int .i64 0))) 5) P6 fun Q6 S6=>
 RR (sBin .eql 5 false true Q6 (Value.int .u8 40)) S6 fun T6 U6=>
 RR (sOp (.pick (.const O6) (.const (Value.bool true)) (.const T6)) 4) U6 fun V6 W6=>
 R (.returned V6) W6) (
 RR (sOp (.pick (.const O6) (.const (Value.bool true)) (.const undef)) 4) P6 fun X6 Y6=>
 R (.returned X6) Y6)) (
 RR (sOp (.pick (.const I6) (.const (Value.bool true)) (.const undef)) 4) J6 fun Z6 a7=>
 GuardV Z6 false (
 RR (sOp (.index 9 (.const p0) (.const (Value.int .i64 0))) 5) a7 fun b7 c7=>
 RR (sBin .eql 5 false true b7 (Value.int .u8 40)) c7 fun d7 e7=>
 RR (sOp (.pick (.const Z6) (.const (Value.bool true)) (.const d7)) 4) e7 fun f7 g7=>
 R (.returned f7) g7) (
 RR (sOp (.pick (.const Z6) (.const (Value.bool true)) (.const undef)) 4) a7 fun h7 i7=>
 R (.returned h7) i7))))) (
 GuardV undef true (
 RR (sOp (.index 9 (.const p0) (.const (Value.int .i64 0))) 5) P4 fun j7 k7=>
 RR (sBin .leq 5 false true j7 (Value.int .u8 90)) k7 fun l7 m7=>
 GuardV O4 false (
 RR (sOp (.pick (.const undef) (.const l7) (.const (Value.bool false))) 4) m7 fun n7 o7=>
 RR (sOp (.pick (.const O4) (.const (Value.bool true)) (.const n7)) 4) o7 fun q7 s7=>
 GuardV q7 false (
 RR (sOp (.index 9 (.const p0) (.const (Value.int .i64 0))) 5) s7 fun t7 u7=>
 RR (sBin .eql 5 false true t7 (Value.int .u8 91)) u7 fun v7 w7=>
 RR (sOp (.pick (.const q7) (.const (Value.bool true)) (.const v7)) 4) w7 fun x7 y7=>
 GuardV x7 false (
 RR (sOp (.index 9 (.const p0) (.const (Value.int .i64 0))) 5) y7 fun z7 A7=>
 RR (sBin .eql 5 false true z7 (Value.int .u8 40)) A7 fun B7 C7=>
 RR (sOp (.pick (.const x7) (.const (Value.bool true)) (.const B7)) 4) C7 fun D7 E7=>
 R (.returned D7) E7) (
 RR (sOp (.pick (.const x7) (.const (Value.bool true)) (.const undef)) 4) y7 fun F7 G7=>
 R (.returned F7) G7)) (
 RR (sOp (.pick (.const q7) (.const (Value.bool true)) (.const undef)) 4) s7 fun H7 I7=>
 GuardV H7 false (
 RR (sOp (.index 9 (.const p0) (.const (Value.int .i64 0))) 5) I7 fun J7 K7=>
 RR (sBin .eql 5 false true J7 (Value.int .u8 40)) K7 fun L7 M7=>
 RR (sOp (.pick (.const H7) (.const (Value.bool true)) (.const L7)) 4) M7 fun N7 O7=>
 R (.returned N7) O7) (
 RR (sOp (.pick (.const H7) (.const (Value.bool true)) (.const undef)) 4) I7 fun P7 Q7=>
 R (.returned P7) Q7))) (
 RR (sOp (.pick (.const O4) (.const (Value.bool true)) (.const undef)) 4) m7 fun S7 T7=>
 GuardV S7 false (
 RR (sOp (.index 9 (.const p0) (.const (Value.int .i64 0))) 5) T7 fun U7 V7=>
 RR (sBin .eql 5 false true U7 (Value.int .u8 91)) V7 fun W7 X7=>
 RR (sOp (.pick (.const S7) (.const (Value.bool true)) (.const W7)) 4) X7 fun Y7 Z7=>
 GuardV Y7 false (
 RR (sOp (.index 9 (.const p0) (.const (Value.int .i64 0))) 5) Z7 fun a8 b8=>
 RR (sBin .eql 5 false true a8 (Value.int .u8 40)) b8 fun c8 d8=>
 RR (sOp (.pick (.const Y7) (.const (Value.bool true)) (.const c8)) 4) d8 fun e8 f8=>
 R (.returned e8) f8) (
 RR (sOp (.pick (.const Y7) (.const (Value.bool true)) (.const undef)) 4) Z7 fun g8 h8=>
 R (.returned g8) h8)) (
 RR (sOp (.pick (.const S7) (.const (Value.bool true)) (.const undef)) 4) T7 fun i8 j8=>
 GuardV i8 false (
 RR (sOp (.index 9 (.const p0) (.const (Value.int .i64 0))) 5) j8 fun k8 l8=>
 RR (sBin .eql 5 false true k8 (Value.int .u8 40)) l8 fun m8 n8=>
 RR (sOp (.pick (.const i8) (.const (Value.bool true)) (.const m8)) 4) n8 fun o8 q8=>
 R (.returned o8) q8) (
 RR (sOp (.pick (.const i8) (.const (Value.bool true)) (.const undef)) 4) j8 fun s8 t8=>
 R (.returned s8) t8)))) (
 GuardV O4 false (
 RR (sOp (.pick (.const undef) (.const undef) (.const (Value.bool false))) 4) P4 fun u8 v8=>
 RR (sOp (.pick (.const O4) (.const (Value.bool true)) (.const u8)) 4) v8 fun w8 x8=>
 GuardV w8 false (
 RR (sOp (.index 9 (.const p0) (.const (Value.int .i64 0))) 5) x8 fun y8 z8=>
 RR (sBin .eql 5 false true y8 (Value.int .u8 91)) z8 fun A8 B8=>
 RR (sOp (.pick (.const w8) (.const (Value.bool true)) (.const A8)) 4) B8 fun C8 D8=>
 GuardV C8 false (
 RR (sOp (.index 9 (.const p0) (.const (Value.int .i64 0))) 5) D8 fun E8 F8=>
 RR (sBin .eql 5 false true E8 (Value.int .u8 40)) F8 fun G8 H8=>
 RR (sOp (.pick (.const C8) (.const (Value.bool true)) (.const G8)) 4) H8 fun I8 J8=>
 R (.returned I8) J8) (
 RR (sOp (.pick (.const C8) (.const (Value.bool true)) (.const undef)) 4) D8 fun K8 L8=>
 R (.returned K8) L8)) (
 RR (sOp (.pick (.const w8) (.const (Value.bool true)) (.const undef)) 4) x8 fun M8 N8=>
 GuardV M8 false (
 RR (sOp (.index 9 (.const p0) (.const (Value.int .i64 0))) 5) N8 fun O8 P8=>
 RR (sBin .eql 5 false true O8 (Value.int .u8 40)) P8 fun Q8 S8=>
 RR (sOp (.pick (.const M8) (.const (Value.bool true)) (.const Q8)) 4) S8 fun T8 U8=>
 R (.returned T8) U8) (
 RR (sOp (.pick (.const M8) (.const (Value.bool true)) (.const undef)) 4) N8 fun V8 W8=>
 R (.returned V8) W8))) (
 RR (sOp (.pick (.const O4) (.const (Value.bool true)) (.const undef)) 4) P4 fun X8 Y8=>
 GuardV X8 false (
 RR (sOp (.index 9 (.const p0) (.const (Value.int .i64 0))) 5) Y8 fun Z8 a9=>
 RR (sBin .eql 5 false true Z8 (Value.int .u8 91)) a9 fun b9 c9=>
 RR (sOp (.pick (.const X8) (.const (Value.bool true)) (.const b9)) 4) c9 fun d9 e9=>
 GuardV d9 false (
 RR (sOp (.index 9 (.const p0) (.const (Value.int .i64 0))) 5) e9 fun f9 g9=>
 RR (sBin .eql 5 false true f9 (Value.int .u8 40)) g9 fun h9 i9=>
 RR (sOp (.pick (.const d9) (.const (Value.bool true)) (.const h9)) 4) i9 fun j9 k9=>
 R (.returned j9) k9) (
 RR (sOp (.pick (.const d9) (.const (Value.bool true)) (.const undef)) 4) e9 fun l9 m9=>
 R (.returned l9) m9)) (
 RR (sOp (.pick (.const X8) (.const (Value.bool true)) (.const undef)) 4) Y8 fun n9 o9=>
 GuardV n9 false (
 RR (sOp (.index 9 (.const p0) (.const (Value.int .i64 0))) 5) o9 fun q9 s9=>
 RR (sBin .eql 5 false true q9 (Value.int .u8 40)) s9 fun t9 u9=>
 RR (sOp (.pick (.const n9) (.const (Value.bool true)) (.const t9)) 4) u9 fun v9 w9=>
 R (.returned v9) w9) (
 RR (sOp (.pick (.const n9) (.const (Value.bool true)) (.const undef)) 4) o9 fun x9 y9=>
 R (.returned x9) y9))))))
theorem rS {p0:Value} {w:World} {R:Ending->World->Prop} (h:oV p0 w R):Calls Tryz.prog 209 #[p0] w R:=
  calls_sh .leaf [p0] aw Tryz.func209 (by kernel_rfl) (by kernel_rfl) h


/- loop.example/prologserver/spec.l1Letter : function 210 -/
def lG (p0:Value) (w:World) (R:Ending->World->Prop):Prop:=
 RR (sOp (.convert 3 5 (.const p0)) 5) w fun a0 b0=>
 RR (sBin .add 5 true false (Value.int .u8 65) a0) b0 fun c0 d0=>
 RR (sBuildSlice 22 1 [(0,c0)]) d0 fun e0 f0=>
 RR (sOp (.convert 22 9 (.const e0)) 9) f0 fun g0 h0=>
 R (.returned g0) h0
theorem pY {p0:Value} {w:World} {R:Ending->World->Prop} (h:lG p0 w R):Calls Tryz.prog 210 #[p0] w R:=
  calls_sh .leaf [p0] aw Tryz.func210 (by kernel_rfl) (by kernel_rfl) h


/- loop.example/prologserver/spec.l1Dec : function 211 -/
def sU (p0:Value) (w:World) (R:Ending->World->Prop):Prop:=
 RR (sBin .lss 3 false true p0 (Value.int .i64 0)) w fun a0 b0=>
 CondV a0 (
 RR (sOp (.unOp .neg 3 (.const p0)) 3) b0 fun c0 d0=>
 RR (sCall (Value.func (.func 213) #[] #[]) [c0]) d0 fun e0 f0=>
 RR (sBin .add 9 true false (Value.string ⟨#[45]⟩) e0) f0 fun g0 h0=>
 R (.returned g0) h0) (
 RR (sCall (Value.func (.func 213) #[] #[]) [p0]) b0 fun i0 j0=>
 R (.returned i0) j0)
theorem uS {p0:Value} {w:World} {R:Ending->World->Prop} (h:sU p0 w R):Calls Tryz.prog 211 #[p0] w R:=
  calls_sh .leaf [p0] aw Tryz.func211 (by kernel_rfl) (by kernel_rfl) h


/- loop.example/prologserver/spec.l18Dec : function 213 -/
def qH (p0:Value) (w:World) (R:Ending->World->Prop):Prop:=
 RR (sBin .lss 3 false true p0 (Value.int .i64 (-9223372036854775807))) w fun a0 b0=>
 CondV a0 (
 R (.returned (Value.string ⟨#[45,57,50,50,51,51,55,50,48,51,54,56,53,52,55,55,53,56,48,56]⟩)) b0) (
 RR (sBin .lss 3 false true p0 (Value.int .i64 0)) b0 fun c0 d0=>
 CondV c0 (
 RR (sOp (.unOp .neg 3 (.const p0)) 3) d0 fun e0 f0=>
 RR (sCall (Value.func (.func 213) #[] #[]) [e0]) f0 fun g0 h0=>
 RR (sBin .add 9 true false (Value.string ⟨#[45]⟩) g0) h0 fun i0 j0=>
 R (.returned i0) j0) (
 (∃ (k0:Value->Value->World->Prop) (l0:Value->Value->World->Nat),k0 p0 (Value.string ⟨#[]⟩) d0/\
 ∀ m0 _ _ n0 _ _ _ _ _ _ _ _ _ _:Value,∀ o0:World,k0 m0 n0 o0->
 RR (sBin .gtr 3 false true m0 (Value.int .i64 9)) o0 fun q0 s0=>
 CondV q0 (
 RR (sBin .rem 3 false true m0 (Value.int .i64 10)) s0 fun t0 u0=>
 RR (sBin .add 3 true false (Value.int .i64 48) t0) u0 fun v0 w0=>
 RR (sOp (.convert 3 5 (.const v0)) 5) w0 fun x0 y0=>
 RR (sBuildSlice 22 1 [(0,x0)]) y0 fun z0 A0=>
 RR (sOp (.convert 22 9 (.const z0)) 9) A0 fun B0 C0=>
 RR (sBin .add 9 false false B0 n0) C0 fun D0 E0=>
 RR (sBin .quo 3 false true m0 (Value.int .i64 10)) E0 fun F0 G0=>
 k0 F0 D0 G0/\l0 F0 D0 G0<l0 m0 n0 o0) (
 RR (sBin .add 3 true false (Value.int .i64 48) m0) s0 fun H0 I0=>
 RR (sOp (.convert 3 5 (.const H0)) 5) I0 fun J0 K0=>
 RR (sBuildSlice 22 1 [(0,J0)]) K0 fun L0 M0=>
 RR (sOp (.convert 22 9 (.const L0)) 9) M0 fun N0 O0=>
 RR (sBin .add 9 false false N0 n0) O0 fun P0 Q0=>
 R (.returned P0) Q0))))
theorem tG {p0:Value} {w:World} {R:Ending->World->Prop} (h:qH p0 w R):Calls Tryz.prog 213 #[p0] w R:=
  calls_sh (.seq none .leaf (.seq none .leaf (.seq none .leaf (.seq none .leaf (.seq none (.one (.loop [0,3] .leaf)) .leaf))))) [p0] aw Tryz.func213 (by kernel_rfl) (by kernel_rfl) h

end Go.Proofs.YtmnnpgdeecnfpaaGreat

/- Made by program: the functions in a shallow form; each form gives Calls. -/
import Derived.Test.YtmnnpgdeecnfpaaGreatVcCalls
import Derived.Test.YtmnnpgdeecnfpaaGreatProg
import Derived.KernelRfl
set_option maxRecDepth 100000
namespace Go.Proofs.YtmnnpgdeecnfpaaGreat
open Go
theorem aB:Tryz.prog.follows .mixedOrders=true:=by kernel_rfl
abbrev RR:=Run Tryz.prog
/- loop.example/prologserver/laws.FnSubsumedClause : function 4 -/
def cM (p0 p1:Value) (w:World) (R:Ending->World->Prop):Prop:=
 (∃ a0:Value->World->Prop,(
 RR (sBuiltin .len #[22] 3 [false] [p0]) w fun b0 c0=>
 RR (sBin .gtr 3 false true b0 (Value.int .i64 1048576)) c0 fun d0 e0=>
 GuardV d0 false (
 RR (sBuiltin .len #[22] 3 [false] [p1]) e0 fun f0 g0=>
 RR (sBin .gtr 3 false true f0 (Value.int .i64 1048576)) g0 fun h0 i0=>
 RR (sOp (.pick (.const d0) (.const (Value.bool true)) (.const h0)) 4) i0 fun j0 k0=>
 a0 j0 k0) (
 RR (sOp (.pick (.const d0) (.const (Value.bool true)) (.const undef)) 4) e0 fun l0 m0=>
 a0 l0 m0))/\
 ∀ n0 _ _ _ _ _ _ _:Value,∀ o0:World,a0 n0 o0->
 CondV n0 (
 R (.returned (Value.bool true)) o0) (
 RR (sCall (Value.func (.func 19) #[] #[]) [p0]) o0 fun q0 s0=>
 RR (sOp (.extract (.const q0) 0) 34) s0 fun t0 u0=>
 RR (sOp (.extract (.const q0) 1) 34) u0 fun v0 w0=>
 RR (sOp (.alloc 34) 0) w0 fun x0 y0=>
 RR (sOp (.alloc 34) 0) y0 fun z0 A0=>
 RR (sOp (.store 34 (.const x0) (.const t0)) 0) A0 fun _u B0=>
 RR (sOp (.store 34 (.const z0) (.const v0)) 0) B0 fun _u C0=>
 RR (sOp (.load 34 (.const x0)) 34) C0 fun D0 E0=>
 RR (sOp (.load 34 (.const z0)) 34) E0 fun F0 G0=>
 RR (sCall (Value.func (.func 20) #[] #[]) [D0,F0]) G0 fun H0 I0=>
 (∃ J0:(Nat->Bool)->Value->Value->Value->Value->Value->Value->Value->Value->Value->Value->Value->Value->Value->Value->Value->Value->Value->World->Prop,J0 (fun _=>false) undef undef undef undef undef undef undef undef undef undef undef undef undef undef undef undef undef { I0 with drawn:=I0.drawn+1 }/\(
 (∀ K0:Nat->Bool,K0 0=false->∀ L0 M0 N0 O0 P0 Q0 S0 T0 U0 V0 W0 X0 Y0 Z0 a1 b1 c1 d1,J0 K0 L0 M0 N0 O0 P0 Q0 S0 T0 U0 V0 W0 X0 Y0 Z0 a1 b1 c1 d1->
 J0 (setD K0 0) L0 M0 N0 O0 P0 Q0 S0 T0 U0 V0 W0 X0 Y0 Z0 a1 b1 H0 d1)/\
 (∀ K0:Nat->Bool,K0 1=false->∀ L0 M0 N0 O0 P0 Q0 S0 T0 U0 V0 W0 X0 Y0 Z0 a1 b1 c1 e1,J0 K0 L0 M0 N0 O0 P0 Q0 S0 T0 U0 V0 W0 X0 Y0 Z0 a1 b1 c1 e1->
 RR (sOp (.load 34 (.const x0)) 34) e1 fun f1 g1=>
 J0 (setD K0 1) L0 M0 N0 O0 P0 Q0 S0 T0 U0 V0 W0 X0 Y0 Z0 a1 f1 c1 g1)/\
 (∀ K0:Nat->Bool,K0 2=false->∀ L0 M0 N0 O0 P0 Q0 S0 T0 U0 V0 W0 X0 Y0 Z0 a1 b1 c1 h1,J0 K0 L0 M0 N0 O0 P0 Q0 S0 T0 U0 V0 W0 X0 Y0 Z0 a1 b1 c1 h1->
 RR (sOp (.load 34 (.const z0)) 34) h1 fun i1 j1=>
 J0 (setD K0 2) L0 M0 N0 O0 P0 Q0 S0 T0 U0 V0 W0 X0 Y0 Z0 i1 b1 c1 j1)/\
 (∀ K0:Nat->Bool,K0 3=false->K0 1=true->K0 2=true->∀ L0 M0 N0 O0 P0 Q0 S0 T0 U0 V0 W0 X0 Y0 Z0 a1 b1 c1 k1,J0 K0 L0 M0 N0 O0 P0 Q0 S0 T0 U0 V0 W0 X0 Y0 Z0 a1 b1 c1 k1->
 RR (sCall (Value.func (.func 21) #[] #[]) [b1,a1]) k1 fun l1 m1=>
 J0 (setD K0 3) L0 M0 N0 O0 P0 Q0 S0 T0 U0 V0 W0 X0 Y0 l1 a1 b1 c1 m1)/\
 (∀ K0:Nat->Bool,K0 4=false->K0 0=true->K0 3=true->∀ L0 M0 N0 O0 P0 Q0 S0 T0 U0 V0 W0 X0 Y0 Z0 a1 b1 c1 n1,J0 K0 L0 M0 N0 O0 P0 Q0 S0 T0 U0 V0 W0 X0 Y0 Z0 a1 b1 c1 n1->
 RR (sBin .neq 4 false false c1 Z0) n1 fun o1 q1=>
 J0 (setD K0 4) L0 M0 N0 O0 P0 Q0 S0 T0 U0 V0 W0 X0 o1 Z0 a1 b1 c1 q1)/\
 (∀ K0:Nat->Bool,K0 5=false->K0 4=true->K0 3=true->∀ L0 M0 N0 O0 P0 Q0 S0 T0 U0 V0 W0 X0 Y0 Z0 a1 b1 c1 s1,J0 K0 L0 M0 N0 O0 P0 Q0 S0 T0 U0 V0 W0 X0 Y0 Z0 a1 b1 c1 s1->
 J0 (setD K0 5) L0 M0 N0 O0 P0 Q0 S0 T0 U0 V0 W0 Y0 Y0 Z0 a1 b1 c1 s1)/\
 (∀ K0:Nat->Bool,K0 6=false->K0 5=true->∀ L0 M0 N0 O0 P0 Q0 S0 T0 U0 V0 W0 X0 Y0 Z0 a1 b1 c1 t1,J0 K0 L0 M0 N0 O0 P0 Q0 S0 T0 U0 V0 W0 X0 Y0 Z0 a1 b1 c1 t1->
 GuardV X0 false (RR (sOp (.load 34 (.const x0)) 34) t1 fun u1 v1=>
 J0 (setD K0 6) L0 M0 N0 O0 P0 Q0 S0 T0 U0 V0 u1 X0 Y0 Z0 a1 b1 c1 v1) (J0 (setD K0 6) L0 M0 N0 O0 P0 Q0 S0 T0 U0 V0 undef X0 Y0 Z0 a1 b1 c1 t1))/\
 (∀ K0:Nat->Bool,K0 7=false->K0 5=true->∀ L0 M0 N0 O0 P0 Q0 S0 T0 U0 V0 W0 X0 Y0 Z0 a1 b1 c1 w1,J0 K0 L0 M0 N0 O0 P0 Q0 S0 T0 U0 V0 W0 X0 Y0 Z0 a1 b1 c1 w1->
 GuardV X0 false (RR (sOp (.load 34 (.const x0)) 34) w1 fun x1 y1=>
 J0 (setD K0 7) L0 M0 N0 O0 P0 Q0 S0 T0 U0 x1 W0 X0 Y0 Z0 a1 b1 c1 y1) (J0 (setD K0 7) L0 M0 N0 O0 P0 Q0 S0 T0 U0 undef W0 X0 Y0 Z0 a1 b1 c1 w1))/\
 (∀ K0:Nat->Bool,K0 8=false->K0 6=true->K0 7=true->K0 5=true->K0 5=true->∀ L0 M0 N0 O0 P0 Q0 S0 T0 U0 V0 W0 X0 Y0 Z0 a1 b1 c1 z1,J0 K0 L0 M0 N0 O0 P0 Q0 S0 T0 U0 V0 W0 X0 Y0 Z0 a1 b1 c1 z1->
 GuardV X0 false (RR (sCall (Value.func (.func 20) #[] #[]) [W0,V0]) z1 fun A1 B1=>
 J0 (setD K0 8) L0 M0 N0 O0 P0 Q0 S0 T0 A1 V0 W0 X0 Y0 Z0 a1 b1 c1 B1) (J0 (setD K0 8) L0 M0 N0 O0 P0 Q0 S0 T0 undef V0 W0 X0 Y0 Z0 a1 b1 c1 z1))/\
 (∀ K0:Nat->Bool,K0 9=false->K0 5=true->∀ L0 M0 N0 O0 P0 Q0 S0 T0 U0 V0 W0 X0 Y0 Z0 a1 b1 c1 C1,J0 K0 L0 M0 N0 O0 P0 Q0 S0 T0 U0 V0 W0 X0 Y0 Z0 a1 b1 c1 C1->
 GuardV X0 false (RR (sOp (.load 34 (.const x0)) 34) C1 fun D1 E1=>
 J0 (setD K0 9) L0 M0 N0 O0 P0 Q0 S0 D1 U0 V0 W0 X0 Y0 Z0 a1 b1 c1 E1) (J0 (setD K0 9) L0 M0 N0 O0 P0 Q0 S0 undef U0 V0 W0 X0 Y0 Z0 a1 b1 c1 C1))/\
 (∀ K0:Nat->Bool,K0 10=false->K0 9=true->K0 8=true->K0 5=true->∀ L0 M0 N0 O0 P0 Q0 S0 T0 U0 V0 W0 X0 Y0 Z0 a1 b1 c1 F1,J0 K0 L0 M0 N0 O0 P0 Q0 S0 T0 U0 V0 W0 X0 Y0 Z0 a1 b1 c1 F1->
 GuardV X0 false (RR (sCall (Value.func (.func 22) #[] #[]) [T0]) F1 fun G1 H1=>
 J0 (setD K0 10) L0 M0 N0 O0 P0 Q0 G1 T0 U0 V0 W0 X0 Y0 Z0 a1 b1 c1 H1) (J0 (setD K0 10) L0 M0 N0 O0 P0 Q0 undef T0 U0 V0 W0 X0 Y0 Z0 a1 b1 c1 F1))/\
 (∀ K0:Nat->Bool,K0 11=false->K0 8=true->K0 10=true->K0 5=true->∀ L0 M0 N0 O0 P0 Q0 S0 T0 U0 V0 W0 X0 Y0 Z0 a1 b1 c1 I1,J0 K0 L0 M0 N0 O0 P0 Q0 S0 T0 U0 V0 W0 X0 Y0 Z0 a1 b1 c1 I1->
 GuardV X0 false (RR (sBin .neq 4 false false U0 S0) I1 fun J1 K1=>
 J0 (setD K0 11) L0 M0 N0 O0 P0 J1 S0 T0 U0 V0 W0 X0 Y0 Z0 a1 b1 c1 K1) (J0 (setD K0 11) L0 M0 N0 O0 P0 undef S0 T0 U0 V0 W0 X0 Y0 Z0 a1 b1 c1 I1))/\
 (∀ K0:Nat->Bool,K0 12=false->K0 5=true->K0 11=true->∀ L0 M0 N0 O0 P0 Q0 S0 T0 U0 V0 W0 X0 Y0 Z0 a1 b1 c1 L1,J0 K0 L0 M0 N0 O0 P0 Q0 S0 T0 U0 V0 W0 X0 Y0 Z0 a1 b1 c1 L1->
 RR (sOp (.pick (.const X0) (.const (Value.bool true)) (.const Q0)) 4) L1 fun M1 N1=>
 J0 (setD K0 12) L0 M0 N0 O0 M1 Q0 S0 T0 U0 V0 W0 X0 Y0 Z0 a1 b1 c1 N1)/\
 (∀ K0:Nat->Bool,K0 13=false->K0 12=true->K0 10=true->∀ L0 M0 N0 O0 P0 Q0 S0 T0 U0 V0 W0 X0 Y0 Z0 a1 b1 c1 O1,J0 K0 L0 M0 N0 O0 P0 Q0 S0 T0 U0 V0 W0 X0 Y0 Z0 a1 b1 c1 O1->
 J0 (setD K0 13) L0 M0 N0 P0 P0 Q0 S0 T0 U0 V0 W0 X0 Y0 Z0 a1 b1 c1 O1)/\
 (∀ K0:Nat->Bool,K0 14=false->K0 13=true->∀ L0 M0 N0 O0 P0 Q0 S0 T0 U0 V0 W0 X0 Y0 Z0 a1 b1 c1 P1,J0 K0 L0 M0 N0 O0 P0 Q0 S0 T0 U0 V0 W0 X0 Y0 Z0 a1 b1 c1 P1->
 GuardV O0 false (J0 (setD K0 14) L0 M0 H0 O0 P0 Q0 S0 T0 U0 V0 W0 X0 Y0 Z0 a1 b1 c1 P1) (J0 (setD K0 14) L0 M0 undef O0 P0 Q0 S0 T0 U0 V0 W0 X0 Y0 Z0 a1 b1 c1 P1))/\
 (∀ K0:Nat->Bool,K0 15=false->K0 14=true->K0 13=true->∀ L0 M0 N0 O0 P0 Q0 S0 T0 U0 V0 W0 X0 Y0 Z0 a1 b1 c1 Q1,J0 K0 L0 M0 N0 O0 P0 Q0 S0 T0 U0 V0 W0 X0 Y0 Z0 a1 b1 c1 Q1->
 GuardV O0 false (RR (sOp (.unOp .not 4 (.const N0)) 4) Q1 fun S1 T1=>
 J0 (setD K0 15) L0 S1 N0 O0 P0 Q0 S0 T0 U0 V0 W0 X0 Y0 Z0 a1 b1 c1 T1) (J0 (setD K0 15) L0 undef N0 O0 P0 Q0 S0 T0 U0 V0 W0 X0 Y0 Z0 a1 b1 c1 Q1))/\
 (∀ K0:Nat->Bool,K0 16=false->K0 13=true->K0 15=true->∀ L0 M0 N0 O0 P0 Q0 S0 T0 U0 V0 W0 X0 Y0 Z0 a1 b1 c1 U1,J0 K0 L0 M0 N0 O0 P0 Q0 S0 T0 U0 V0 W0 X0 Y0 Z0 a1 b1 c1 U1->
 RR (sOp (.pick (.const O0) (.const (Value.bool true)) (.const M0)) 4) U1 fun V1 W1=>
 J0 (setD K0 16) V1 M0 N0 O0 P0 Q0 S0 T0 U0 V0 W0 X0 Y0 Z0 a1 b1 c1 W1)/\
 True)/\
 ∀ K0:Nat->Bool,K0 16=true->K0 15=true->K0 14=true->K0 13=true->K0 12=true->K0 11=true->K0 10=true->K0 9=true->K0 8=true->K0 7=true->K0 6=true->K0 5=true->K0 4=true->K0 3=true->K0 2=true->K0 1=true->K0 0=true->∀ L0 M0 N0 O0 P0 Q0 S0 T0 U0 V0 W0 X0 Y0 Z0 a1 b1 c1 X1,J0 K0 L0 M0 N0 O0 P0 Q0 S0 T0 U0 V0 W0 X0 Y0 Z0 a1 b1 c1 X1->
 CondV L0 (
 (∃ Y1:(Nat->Bool)->Value->Value->Value->Value->Value->Value->Value->Value->Value->Value->Value->Value->Value->Value->World->Prop,Y1 (fun _=>false) (Value.bool false) undef undef undef undef undef undef undef undef undef undef undef undef undef { X1 with drawn:=X1.drawn+1 }/\(
 (∀ Z1:Nat->Bool,Z1 0=false->∀ a2 b2 c2 d2 e2 f2 g2 h2 i2 j2 k2 l2 m2 n2 o2,Y1 Z1 a2 b2 c2 d2 e2 f2 g2 h2 i2 j2 k2 l2 m2 n2 o2->
 Y1 (setD Z1 0) a2 b2 c2 d2 e2 f2 g2 h2 i2 j2 k2 l2 m2 H0 o2)/\
 (∀ Z1:Nat->Bool,Z1 1=false->∀ a2 b2 c2 d2 e2 f2 g2 h2 i2 j2 k2 l2 m2 n2 q2,Y1 Z1 a2 b2 c2 d2 e2 f2 g2 h2 i2 j2 k2 l2 m2 n2 q2->
 RR (sOp (.load 34 (.const x0)) 34) q2 fun s2 t2=>
 Y1 (setD Z1 1) a2 b2 c2 d2 e2 f2 g2 h2 i2 j2 k2 l2 s2 n2 t2)/\
 (∀ Z1:Nat->Bool,Z1 2=false->∀ a2 b2 c2 d2 e2 f2 g2 h2 i2 j2 k2 l2 m2 n2 u2,Y1 Z1 a2 b2 c2 d2 e2 f2 g2 h2 i2 j2 k2 l2 m2 n2 u2->
 RR (sOp (.load 34 (.const z0)) 34) u2 fun v2 w2=>
 Y1 (setD Z1 2) a2 b2 c2 d2 e2 f2 g2 h2 i2 j2 k2 v2 m2 n2 w2)/\
 (∀ Z1:Nat->Bool,Z1 3=false->Z1 1=true->Z1 2=true->∀ a2 b2 c2 d2 e2 f2 g2 h2 i2 j2 k2 l2 m2 n2 x2,Y1 Z1 a2 b2 c2 d2 e2 f2 g2 h2 i2 j2 k2 l2 m2 n2 x2->
 RR (sCall (Value.func (.func 21) #[] #[]) [m2,l2]) x2 fun y2 z2=>
 Y1 (setD Z1 3) a2 b2 c2 d2 e2 f2 g2 h2 i2 j2 y2 l2 m2 n2 z2)/\
 (∀ Z1:Nat->Bool,Z1 4=false->Z1 0=true->Z1 3=true->∀ a2 b2 c2 d2 e2 f2 g2 h2 i2 j2 k2 l2 m2 n2 A2,Y1 Z1 a2 b2 c2 d2 e2 f2 g2 h2 i2 j2 k2 l2 m2 n2 A2->
 RR (sBin .eql 4 false false n2 k2) A2 fun B2 C2=>
 Y1 (setD Z1 4) a2 b2 c2 d2 e2 f2 g2 h2 i2 B2 k2 l2 m2 n2 C2)/\
 (∀ Z1:Nat->Bool,Z1 5=false->Z1 4=true->Z1 3=true->∀ a2 b2 c2 d2 e2 f2 g2 h2 i2 j2 k2 l2 m2 n2 D2,Y1 Z1 a2 b2 c2 d2 e2 f2 g2 h2 i2 j2 k2 l2 m2 n2 D2->
 Y1 (setD Z1 5) a2 b2 c2 d2 e2 f2 g2 h2 j2 j2 k2 l2 m2 n2 D2)/\
 (∀ Z1:Nat->Bool,Z1 6=false->Z1 5=true->∀ a2 b2 c2 d2 e2 f2 g2 h2 i2 j2 k2 l2 m2 n2 E2,Y1 Z1 a2 b2 c2 d2 e2 f2 g2 h2 i2 j2 k2 l2 m2 n2 E2->
 GuardV i2 true (RR (sOp (.load 34 (.const x0)) 34) E2 fun F2 G2=>
 Y1 (setD Z1 6) a2 b2 c2 d2 e2 f2 g2 F2 i2 j2 k2 l2 m2 n2 G2) (Y1 (setD Z1 6) a2 b2 c2 d2 e2 f2 g2 undef i2 j2 k2 l2 m2 n2 E2))/\
 (∀ Z1:Nat->Bool,Z1 7=false->Z1 5=true->∀ a2 b2 c2 d2 e2 f2 g2 h2 i2 j2 k2 l2 m2 n2 H2,Y1 Z1 a2 b2 c2 d2 e2 f2 g2 h2 i2 j2 k2 l2 m2 n2 H2->
 GuardV i2 true (RR (sOp (.load 34 (.const x0)) 34) H2 fun I2 J2=>
 Y1 (setD Z1 7) a2 b2 c2 d2 e2 f2 I2 h2 i2 j2 k2 l2 m2 n2 J2) (Y1 (setD Z1 7) a2 b2 c2 d2 e2 f2 undef h2 i2 j2 k2 l2 m2 n2 H2))/\
 (∀ Z1:Nat->Bool,Z1 8=false->Z1 6=true->Z1 7=true->Z1 5=true->Z1 5=true->∀ a2 b2 c2 d2 e2 f2 g2 h2 i2 j2 k2 l2 m2 n2 K2,Y1 Z1 a2 b2 c2 d2 e2 f2 g2 h2 i2 j2 k2 l2 m2 n2 K2->
 GuardV i2 true (RR (sCall (Value.func (.func 20) #[] #[]) [h2,g2]) K2 fun L2 M2=>
 Y1 (setD Z1 8) a2 b2 c2 d2 e2 L2 g2 h2 i2 j2 k2 l2 m2 n2 M2) (Y1 (setD Z1 8) a2 b2 c2 d2 e2 undef g2 h2 i2 j2 k2 l2 m2 n2 K2))/\
 (∀ Z1:Nat->Bool,Z1 9=false->Z1 5=true->∀ a2 b2 c2 d2 e2 f2 g2 h2 i2 j2 k2 l2 m2 n2 N2,Y1 Z1 a2 b2 c2 d2 e2 f2 g2 h2 i2 j2 k2 l2 m2 n2 N2->
 GuardV i2 true (RR (sOp (.load 34 (.const x0)) 34) N2 fun O2 P2=>
 Y1 (setD Z1 9) a2 b2 c2 d2 O2 f2 g2 h2 i2 j2 k2 l2 m2 n2 P2) (Y1 (setD Z1 9) a2 b2 c2 d2 undef f2 g2 h2 i2 j2 k2 l2 m2 n2 N2))/\
 (∀ Z1:Nat->Bool,Z1 10=false->Z1 9=true->Z1 8=true->Z1 5=true->∀ a2 b2 c2 d2 e2 f2 g2 h2 i2 j2 k2 l2 m2 n2 Q2,Y1 Z1 a2 b2 c2 d2 e2 f2 g2 h2 i2 j2 k2 l2 m2 n2 Q2->
 GuardV i2 true (RR (sCall (Value.func (.func 22) #[] #[]) [e2]) Q2 fun S2 T2=>
 Y1 (setD Z1 10) a2 b2 c2 S2 e2 f2 g2 h2 i2 j2 k2 l2 m2 n2 T2) (Y1 (setD Z1 10) a2 b2 c2 undef e2 f2 g2 h2 i2 j2 k2 l2 m2 n2 Q2))/\
 (∀ Z1:Nat->Bool,Z1 11=false->Z1 8=true->Z1 10=true->Z1 5=true->∀ a2 b2 c2 d2 e2 f2 g2 h2 i2 j2 k2 l2 m2 n2 U2,Y1 Z1 a2 b2 c2 d2 e2 f2 g2 h2 i2 j2 k2 l2 m2 n2 U2->
 GuardV i2 true (RR (sBin .eql 4 false false f2 d2) U2 fun V2 W2=>
 Y1 (setD Z1 11) a2 b2 V2 d2 e2 f2 g2 h2 i2 j2 k2 l2 m2 n2 W2) (Y1 (setD Z1 11) a2 b2 undef d2 e2 f2 g2 h2 i2 j2 k2 l2 m2 n2 U2))/\
 (∀ Z1:Nat->Bool,Z1 12=false->Z1 5=true->Z1 11=true->∀ a2 b2 c2 d2 e2 f2 g2 h2 i2 j2 k2 l2 m2 n2 X2,Y1 Z1 a2 b2 c2 d2 e2 f2 g2 h2 i2 j2 k2 l2 m2 n2 X2->
 RR (sOp (.pick (.const i2) (.const c2) (.const (Value.bool false))) 4) X2 fun Y2 Z2=>
 Y1 (setD Z1 12) a2 Y2 c2 d2 e2 f2 g2 h2 i2 j2 k2 l2 m2 n2 Z2)/\
 (∀ Z1:Nat->Bool,Z1 13=false->Z1 12=true->Z1 10=true->Z1 0=true->Z1 1=true->Z1 2=true->Z1 3=true->Z1 4=true->Z1 5=true->Z1 6=true->Z1 7=true->Z1 8=true->Z1 9=true->Z1 10=true->Z1 11=true->Z1 12=true->∀ a2 b2 c2 d2 e2 f2 g2 h2 i2 j2 k2 l2 m2 n2 a3,Y1 Z1 a2 b2 c2 d2 e2 f2 g2 h2 i2 j2 k2 l2 m2 n2 a3->
 Y1 (setD Z1 13) b2 b2 c2 d2 e2 f2 g2 h2 i2 j2 k2 l2 m2 n2 a3)/\
 True)/\
 ∀ Z1:Nat->Bool,Z1 13=true->Z1 12=true->Z1 11=true->Z1 10=true->Z1 9=true->Z1 8=true->Z1 7=true->Z1 6=true->Z1 5=true->Z1 4=true->Z1 3=true->Z1 2=true->Z1 1=true->Z1 0=true->∀ a2 b2 c2 d2 e2 f2 g2 h2 i2 j2 k2 l2 m2 n2 b3,Y1 Z1 a2 b2 c2 d2 e2 f2 g2 h2 i2 j2 k2 l2 m2 n2 b3->
 R (.returned a2) b3)) (
 RR (sCall (Value.func (.func 19) #[] #[]) [p1]) X1 fun c3 d3=>
 RR (sOp (.extract (.const c3) 0) 34) d3 fun e3 f3=>
 RR (sOp (.extract (.const c3) 1) 34) f3 fun g3 h3=>
 RR (sOp (.alloc 34) 0) h3 fun i3 j3=>
 RR (sOp (.alloc 34) 0) j3 fun k3 l3=>
 RR (sOp (.store 34 (.const i3) (.const e3)) 0) l3 fun _u m3=>
 RR (sOp (.store 34 (.const k3) (.const g3)) 0) m3 fun _ n3=>
 RR (sOp (.load 34 (.const z0)) 34) n3 fun o3 q3=>
 RR (sOp (.load 34 (.const i3)) 34) q3 fun s3 t3=>
 RR (sCall (Value.func (.func 20) #[] #[]) [o3,s3]) t3 fun u3 v3=>
 RR (sOp (.unOp .not 4 (.const u3)) 4) v3 fun w3 x3=>
 GuardV w3 false (
 RR (sOp (.load 34 (.const x0)) 34) x3 fun y3 z3=>
 RR (sOp (.load 34 (.const i3)) 34) z3 fun A3 B3=>
 RR (sCall (Value.func (.func 20) #[] #[]) [y3,A3]) B3 fun C3 D3=>
 RR (sOp (.pick (.const w3) (.const (Value.bool true)) (.const C3)) 4) D3 fun E3 F3=>
 GuardV E3 true (
 RR (sOp (.load 34 (.const k3)) 34) F3 fun G3 H3=>
 RR (sOp (.load 34 (.const x0)) 34) H3 fun I3 J3=>
 RR (sCall (Value.func (.func 20) #[] #[]) [G3,I3]) J3 fun K3 L3=>
 RR (sOp (.unOp .not 4 (.const K3)) 4) L3 fun M3 N3=>
 GuardV M3 false (
 RR (sOp (.load 34 (.const k3)) 34) N3 fun O3 P3=>
 RR (sOp (.load 34 (.const z0)) 34) P3 fun Q3 S3=>
 RR (sCall (Value.func (.func 20) #[] #[]) [O3,Q3]) S3 fun T3 U3=>
 GuardV E3 true (
 RR (sOp (.pick (.const M3) (.const (Value.bool true)) (.const T3)) 4) U3 fun V3 W3=>
 RR (sOp (.pick (.const E3) (.const V3) (.const (Value.bool false))) 4) W3 fun X3 Y3=>
 GuardV X3 true (
 RR (sOp (.fieldAddr 34 (.const x0) 0) 0) Y3 fun Z3 a4=>
 RR (sOp (.load 32 (.const Z3)) 32) a4 fun b4 c4=>
 RR (sOp (.fieldAddr 34 (.const z0) 0) 0) c4 fun d4 e4=>
 RR (sOp (.load 32 (.const d4)) 32) e4 fun f4 g4=>
 RR (sCall (Value.func (.func 23) #[] #[]) [b4,f4]) g4 fun h4 i4=>
 RR (sOp (.pick (.const X3) (.const h4) (.const (Value.bool false))) 4) i4 fun j4 k4=>
 R (.returned j4) k4) (
 RR (sOp (.pick (.const X3) (.const undef) (.const (Value.bool false))) 4) Y3 fun l4 m4=>
 R (.returned l4) m4)) (
 RR (sOp (.pick (.const E3) (.const undef) (.const (Value.bool false))) 4) U3 fun n4 o4=>
 GuardV n4 true (
 RR (sOp (.fieldAddr 34 (.const x0) 0) 0) o4 fun q4 s4=>
 RR (sOp (.load 32 (.const q4)) 32) s4 fun t4 u4=>
 RR (sOp (.fieldAddr 34 (.const z0) 0) 0) u4 fun v4 w4=>
 RR (sOp (.load 32 (.const v4)) 32) w4 fun x4 y4=>
 RR (sCall (Value.func (.func 23) #[] #[]) [t4,x4]) y4 fun z4 A4=>
 RR (sOp (.pick (.const n4) (.const z4) (.const (Value.bool false))) 4) A4 fun B4 C4=>
 R (.returned B4) C4) (
 RR (sOp (.pick (.const n4) (.const undef) (.const (Value.bool false))) 4) o4 fun D4 E4=>
 R (.returned D4) E4))) (
 GuardV E3 true (
 RR (sOp (.pick (.const M3) (.const (Value.bool true)) (.const undef)) 4) N3 fun F4 G4=>
 RR (sOp (.pick (.const E3) (.const F4) (.const (Value.bool false))) 4) G4 fun H4 I4=>
 GuardV H4 true (
 RR (sOp (.fieldAddr 34 (.const x0) 0) 0) I4 fun J4 K4=>
 RR (sOp (.load 32 (.const J4)) 32) K4 fun L4 M4=>
 RR (sOp (.fieldAddr 34 (.const z0) 0) 0) M4 fun N4 O4=>
 RR (sOp (.load 32 (.const N4)) 32) O4 fun P4 Q4=>
 RR (sCall (Value.func (.func 23) #[] #[]) [L4,P4]) Q4 fun S4 T4=>
 RR (sOp (.pick (.const H4) (.const S4) (.const (Value.bool false))) 4) T4 fun U4 V4=>
 R (.returned U4) V4) (
 RR (sOp (.pick (.const H4) (.const undef) (.const (Value.bool false))) 4) I4 fun W4 X4=>
 R (.returned W4) X4)) (
 RR (sOp (.pick (.const E3) (.const undef) (.const (Value.bool false))) 4) N3 fun Y4 Z4=>
 GuardV Y4 true (
 RR (sOp (.fieldAddr 34 (.const x0) 0) 0) Z4 fun a5 b5=>
 RR (sOp (.load 32 (.const a5)) 32) b5 fun c5 d5=>
 RR (sOp (.fieldAddr 34 (.const z0) 0) 0) d5 fun e5 f5=>
 RR (sOp (.load 32 (.const e5)) 32) f5 fun g5 h5=>
 RR (sCall (Value.func (.func 23) #[] #[]) [c5,g5]) h5 fun i5 j5=>
 RR (sOp (.pick (.const Y4) (.const i5) (.const (Value.bool false))) 4) j5 fun k5 l5=>
 R (.returned k5) l5) (
 RR (sOp (.pick (.const Y4) (.const undef) (.const (Value.bool false))) 4) Z4 fun m5 n5=>
 R (.returned m5) n5)))) (
 GuardV undef false (
 RR (sOp (.load 34 (.const k3)) 34) F3 fun o5 q5=>
 RR (sOp (.load 34 (.const z0)) 34) q5 fun s5 t5=>
 RR (sCall (Value.func (.func 20) #[] #[]) [o5,s5]) t5 fun u5 v5=>
 GuardV E3 true (
 RR (sOp (.pick (.const undef) (.const (Value.bool true)) (.const u5)) 4) v5 fun w5 x5=>
 RR (sOp (.pick (.const E3) (.const w5) (.const (Value.bool false))) 4) x5 fun y5 z5=>
 GuardV y5 true (
 RR (sOp (.fieldAddr 34 (.const x0) 0) 0) z5 fun A5 B5=>
 RR (sOp (.load 32 (.const A5)) 32) B5 fun C5 D5=>
 RR (sOp (.fieldAddr 34 (.const z0) 0) 0) D5 fun E5 F5=>
 RR (sOp (.load 32 (.const E5)) 32) F5 fun G5 H5=>
 RR (sCall (Value.func (.func 23) #[] #[]) [C5,G5]) H5 fun I5 J5=>
 RR (sOp (.pick (.const y5) (.const I5) (.const (Value.bool false))) 4) J5 fun K5 L5=>
 R (.returned K5) L5) (
 RR (sOp (.pick (.const y5) (.const undef) (.const (Value.bool false))) 4) z5 fun M5 N5=>
 R (.returned M5) N5)) (
 RR (sOp (.pick (.const E3) (.const undef) (.const (Value.bool false))) 4) v5 fun O5 P5=>
 GuardV O5 true (
 RR (sOp (.fieldAddr 34 (.const x0) 0) 0) P5 fun Q5 S5=>
 RR (sOp (.load 32 (.const Q5)) 32) S5 fun T5 U5=>
 RR (sOp (.fieldAddr 34 (.const z0) 0) 0) U5 fun V5 W5=>
 RR (sOp (.load 32 (.const V5)) 32) W5 fun X5 Y5=>
 RR (sCall (Value.func (.func 23) #[] #[]) [T5,X5]) Y5 fun Z5 a6=>
 RR (sOp (.pick (.const O5) (.const Z5) (.const (Value.bool false))) 4) a6 fun b6 c6=>
 R (.returned b6) c6) (
 RR (sOp (.pick (.const O5) (.const undef) (.const (Value.bool false))) 4) P5 fun d6 e6=>
 R (.returned d6) e6))) (
 GuardV E3 true (
 RR (sOp (.pick (.const undef) (.const (Value.bool true)) (.const undef)) 4) F3 fun f6 g6=>
 RR (sOp (.pick (.const E3) (.const f6) (.const (Value.bool false))) 4) g6 fun h6 i6=>
 GuardV h6 true (
 RR (sOp (.fieldAddr 34 (.const x0) 0) 0) i6 fun j6 k6=>
 RR (sOp (.load 32 (.const j6)) 32) k6 fun l6 m6=>
 RR (sOp (.fieldAddr 34 (.const z0) 0) 0) m6 fun n6 o6=>
 RR (sOp (.load 32 (.const n6)) 32) o6 fun q6 s6=>
 RR (sCall (Value.func (.func 23) #[] #[]) [l6,q6]) s6 fun t6 u6=>
 RR (sOp (.pick (.const h6) (.const t6) (.const (Value.bool false))) 4) u6 fun v6 w6=>
 R (.returned v6) w6) (
 RR (sOp (.pick (.const h6) (.const undef) (.const (Value.bool false))) 4) i6 fun x6 y6=>
 R (.returned x6) y6)) (
 RR (sOp (.pick (.const E3) (.const undef) (.const (Value.bool false))) 4) F3 fun z6 A6=>
 GuardV z6 true (
 RR (sOp (.fieldAddr 34 (.const x0) 0) 0) A6 fun B6 C6=>
 RR (sOp (.load 32 (.const B6)) 32) C6 fun D6 E6=>
 RR (sOp (.fieldAddr 34 (.const z0) 0) 0) E6 fun F6 G6=>
 RR (sOp (.load 32 (.const F6)) 32) G6 fun H6 I6=>
 RR (sCall (Value.func (.func 23) #[] #[]) [D6,H6]) I6 fun J6 K6=>
 RR (sOp (.pick (.const z6) (.const J6) (.const (Value.bool false))) 4) K6 fun L6 M6=>
 R (.returned L6) M6) (
 RR (sOp (.pick (.const z6) (.const undef) (.const (Value.bool false))) 4) A6 fun N6 O6=>
 R (.returned N6) O6))))) (
 RR (sOp (.pick (.const w3) (.const (Value.bool true)) (.const undef)) 4) x3 fun P6 Q6=>
 GuardV P6 true (
 RR (sOp (.load 34 (.const k3)) 34) Q6 fun S6 T6=>
 RR (sOp (.load 34 (.const x0)) 34) T6 fun U6 V6=>
 RR (sCall (Value.func (.func 20) #[] #[]) [S6,U6]) V6 fun W6 X6=>
 RR (sOp (.unOp .not 4 (.const W6)) 4) X6 fun Y6 Z6=>
 GuardV Y6 false (
 RR (sOp (.load 34 (.const k3)) 34) Z6 fun a7 b7=>
 RR (sOp (.load 34 (.const z0)) 34) b7 fun c7 d7=>
 RR (sCall (Value.func (.func 20) #[] #[]) [a7,c7]) d7 fun e7 f7=>
 GuardV P6 true (
 RR (sOp (.pick (.const Y6) (.const (Value.bool true)) (.const e7)) 4) f7 fun g7 h7=>
 RR (sOp (.pick (.const P6) (.const g7) (.const (Value.bool false))) 4) h7 fun i7 j7=>
 GuardV i7 true (
 RR (sOp (.fieldAddr 34 (.const x0) 0) 0) j7 fun k7 l7=>
 RR (sOp (.load 32 (.const k7)) 32) l7 fun m7 n7=>
 RR (sOp (.fieldAddr 34 (.const z0) 0) 0) n7 fun o7 q7=>
 RR (sOp (.load 32 (.const o7)) 32) q7 fun s7 t7=>
 RR (sCall (Value.func (.func 23) #[] #[]) [m7,s7]) t7 fun u7 v7=>
 RR (sOp (.pick (.const i7) (.const u7) (.const (Value.bool false))) 4) v7 fun w7 x7=>
 R (.returned w7) x7) (
 RR (sOp (.pick (.const i7) (.const undef) (.const (Value.bool false))) 4) j7 fun y7 z7=>
 R (.returned y7) z7)) (
 RR (sOp (.pick (.const P6) (.const undef) (.const (Value.bool false))) 4) f7 fun A7 B7=>
 GuardV A7 true (
 RR (sOp (.fieldAddr 34 (.const x0) 0) 0) B7 fun C7 D7=>
 RR (sOp (.load 32 (.const C7)) 32) D7 fun E7 F7=>
 RR (sOp (.fieldAddr 34 (.const z0) 0) 0) F7 fun G7 H7=>
 RR (sOp (.load 32 (.const G7)) 32) H7 fun I7 J7=>
 RR (sCall (Value.func (.func 23) #[] #[]) [E7,I7]) J7 fun K7 L7=>
 RR (sOp (.pick (.const A7) (.const K7) (.const (Value.bool false))) 4) L7 fun M7 N7=>
 R (.returned M7) N7) (
 RR (sOp (.pick (.const A7) (.const undef) (.const (Value.bool false))) 4) B7 fun O7 P7=>
 R (.returned O7) P7))) (
 GuardV P6 true (
 RR (sOp (.pick (.const Y6) (.const (Value.bool true)) (.const undef)) 4) Z6 fun Q7 S7=>
 RR (sOp (.pick (.const P6) (.const Q7) (.const (Value.bool false))) 4) S7 fun T7 U7=>
 GuardV T7 true (
 RR (sOp (.fieldAddr 34 (.const x0) 0) 0) U7 fun V7 W7=>
 RR (sOp (.load 32 (.const V7)) 32) W7 fun X7 Y7=>
 RR (sOp (.fieldAddr 34 (.const z0) 0) 0) Y7 fun Z7 a8=>
 RR (sOp (.load 32 (.const Z7)) 32) a8 fun b8 c8=>
 RR (sCall (Value.func (.func 23) #[] #[]) [X7,b8]) c8 fun d8 e8=>
 RR (sOp (.pick (.const T7) (.const d8) (.const (Value.bool false))) 4) e8 fun f8 g8=>
 R (.returned f8) g8) (
 RR (sOp (.pick (.const T7) (.const undef) (.const (Value.bool false))) 4) U7 fun h8 i8=>
 R (.returned h8) i8)) (
 RR (sOp (.pick (.const P6) (.const undef) (.const (Value.bool false))) 4) Z6 fun j8 k8=>
 GuardV j8 true (
 RR (sOp (.fieldAddr 34 (.const x0) 0) 0) k8 fun l8 m8=>
 RR (sOp (.load 32 (.const l8)) 32) m8 fun n8 o8=>
 RR (sOp (.fieldAddr 34 (.const z0) 0) 0) o8 fun q8 s8=>
 RR (sOp (.load 32 (.const q8)) 32) s8 fun t8 u8=>
 RR (sCall (Value.func (.func 23) #[] #[]) [n8,t8]) u8 fun v8 w8=>
 RR (sOp (.pick (.const j8) (.const v8) (.const (Value.bool false))) 4) w8 fun x8 y8=>
 R (.returned x8) y8) (
 RR (sOp (.pick (.const j8) (.const undef) (.const (Value.bool false))) 4) k8 fun z8 A8=>
 R (.returned z8) A8)))) (
 GuardV undef false (
 RR (sOp (.load 34 (.const k3)) 34) Q6 fun B8 C8=>
 RR (sOp (.load 34 (.const z0)) 34) C8 fun D8 E8=>
 RR (sCall (Value.func (.func 20) #[] #[]) [B8,D8]) E8 fun F8 G8=>
 GuardV P6 true (
 RR (sOp (.pick (.const undef) (.const (Value.bool true)) (.const F8)) 4) G8 fun H8 I8=>
 RR (sOp (.pick (.const P6) (.const H8) (.const (Value.bool false))) 4) I8 fun J8 K8=>
 GuardV J8 true (
 RR (sOp (.fieldAddr 34 (.const x0) 0) 0) K8 fun L8 M8=>
 RR (sOp (.load 32 (.const L8)) 32) M8 fun N8 O8=>
 RR (sOp (.fieldAddr 34 (.const z0) 0) 0) O8 fun P8 Q8=>
 RR (sOp (.load 32 (.const P8)) 32) Q8 fun S8 T8=>
 RR (sCall (Value.func (.func 23) #[] #[]) [N8,S8]) T8 fun U8 V8=>
 RR (sOp (.pick (.const J8) (.const U8) (.const (Value.bool false))) 4) V8 fun W8 X8=>
 R (.returned W8) X8) (
 RR (sOp (.pick (.const J8) (.const undef) (.const (Value.bool false))) 4) K8 fun Y8 Z8=>
 R (.returned Y8) Z8)) (
 RR (sOp (.pick (.const P6) (.const undef) (.const (Value.bool false))) 4) G8 fun a9 b9=>
 GuardV a9 true (
 RR (sOp (.fieldAddr 34 (.const x0) 0) 0) b9 fun c9 d9=>
 RR (sOp (.load 32 (.const c9)) 32) d9 fun e9 f9=>
 RR (sOp (.fieldAddr 34 (.const z0) 0) 0) f9 fun g9 h9=>
 RR (sOp (.load 32 (.const g9)) 32) h9 fun i9 j9=>
 RR (sCall (Value.func (.func 23) #[] #[]) [e9,i9]) j9 fun k9 l9=>
 RR (sOp (.pick (.const a9) (.const k9) (.const (Value.bool false))) 4) l9 fun m9 n9=>
 R (.returned m9) n9) (
 RR (sOp (.pick (.const a9) (.const undef) (.const (Value.bool false))) 4) b9 fun o9 q9=>
 R (.returned o9) q9))) (
 GuardV P6 true (
 RR (sOp (.pick (.const undef) (.const (Value.bool true)) (.const undef)) 4) Q6 fun s9 t9=>
 RR (sOp (.pick (.const P6) (.const s9) (.const (Value.bool false))) 4) t9 fun u9 v9=>
 GuardV u9 true (
 RR (sOp (.fieldAddr 34 (.const x0) 0) 0) v9 fun w9 x9=>
 RR (sOp (.load 32 (.const w9)) 32) x9 fun y9 z9=>
 RR (sOp (.fieldAddr 34 (.const z0) 0) 0) z9 fun A9 B9=>
 RR (sOp (.load 32 (.const A9)) 32) B9 fun C9 D9=>
 RR (sCall (Value.func (.func 23) #[] #[]) [y9,C9]) D9 fun E9 F9=>
 RR (sOp (.pick (.const u9) (.const E9) (.const (Value.bool false))) 4) F9 fun G9 H9=>
 R (.returned G9) H9) (
 RR (sOp (.pick (.const u9) (.const undef) (.const (Value.bool false))) 4) v9 fun I9 J9=>
 R (.returned I9) J9)) (
 RR (sOp (.pick (.const P6) (.const undef) (.const (Value.bool false))) 4) Q6 fun K9 L9=>
 GuardV K9 true (
 RR (sOp (.fieldAddr 34 (.const x0) 0) 0) L9 fun M9 N9=>
 RR (sOp (.load 32 (.const M9)) 32) N9 fun O9 P9=>
 RR (sOp (.fieldAddr 34 (.const z0) 0) 0) P9 fun Q9 S9=>
 RR (sOp (.load 32 (.const Q9)) 32) S9 fun T9 U9=>
 RR (sCall (Value.func (.func 23) #[] #[]) [O9,T9]) U9 fun V9 W9=>
 RR (sOp (.pick (.const K9) (.const V9) (.const (Value.bool false))) 4) W9 fun X9 Y9=>
 R (.returned X9) Y9) (
 RR (sOp (.pick (.const K9) (.const undef) (.const (Value.bool false))) 4) L9 fun Z9 a10=>
 R (.returned Z9) a10)))))))))
theorem dT {p0 p1:Value} {w:World} {R:Ending->World->Prop} (h:cM p0 p1 w R):Calls Tryz.prog 4 #[p0,p1] w R:=
  calls_sh (.seq none .leaf (.seq none (.seq (some [17]) .leaf .leaf) .leaf)) [p0,p1] aB Tryz.func4 (by kernel_rfl) (by kernel_rfl) h


/- loop.example/prologserver/laws.FnSubsumedFact : function 5 -/
def de (p0:Value) (w:World) (R:Ending->World->Prop):Prop:=
 RR (sBuiltin .len #[22] 3 [false] [p0]) w fun a0 b0=>
 RR (sBin .gtr 3 false true a0 (Value.int .i64 1048576)) b0 fun c0 d0=>
 CondV c0 (
 R (.returned (Value.bool true)) d0) (
 RR (sCall (Value.func (.func 19) #[] #[]) [p0]) d0 fun e0 f0=>
 RR (sOp (.extract (.const e0) 0) 34) f0 fun g0 h0=>
 RR (sOp (.extract (.const e0) 1) 34) h0 fun i0 j0=>
 RR (sOp (.alloc 34) 0) j0 fun k0 l0=>
 RR (sOp (.alloc 34) 0) l0 fun m0 n0=>
 RR (sOp (.store 34 (.const k0) (.const g0)) 0) n0 fun _u o0=>
 RR (sOp (.store 34 (.const m0) (.const i0)) 0) o0 fun _ q0=>
 RR (sOp (.load 34 (.const k0)) 34) q0 fun s0 t0=>
 RR (sOp (.load 34 (.const m0)) 34) t0 fun u0 v0=>
 RR (sCall (Value.func (.func 20) #[] #[]) [s0,u0]) v0 fun w0 x0=>
 (∃ y0:Value->World->Prop,(
 RR (sOp (.load 34 (.const k0)) 34) x0 fun z0 A0=>
 RR (sOp (.load 34 (.const m0)) 34) A0 fun B0 C0=>
 RR (sCall (Value.func (.func 21) #[] #[]) [z0,B0]) C0 fun D0 E0=>
 RR (sBin .neq 4 false false w0 D0) E0 fun F0 G0=>
 GuardV F0 false (
 RR (sOp (.load 34 (.const k0)) 34) G0 fun H0 I0=>
 RR (sCall (Value.func (.func 22) #[] #[]) [H0]) I0 fun J0 K0=>
 RR (sOp (.unOp .not 4 (.const J0)) 4) K0 fun L0 M0=>
 RR (sOp (.pick (.const F0) (.const (Value.bool true)) (.const L0)) 4) M0 fun N0 O0=>
 GuardV N0 false (
 RR (sOp (.load 34 (.const m0)) 34) O0 fun P0 Q0=>
 RR (sCall (Value.func (.func 22) #[] #[]) [P0]) Q0 fun S0 T0=>
 RR (sOp (.unOp .not 4 (.const S0)) 4) T0 fun U0 V0=>
 RR (sOp (.pick (.const N0) (.const (Value.bool true)) (.const U0)) 4) V0 fun W0 X0=>
 GuardV W0 false (
 RR (sOp (.fieldAddr 34 (.const k0) 1) 0) X0 fun Y0 Z0=>
 RR (sOp (.load 30 (.const Y0)) 30) Z0 fun a1 b1=>
 RR (sBuiltin .len #[30] 3 [false] [a1]) b1 fun c1 d1=>
 RR (sBin .gtr 3 false true c1 (Value.int .i64 0)) d1 fun e1 f1=>
 RR (sOp (.pick (.const W0) (.const (Value.bool true)) (.const e1)) 4) f1 fun g1 h1=>
 GuardV g1 false (
 RR (sOp (.fieldAddr 34 (.const m0) 1) 0) h1 fun i1 j1=>
 RR (sOp (.load 30 (.const i1)) 30) j1 fun k1 l1=>
 RR (sBuiltin .len #[30] 3 [false] [k1]) l1 fun m1 n1=>
 RR (sBin .gtr 3 false true m1 (Value.int .i64 0)) n1 fun o1 q1=>
 RR (sOp (.pick (.const g1) (.const (Value.bool true)) (.const o1)) 4) q1 fun s1 t1=>
 y0 s1 t1) (
 RR (sOp (.pick (.const g1) (.const (Value.bool true)) (.const undef)) 4) h1 fun u1 v1=>
 y0 u1 v1)) (
 RR (sOp (.pick (.const W0) (.const (Value.bool true)) (.const undef)) 4) X0 fun w1 x1=>
 GuardV w1 false (
 RR (sOp (.fieldAddr 34 (.const m0) 1) 0) x1 fun y1 z1=>
 RR (sOp (.load 30 (.const y1)) 30) z1 fun A1 B1=>
 RR (sBuiltin .len #[30] 3 [false] [A1]) B1 fun C1 D1=>
 RR (sBin .gtr 3 false true C1 (Value.int .i64 0)) D1 fun E1 F1=>
 RR (sOp (.pick (.const w1) (.const (Value.bool true)) (.const E1)) 4) F1 fun G1 H1=>
 y0 G1 H1) (
 RR (sOp (.pick (.const w1) (.const (Value.bool true)) (.const undef)) 4) x1 fun I1 J1=>
 y0 I1 J1))) (
 RR (sOp (.pick (.const N0) (.const (Value.bool true)) (.const undef)) 4) O0 fun K1 L1=>
 GuardV K1 false (
 RR (sOp (.fieldAddr 34 (.const k0) 1) 0) L1 fun M1 N1=>
 RR (sOp (.load 30 (.const M1)) 30) N1 fun O1 P1=>
 RR (sBuiltin .len #[30] 3 [false] [O1]) P1 fun Q1 S1=>
 RR (sBin .gtr 3 false true Q1 (Value.int .i64 0)) S1 fun T1 U1=>
 RR (sOp (.pick (.const K1) (.const (Value.bool true)) (.const T1)) 4) U1 fun V1 W1=>
 GuardV V1 false (
 RR (sOp (.fieldAddr 34 (.const m0) 1) 0) W1 fun X1 Y1=>
 RR (sOp (.load 30 (.const X1)) 30) Y1 fun Z1 a2=>
 RR (sBuiltin .len #[30] 3 [false] [Z1]) a2 fun b2 c2=>
 RR (sBin .gtr 3 false true b2 (Value.int .i64 0)) c2 fun d2 e2=>
 RR (sOp (.pick (.const V1) (.const (Value.bool true)) (.const d2)) 4) e2 fun f2 g2=>
 y0 f2 g2) (
 RR (sOp (.pick (.const V1) (.const (Value.bool true)) (.const undef)) 4) W1 fun h2 i2=>
 y0 h2 i2)) (
 RR (sOp (.pick (.const K1) (.const (Value.bool true)) (.const undef)) 4) L1 fun j2 k2=>
 GuardV j2 false (
 RR (sOp (.fieldAddr 34 (.const m0) 1) 0) k2 fun l2 m2=>
 RR (sOp (.load 30 (.const l2)) 30) m2 fun n2 o2=>
 RR (sBuiltin .len #[30] 3 [false] [n2]) o2 fun q2 s2=>
 RR (sBin .gtr 3 false true q2 (Value.int .i64 0)) s2 fun t2 u2=>
 RR (sOp (.pick (.const j2) (.const (Value.bool true)) (.const t2)) 4) u2 fun v2 w2=>
 y0 v2 w2) (
 RR (sOp (.pick (.const j2) (.const (Value.bool true)) (.const undef)) 4) k2 fun x2 y2=>
 y0 x2 y2)))) (
 RR (sOp (.pick (.const F0) (.const (Value.bool true)) (.const undef)) 4) G0 fun z2 A2=>
 GuardV z2 false (
 RR (sOp (.load 34 (.const m0)) 34) A2 fun B2 C2=>
 RR (sCall (Value.func (.func 22) #[] #[]) [B2]) C2 fun D2 E2=>
 RR (sOp (.unOp .not 4 (.const D2)) 4) E2 fun F2 G2=>
 RR (sOp (.pick (.const z2) (.const (Value.bool true)) (.const F2)) 4) G2 fun H2 I2=>
 GuardV H2 false (
 RR (sOp (.fieldAddr 34 (.const k0) 1) 0) I2 fun J2 K2=>
 RR (sOp (.load 30 (.const J2)) 30) K2 fun L2 M2=>
 RR (sBuiltin .len #[30] 3 [false] [L2]) M2 fun N2 O2=>
 RR (sBin .gtr 3 false true N2 (Value.int .i64 0)) O2 fun P2 Q2=>
 RR (sOp (.pick (.const H2) (.const (Value.bool true)) (.const P2)) 4) Q2 fun S2 T2=>
 GuardV S2 false (
 RR (sOp (.fieldAddr 34 (.const m0) 1) 0) T2 fun U2 V2=>
 RR (sOp (.load 30 (.const U2)) 30) V2 fun W2 X2=>
 RR (sBuiltin .len #[30] 3 [false] [W2]) X2 fun Y2 Z2=>
 RR (sBin .gtr 3 false true Y2 (Value.int .i64 0)) Z2 fun a3 b3=>
 RR (sOp (.pick (.const S2) (.const (Value.bool true)) (.const a3)) 4) b3 fun c3 d3=>
 y0 c3 d3) (
 RR (sOp (.pick (.const S2) (.const (Value.bool true)) (.const undef)) 4) T2 fun e3 f3=>
 y0 e3 f3)) (
 RR (sOp (.pick (.const H2) (.const (Value.bool true)) (.const undef)) 4) I2 fun g3 h3=>
 GuardV g3 false (
 RR (sOp (.fieldAddr 34 (.const m0) 1) 0) h3 fun i3 j3=>
 RR (sOp (.load 30 (.const i3)) 30) j3 fun k3 l3=>
 RR (sBuiltin .len #[30] 3 [false] [k3]) l3 fun m3 n3=>
 RR (sBin .gtr 3 false true m3 (Value.int .i64 0)) n3 fun o3 q3=>
 RR (sOp (.pick (.const g3) (.const (Value.bool true)) (.const o3)) 4) q3 fun s3 t3=>
 y0 s3 t3) (
 RR (sOp (.pick (.const g3) (.const (Value.bool true)) (.const undef)) 4) h3 fun u3 v3=>
 y0 u3 v3))) (
 RR (sOp (.pick (.const z2) (.const (Value.bool true)) (.const undef)) 4) A2 fun w3 x3=>
 GuardV w3 false (
 RR (sOp (.fieldAddr 34 (.const k0) 1) 0) x3 fun y3 z3=>
 RR (sOp (.load 30 (.const y3)) 30) z3 fun A3 B3=>
 RR (sBuiltin .len #[30] 3 [false] [A3]) B3 fun C3 D3=>
 RR (sBin .gtr 3 false true C3 (Value.int .i64 0)) D3 fun E3 F3=>
 RR (sOp (.pick (.const w3) (.const (Value.bool true)) (.const E3)) 4) F3 fun G3 H3=>
 GuardV G3 false (
 RR (sOp (.fieldAddr 34 (.const m0) 1) 0) H3 fun I3 J3=>
 RR (sOp (.load 30 (.const I3)) 30) J3 fun K3 L3=>
 RR (sBuiltin .len #[30] 3 [false] [K3]) L3 fun M3 N3=>
 RR (sBin .gtr 3 false true M3 (Value.int .i64 0)) N3 fun O3 P3=>
 RR (sOp (.pick (.const G3) (.const (Value.bool true)) (.const O3)) 4) P3 fun Q3 S3=>
 y0 Q3 S3) (
 RR (sOp (.pick (.const G3) (.const (Value.bool true)) (.const undef)) 4) H3 fun T3 U3=>
 y0 T3 U3)) (
 RR (sOp (.pick (.const w3) (.const (Value.bool true)) (.const undef)) 4) x3 fun V3 W3=>
 GuardV V3 false (
 RR (sOp (.fieldAddr 34 (.const m0) 1) 0) W3 fun X3 Y3=>
 RR (sOp (.load 30 (.const X3)) 30) Y3 fun Z3 a4=>
 RR (sBuiltin .len #[30] 3 [false] [Z3]) a4 fun b4 c4=>
 RR (sBin .gtr 3 false true b4 (Value.int .i64 0)) c4 fun d4 e4=>
 RR (sOp (.pick (.const V3) (.const (Value.bool true)) (.const d4)) 4) e4 fun f4 g4=>
 y0 f4 g4) (
 RR (sOp (.pick (.const V3) (.const (Value.bool true)) (.const undef)) 4) W3 fun h4 i4=>
 y0 h4 i4)))))/\
 ∀ j4 _ _ _ _ _ _ _ _ _ _ _ _ _ _ _ _ _ _ _ _ _ _ _ _ _ _:Value,∀ k4:World,y0 j4 k4->
 CondV j4 (
 RR (sOp (.load 34 (.const k0)) 34) k4 fun l4 m4=>
 RR (sOp (.load 34 (.const m0)) 34) m4 fun n4 o4=>
 RR (sCall (Value.func (.func 21) #[] #[]) [l4,n4]) o4 fun q4 s4=>
 RR (sBin .eql 4 false false w0 q4) s4 fun t4 u4=>
 R (.returned t4) u4) (
 RR (sOp (.fieldAddr 34 (.const k0) 0) 0) k4 fun v4 w4=>
 RR (sOp (.load 32 (.const v4)) 32) w4 fun x4 y4=>
 RR (sOp (.fieldAddr 34 (.const m0) 0) 0) y4 fun z4 A4=>
 RR (sOp (.load 32 (.const z4)) 32) A4 fun B4 C4=>
 RR (sCall (Value.func (.func 23) #[] #[]) [x4,B4]) C4 fun D4 E4=>
 RR (sBin .eql 4 false false w0 D4) E4 fun F4 G4=>
 R (.returned F4) G4)))
theorem eC {p0:Value} {w:World} {R:Ending->World->Prop} (h:de p0 w R):Calls Tryz.prog 5 #[p0] w R:=
  calls_sh (.seq none .leaf (.seq none .leaf (.seq none .leaf (.seq none .leaf (.seq none (.seq (some [43]) .leaf .leaf) .leaf))))) [p0] aB Tryz.func5 (by kernel_rfl) (by kernel_rfl) h


/- loop.example/prologserver/spec.DrawSubsumedClause : function 19 -/
def cz (p0:Value) (w:World) (R:Ending->World->Prop):Prop:=
 RR (sOp (.alloc 34) 0) w fun a0 b0=>
 RR (sOp (.alloc 34) 0) b0 fun c0 d0=>
 RR (sCall (Value.func (.func 50) #[] #[]) [p0]) d0 fun e0 f0=>
 RR (sCall (Value.func (.func 59) #[] #[]) [e0]) f0 fun g0 h0=>
 RR (sOp (.alloc 34) 0) h0 fun i0 j0=>
 RR (sOp (.store 34 (.const i0) (.const g0)) 0) j0 fun _u k0=>
 (∃ l0:(Nat->Bool)->Value->Value->Value->Value->Value->World->Prop,l0 (fun _=>false) undef undef undef undef undef { k0 with drawn:=k0.drawn+1 }/\(
 (∀ m0:Nat->Bool,m0 0=false->∀ n0 o0 q0 s0 t0 u0,l0 m0 n0 o0 q0 s0 t0 u0->
 RR (sOp (.load 34 (.const i0)) 34) u0 fun v0 w0=>
 l0 (setD m0 0) n0 o0 q0 s0 v0 w0)/\
 (∀ m0:Nat->Bool,m0 1=false->∀ n0 o0 q0 s0 t0 x0,l0 m0 n0 o0 q0 s0 t0 x0->
 l0 (setD m0 1) n0 o0 q0 e0 t0 x0)/\
 (∀ m0:Nat->Bool,m0 2=false->m0 1=true->∀ n0 o0 q0 s0 t0 y0,l0 m0 n0 o0 q0 s0 t0 y0->
 RR (sCall (Value.func (.func 61) #[] #[]) [s0,(Value.int .i64 3)]) y0 fun z0 A0=>
 l0 (setD m0 2) n0 o0 z0 s0 t0 A0)/\
 (∀ m0:Nat->Bool,m0 3=false->m0 0=true->m0 2=true->m0 2=true->∀ n0 o0 q0 s0 t0 B0,l0 m0 n0 o0 q0 s0 t0 B0->
 RR (sCall (Value.func (.func 60) #[] #[]) [t0,q0]) B0 fun C0 D0=>
 l0 (setD m0 3) n0 C0 q0 s0 t0 D0)/\
 (∀ m0:Nat->Bool,m0 4=false->∀ n0 o0 q0 s0 t0 E0,l0 m0 n0 o0 q0 s0 t0 E0->
 RR (sOp (.alloc 34) 0) E0 fun F0 G0=>
 l0 (setD m0 4) F0 o0 q0 s0 t0 G0)/\
 (∀ m0:Nat->Bool,m0 5=false->m0 4=true->m0 3=true->m0 3=true->m0 0=true->m0 1=true->m0 2=true->m0 3=true->m0 4=true->∀ n0 o0 q0 s0 t0 H0,l0 m0 n0 o0 q0 s0 t0 H0->
 RR (sOp (.store 34 (.const n0) (.const o0)) 0) H0 fun _u I0=>
 l0 (setD m0 5) n0 o0 q0 s0 t0 I0)/\
 True)/\
 ∀ m0:Nat->Bool,m0 5=true->m0 4=true->m0 3=true->m0 2=true->m0 1=true->m0 0=true->∀ n0 o0 q0 s0 t0 J0,l0 m0 n0 o0 q0 s0 t0 J0->
 (∃ K0:World->Prop,(
 (∃ L0:Value->World->Prop,(
 RR (sOp (.fieldAddr 34 (.const n0) 1) 0) J0 fun M0 N0=>
 RR (sOp (.load 30 (.const M0)) 30) N0 fun O0 P0=>
 RR (sBuiltin .len #[30] 3 [false] [O0]) P0 fun Q0 S0=>
 RR (sBin .gtr 3 false true Q0 (Value.int .i64 0)) S0 fun T0 U0=>
 GuardV T0 true (
 RR (sCall (Value.func (.func 61) #[] #[]) [e0,(Value.int .i64 2)]) U0 fun V0 W0=>
 RR (sBin .eql 3 false true V0 (Value.int .i64 0)) W0 fun X0 Y0=>
 RR (sOp (.pick (.const T0) (.const X0) (.const (Value.bool false))) 4) Y0 fun Z0 a1=>
 L0 Z0 a1) (
 RR (sOp (.pick (.const T0) (.const undef) (.const (Value.bool false))) 4) U0 fun b1 c1=>
 L0 b1 c1))/\
 ∀ d1 _ _ _ _ _ _ _ _:Value,∀ e1:World,L0 d1 e1->
 CondV d1 (
 RR (sOp (.fieldAddr 34 (.const n0) 1) 0) e1 fun f1 g1=>
 RR (sOp (.load 30 (.const f1)) 30) g1 fun h1 i1=>
 RR (sOp (.fieldAddr 34 (.const n0) 1) 0) i1 fun j1 k1=>
 RR (sOp (.load 30 (.const j1)) 30) k1 fun l1 m1=>
 RR (sBuiltin .len #[30] 3 [false] [l1]) m1 fun n1 o1=>
 RR (sBin .sub 3 false true n1 (Value.int .i64 1)) o1 fun q1 s1=>
 RR (sOp (.slice 30 (.const h1) none (some (.const q1)) none) 30) s1 fun t1 u1=>
 RR (sOp (.fieldAddr 34 (.const n0) 1) 0) u1 fun v1 w1=>
 RR (sOp (.store 30 (.const v1) (.const t1)) 0) w1 fun _u x1=>
 K0 x1) (
 K0 e1)))/\
 ∀ _ _ _ _ _ _ _ _ _ _ _ _ _ _ _ _ _:Value,∀ y1:World,K0 y1->
 (∃ z1:World->Prop,(
 RR (sCall (Value.func (.func 61) #[] #[]) [e0,(Value.int .i64 3)]) y1 fun A1 B1=>
 RR (sBin .eql 3 false true A1 (Value.int .i64 0)) B1 fun C1 D1=>
 CondV C1 (
 RR (sCall (Value.func (.func 59) #[] #[]) [e0]) D1 fun E1 F1=>
 RR (sOp (.store 34 (.const n0) (.const E1)) 0) F1 fun _u G1=>
 z1 G1) (
 z1 D1))/\
 ∀ _ _ _ _ _:Value,∀ H1:World,z1 H1->
 (∃ I1:(Nat->Bool)->Value->Value->Value->Value->Value->Value->World->Prop,I1 (fun _=>false) undef undef undef undef undef undef { H1 with drawn:=H1.drawn+1 }/\(
 (∀ J1:Nat->Bool,J1 0=false->∀ K1 L1 M1 N1 O1 P1 Q1,I1 J1 K1 L1 M1 N1 O1 P1 Q1->
 I1 (setD J1 0) K1 L1 M1 N1 O1 e0 Q1)/\
 (∀ J1:Nat->Bool,J1 1=false->∀ K1 L1 M1 N1 O1 P1 S1,I1 J1 K1 L1 M1 N1 O1 P1 S1->
 RR (sOp (.load 34 (.const i0)) 34) S1 fun T1 U1=>
 I1 (setD J1 1) K1 L1 M1 N1 T1 P1 U1)/\
 (∀ J1:Nat->Bool,J1 2=false->J1 0=true->J1 1=true->∀ K1 L1 M1 N1 O1 P1 V1,I1 J1 K1 L1 M1 N1 O1 P1 V1->
 RR (sCall (Value.func (.func 62) #[] #[]) [P1,O1]) V1 fun W1 X1=>
 I1 (setD J1 2) K1 L1 M1 W1 O1 P1 X1)/\
 (∀ J1:Nat->Bool,J1 3=false->∀ K1 L1 M1 N1 O1 P1 Y1,I1 J1 K1 L1 M1 N1 O1 P1 Y1->
 I1 (setD J1 3) K1 L1 e0 N1 O1 P1 Y1)/\
 (∀ J1:Nat->Bool,J1 4=false->∀ K1 L1 M1 N1 O1 P1 Z1,I1 J1 K1 L1 M1 N1 O1 P1 Z1->
 RR (sOp (.load 34 (.const n0)) 34) Z1 fun a2 b2=>
 I1 (setD J1 4) K1 a2 M1 N1 O1 P1 b2)/\
 (∀ J1:Nat->Bool,J1 5=false->J1 3=true->J1 4=true->J1 2=true->∀ K1 L1 M1 N1 O1 P1 c2,I1 J1 K1 L1 M1 N1 O1 P1 c2->
 RR (sCall (Value.func (.func 62) #[] #[]) [M1,L1]) c2 fun d2 e2=>
 I1 (setD J1 5) d2 L1 M1 N1 O1 P1 e2)/\
 (∀ J1:Nat->Bool,J1 6=false->J1 2=true->J1 5=true->J1 0=true->J1 1=true->J1 2=true->∀ K1 L1 M1 N1 O1 P1 f2,I1 J1 K1 L1 M1 N1 O1 P1 f2->
 RR (sOp (.store 34 (.const a0) (.const N1)) 0) f2 fun _u g2=>
 I1 (setD J1 6) K1 L1 M1 N1 O1 P1 g2)/\
 (∀ J1:Nat->Bool,J1 7=false->J1 5=true->J1 6=true->J1 0=true->J1 1=true->J1 2=true->J1 3=true->J1 4=true->J1 5=true->J1 6=true->∀ K1 L1 M1 N1 O1 P1 h2,I1 J1 K1 L1 M1 N1 O1 P1 h2->
 RR (sOp (.store 34 (.const c0) (.const K1)) 0) h2 fun _ i2=>
 I1 (setD J1 7) K1 L1 M1 N1 O1 P1 i2)/\
 True)/\
 ∀ J1:Nat->Bool,J1 7=true->J1 6=true->J1 5=true->J1 4=true->J1 3=true->J1 2=true->J1 1=true->J1 0=true->∀ K1 L1 M1 N1 O1 P1 j2,I1 J1 K1 L1 M1 N1 O1 P1 j2->
 (LoadV Tryz.prog 34 a0 j2 fun r0=>(LoadV Tryz.prog 34 c0 j2 fun r1=>R (.returned (.tuple #[r0,r1])) j2))))))
theorem dz {p0:Value} {w:World} {R:Ending->World->Prop} (h:cz p0 w R):Calls Tryz.prog 19 #[p0] w R:=
  calls_sh (.seq none .leaf (.seq none .leaf (.seq none .leaf (.seq none .leaf (.seq (some []) (.seq (some [23]) .leaf .leaf) (.seq (some []) .leaf .leaf)))))) [p0] aB Tryz.func19 (by kernel_rfl) (by kernel_rfl) h


/- loop.example/prologserver/impl.SubsumedClause : function 20 -/
def dh (p0 p1:Value) (w:World) (R:Ending->World->Prop):Prop:=
 RR (sOp (.box 34 (.const p0)) 0) w fun a0 b0=>
 RR (sOp (.box 34 (.const p1)) 0) b0 fun c0 d0=>
 (∃ e0:Value->World->Prop,(
 RR (sOp (.load 34 (.const a0)) 34) d0 fun f0 g0=>
 RR (sCall (Value.func (.func 22) #[] #[]) [f0]) g0 fun h0 i0=>
 RR (sOp (.unOp .not 4 (.const h0)) 4) i0 fun j0 k0=>
 GuardV j0 false (
 RR (sOp (.load 34 (.const c0)) 34) k0 fun l0 m0=>
 RR (sCall (Value.func (.func 22) #[] #[]) [l0]) m0 fun n0 o0=>
 RR (sOp (.unOp .not 4 (.const n0)) 4) o0 fun q0 s0=>
 RR (sOp (.pick (.const j0) (.const (Value.bool true)) (.const q0)) 4) s0 fun t0 u0=>
 GuardV t0 false (
 RR (sOp (.fieldAddr 34 (.const c0) 1) 0) u0 fun v0 w0=>
 RR (sOp (.load 30 (.const v0)) 30) w0 fun x0 y0=>
 RR (sBuiltin .len #[30] 3 [false] [x0]) y0 fun z0 A0=>
 RR (sOp (.fieldAddr 34 (.const a0) 1) 0) A0 fun B0 C0=>
 RR (sOp (.load 30 (.const B0)) 30) C0 fun D0 E0=>
 RR (sBuiltin .len #[30] 3 [false] [D0]) E0 fun F0 G0=>
 RR (sBin .gtr 3 false false z0 F0) G0 fun H0 I0=>
 RR (sOp (.pick (.const t0) (.const (Value.bool true)) (.const H0)) 4) I0 fun J0 K0=>
 e0 J0 K0) (
 RR (sOp (.pick (.const t0) (.const (Value.bool true)) (.const undef)) 4) u0 fun L0 M0=>
 e0 L0 M0)) (
 RR (sOp (.pick (.const j0) (.const (Value.bool true)) (.const undef)) 4) k0 fun N0 O0=>
 GuardV N0 false (
 RR (sOp (.fieldAddr 34 (.const c0) 1) 0) O0 fun P0 Q0=>
 RR (sOp (.load 30 (.const P0)) 30) Q0 fun S0 T0=>
 RR (sBuiltin .len #[30] 3 [false] [S0]) T0 fun U0 V0=>
 RR (sOp (.fieldAddr 34 (.const a0) 1) 0) V0 fun W0 X0=>
 RR (sOp (.load 30 (.const W0)) 30) X0 fun Y0 Z0=>
 RR (sBuiltin .len #[30] 3 [false] [Y0]) Z0 fun a1 b1=>
 RR (sBin .gtr 3 false false U0 a1) b1 fun c1 d1=>
 RR (sOp (.pick (.const N0) (.const (Value.bool true)) (.const c1)) 4) d1 fun e1 f1=>
 e0 e1 f1) (
 RR (sOp (.pick (.const N0) (.const (Value.bool true)) (.const undef)) 4) O0 fun g1 h1=>
 e0 g1 h1)))/\
 ∀ i1 _ _ _ _ _ _ _ _ _ _ _ _ _ _ _ _:Value,∀ j1:World,e0 i1 j1->
 CondV i1 (
 R (.returned (Value.bool false)) j1) (
 RR (sOp (.makeMap 77 none) 77) j1 fun k1 l1=>
 RR (sOp (.fieldAddr 34 (.const a0) 0) 0) l1 fun m1 n1=>
 RR (sOp (.load 32 (.const m1)) 32) n1 fun o1 q1=>
 RR (sOp (.fieldAddr 34 (.const c0) 0) 0) q1 fun s1 t1=>
 RR (sOp (.load 32 (.const s1)) 32) t1 fun u1 v1=>
 RR (sCall (Value.func (.func 63) #[] #[]) [o1,u1,k1]) v1 fun w1 x1=>
 RR (sOp (.unOp .not 4 (.const w1)) 4) x1 fun y1 z1=>
 CondV y1 (
 R (.returned (Value.bool false)) z1) (
 RR (sOp (.fieldAddr 34 (.const c0) 1) 0) z1 fun A1 B1=>
 RR (sOp (.load 30 (.const A1)) 30) B1 fun C1 D1=>
 RR (sBuiltin .len #[30] 3 [false] [C1]) D1 fun E1 F1=>
 (∃ (G1:Value->World->Prop) (H1:Value->World->Nat),G1 (Value.int .i64 0) F1/\
 ∀ I1 _ _ J1 K1 L1 M1 N1 O1 P1 Q1 S1 _ _ _ _ _ _:Value,∀ T1:World,G1 I1 T1->
 RR (sBin .lss 3 false false I1 E1) T1 fun U1 V1=>
 CondV U1 (
 RR (sOp (.indexAddr 30 (.const C1) (.const I1)) 0) V1 fun W1 X1=>
 RR (sOp (.load 32 (.const W1)) 32) X1 fun Y1 Z1=>
 RR (sOp (.alloc 32) 0) Z1 fun a2 b2=>
 RR (sOp (.store 32 (.const a2) (.const Y1)) 0) b2 fun _ c2=>
 (∃ d2:(Nat->Bool)->Value->Value->Value->Value->Value->Value->Value->Value->Value->World->Prop,d2 (fun _=>false) J1 K1 L1 M1 N1 O1 P1 Q1 S1 { c2 with drawn:=c2.drawn+1 }/\(
 (∀ e2:Nat->Bool,e2 0=false->∀ f2 g2 h2 i2 j2 k2 l2 m2 n2 o2,d2 e2 f2 g2 h2 i2 j2 k2 l2 m2 n2 o2->
 RR (sOp (.fieldAddr 34 (.const a0) 1) 0) o2 fun q2 s2=>
 d2 (setD e2 0) f2 g2 h2 i2 j2 k2 l2 m2 q2 s2)/\
 (∀ e2:Nat->Bool,e2 1=false->e2 0=true->∀ f2 g2 h2 i2 j2 k2 l2 m2 n2 t2,d2 e2 f2 g2 h2 i2 j2 k2 l2 m2 n2 t2->
 RR (sOp (.load 30 (.const n2)) 30) t2 fun u2 v2=>
 d2 (setD e2 1) f2 g2 h2 i2 j2 k2 l2 u2 n2 v2)/\
 (∀ e2:Nat->Bool,e2 2=false->∀ f2 g2 h2 i2 j2 k2 l2 m2 n2 w2,d2 e2 f2 g2 h2 i2 j2 k2 l2 m2 n2 w2->
 d2 (setD e2 2) f2 g2 h2 i2 j2 k2 I1 m2 n2 w2)/\
 (∀ e2:Nat->Bool,e2 3=false->e2 1=true->e2 2=true->∀ f2 g2 h2 i2 j2 k2 l2 m2 n2 x2,d2 e2 f2 g2 h2 i2 j2 k2 l2 m2 n2 x2->
 RR (sOp (.indexAddr 30 (.const m2) (.const l2)) 0) x2 fun y2 z2=>
 d2 (setD e2 3) f2 g2 h2 i2 j2 y2 l2 m2 n2 z2)/\
 (∀ e2:Nat->Bool,e2 4=false->e2 3=true->∀ f2 g2 h2 i2 j2 k2 l2 m2 n2 A2,d2 e2 f2 g2 h2 i2 j2 k2 l2 m2 n2 A2->
 RR (sOp (.load 32 (.const k2)) 32) A2 fun B2 C2=>
 d2 (setD e2 4) f2 g2 h2 i2 B2 k2 l2 m2 n2 C2)/\
 (∀ e2:Nat->Bool,e2 5=false->∀ f2 g2 h2 i2 j2 k2 l2 m2 n2 D2,d2 e2 f2 g2 h2 i2 j2 k2 l2 m2 n2 D2->
 RR (sOp (.load 32 (.const a2)) 32) D2 fun E2 F2=>
 d2 (setD e2 5) f2 g2 h2 E2 j2 k2 l2 m2 n2 F2)/\
 (∀ e2:Nat->Bool,e2 6=false->∀ f2 g2 h2 i2 j2 k2 l2 m2 n2 G2,d2 e2 f2 g2 h2 i2 j2 k2 l2 m2 n2 G2->
 d2 (setD e2 6) f2 g2 k1 i2 j2 k2 l2 m2 n2 G2)/\
 (∀ e2:Nat->Bool,e2 7=false->e2 4=true->e2 5=true->e2 6=true->∀ f2 g2 h2 i2 j2 k2 l2 m2 n2 H2,d2 e2 f2 g2 h2 i2 j2 k2 l2 m2 n2 H2->
 RR (sCall (Value.func (.func 63) #[] #[]) [j2,i2,h2]) H2 fun I2 J2=>
 d2 (setD e2 7) f2 I2 h2 i2 j2 k2 l2 m2 n2 J2)/\
 (∀ e2:Nat->Bool,e2 8=false->e2 7=true->∀ f2 g2 h2 i2 j2 k2 l2 m2 n2 K2,d2 e2 f2 g2 h2 i2 j2 k2 l2 m2 n2 K2->
 RR (sOp (.unOp .not 4 (.const g2)) 4) K2 fun L2 M2=>
 d2 (setD e2 8) L2 g2 h2 i2 j2 k2 l2 m2 n2 M2)/\
 True)/\
 ∀ e2:Nat->Bool,e2 8=true->e2 7=true->e2 6=true->e2 5=true->e2 4=true->e2 3=true->e2 2=true->e2 1=true->e2 0=true->∀ f2 g2 h2 i2 j2 k2 l2 m2 n2 N2,d2 e2 f2 g2 h2 i2 j2 k2 l2 m2 n2 N2->
 CondV f2 (
 R (.returned (Value.bool false)) N2) (
 RR (sBin .add 3 false true I1 (Value.int .i64 1)) N2 fun O2 P2=>
 G1 O2 P2/\H1 O2 P2<H1 I1 T1))) (
 R (.returned (Value.bool true)) V1)))))
theorem ew {p0 p1:Value} {w:World} {R:Ending->World->Prop} (h:dh p0 p1 w R):Calls Tryz.prog 20 #[p0,p1] w R:=
  calls_sh (.seq none .leaf (.seq none (.seq (some [24]) .leaf .leaf) (.seq none .leaf (.seq none .leaf (.seq none (.seq none .leaf (.one (.loop [36] .leaf))) .leaf))))) [p0,p1] aB Tryz.func20 (by kernel_rfl) (by kernel_rfl) h


/- loop.example/prologserver/spec.SubsumedClause : function 21 -/
def df (p0 p1:Value) (w:World) (R:Ending->World->Prop):Prop:=
 RR (sOp (.box 34 (.const p0)) 0) w fun a0 b0=>
 RR (sOp (.box 34 (.const p1)) 0) b0 fun c0 d0=>
 (∃ e0:Value->World->Prop,(
 RR (sOp (.load 34 (.const a0)) 34) d0 fun f0 g0=>
 RR (sCall (Value.func (.func 64) #[] #[]) [f0]) g0 fun h0 i0=>
 RR (sOp (.unOp .not 4 (.const h0)) 4) i0 fun j0 k0=>
 GuardV j0 false (
 RR (sOp (.load 34 (.const c0)) 34) k0 fun l0 m0=>
 RR (sCall (Value.func (.func 64) #[] #[]) [l0]) m0 fun n0 o0=>
 RR (sOp (.unOp .not 4 (.const n0)) 4) o0 fun q0 s0=>
 RR (sOp (.pick (.const j0) (.const (Value.bool true)) (.const q0)) 4) s0 fun t0 u0=>
 GuardV t0 false (
 RR (sOp (.fieldAddr 34 (.const c0) 1) 0) u0 fun v0 w0=>
 RR (sOp (.load 30 (.const v0)) 30) w0 fun x0 y0=>
 RR (sBuiltin .len #[30] 3 [false] [x0]) y0 fun z0 A0=>
 RR (sOp (.fieldAddr 34 (.const a0) 1) 0) A0 fun B0 C0=>
 RR (sOp (.load 30 (.const B0)) 30) C0 fun D0 E0=>
 RR (sBuiltin .len #[30] 3 [false] [D0]) E0 fun F0 G0=>
 RR (sBin .gtr 3 false false z0 F0) G0 fun H0 I0=>
 RR (sOp (.pick (.const t0) (.const (Value.bool true)) (.const H0)) 4) I0 fun J0 K0=>
 e0 J0 K0) (
 RR (sOp (.pick (.const t0) (.const (Value.bool true)) (.const undef)) 4) u0 fun L0 M0=>
 e0 L0 M0)) (
 RR (sOp (.pick (.const j0) (.const (Value.bool true)) (.const undef)) 4) k0 fun N0 O0=>
 GuardV N0 false (
 RR (sOp (.fieldAddr 34 (.const c0) 1) 0) O0 fun P0 Q0=>
 RR (sOp (.load 30 (.const P0)) 30) Q0 fun S0 T0=>
 RR (sBuiltin .len #[30] 3 [false] [S0]) T0 fun U0 V0=>
 RR (sOp (.fieldAddr 34 (.const a0) 1) 0) V0 fun W0 X0=>
 RR (sOp (.load 30 (.const W0)) 30) X0 fun Y0 Z0=>
 RR (sBuiltin .len #[30] 3 [false] [Y0]) Z0 fun a1 b1=>
 RR (sBin .gtr 3 false false U0 a1) b1 fun c1 d1=>
 RR (sOp (.pick (.const N0) (.const (Value.bool true)) (.const c1)) 4) d1 fun e1 f1=>
 e0 e1 f1) (
 RR (sOp (.pick (.const N0) (.const (Value.bool true)) (.const undef)) 4) O0 fun g1 h1=>
 e0 g1 h1)))/\
 ∀ i1 _ _ _ _ _ _ _ _ _ _ _ _ _ _ _ _:Value,∀ j1:World,e0 i1 j1->
 CondV i1 (
 R (.returned (Value.bool false)) j1) (
 RR (sOp (.makeSlice 30 (.const (Value.int .i64 26)) (.const (Value.int .i64 26))) 30) j1 fun k1 l1=>
 RR (sOp (.fieldAddr 34 (.const c0) 0) 0) l1 fun m1 n1=>
 RR (sOp (.load 32 (.const m1)) 32) n1 fun o1 q1=>
 RR (sOp (.fieldAddr 34 (.const a0) 0) 0) q1 fun s1 t1=>
 RR (sOp (.load 32 (.const s1)) 32) t1 fun u1 v1=>
 RR (sCall (Value.func (.func 65) #[] #[]) [o1,u1,k1]) v1 fun w1 x1=>
 RR (sOp (.unOp .not 4 (.const w1)) 4) x1 fun y1 z1=>
 CondV y1 (
 R (.returned (Value.bool false)) z1) (
 (∃ (A1:Value->World->Prop) (B1:Value->World->Nat),A1 (Value.int .i64 0) z1/\
 ∀ C1 _ _ _ D1 E1 F1 G1 H1 I1 J1 K1 L1 M1 N1 O1 P1 _ _ _ _ _:Value,∀ Q1:World,A1 C1 Q1->
 RR (sOp (.fieldAddr 34 (.const c0) 1) 0) Q1 fun S1 T1=>
 RR (sOp (.load 30 (.const S1)) 30) T1 fun U1 V1=>
 RR (sBuiltin .len #[30] 3 [false] [U1]) V1 fun W1 X1=>
 RR (sBin .lss 3 false false C1 W1) X1 fun Y1 Z1=>
 CondV Y1 (
 (∃ a2:(Nat->Bool)->Value->Value->Value->Value->Value->Value->Value->Value->Value->Value->Value->Value->Value->World->Prop,a2 (fun _=>false) D1 E1 F1 G1 H1 I1 J1 K1 L1 M1 N1 O1 P1 { Z1 with drawn:=Z1.drawn+1 }/\(
 (∀ b2:Nat->Bool,b2 0=false->∀ c2 d2 e2 f2 g2 h2 i2 j2 k2 l2 m2 n2 o2 q2,a2 b2 c2 d2 e2 f2 g2 h2 i2 j2 k2 l2 m2 n2 o2 q2->
 RR (sOp (.fieldAddr 34 (.const c0) 1) 0) q2 fun s2 t2=>
 a2 (setD b2 0) c2 d2 e2 f2 g2 h2 i2 j2 k2 l2 m2 n2 s2 t2)/\
 (∀ b2:Nat->Bool,b2 1=false->b2 0=true->∀ c2 d2 e2 f2 g2 h2 i2 j2 k2 l2 m2 n2 o2 u2,a2 b2 c2 d2 e2 f2 g2 h2 i2 j2 k2 l2 m2 n2 o2 u2->
 RR (sOp (.load 30 (.const o2)) 30) u2 fun v2 w2=>
 a2 (setD b2 1) c2 d2 e2 f2 g2 h2 i2 j2 k2 l2 m2 v2 o2 w2)/\
 (∀ b2:Nat->Bool,b2 2=false->∀ c2 d2 e2 f2 g2 h2 i2 j2 k2 l2 m2 n2 o2 x2,a2 b2 c2 d2 e2 f2 g2 h2 i2 j2 k2 l2 m2 n2 o2 x2->
 a2 (setD b2 2) c2 d2 e2 f2 g2 h2 i2 j2 k2 l2 C1 n2 o2 x2)/\
 (∀ b2:Nat->Bool,b2 3=false->b2 1=true->b2 2=true->∀ c2 d2 e2 f2 g2 h2 i2 j2 k2 l2 m2 n2 o2 y2,a2 b2 c2 d2 e2 f2 g2 h2 i2 j2 k2 l2 m2 n2 o2 y2->
 RR (sOp (.indexAddr 30 (.const n2) (.const m2)) 0) y2 fun z2 A2=>
 a2 (setD b2 3) c2 d2 e2 f2 g2 h2 i2 j2 k2 z2 m2 n2 o2 A2)/\
 (∀ b2:Nat->Bool,b2 4=false->b2 3=true->∀ c2 d2 e2 f2 g2 h2 i2 j2 k2 l2 m2 n2 o2 B2,a2 b2 c2 d2 e2 f2 g2 h2 i2 j2 k2 l2 m2 n2 o2 B2->
 RR (sOp (.load 32 (.const l2)) 32) B2 fun C2 D2=>
 a2 (setD b2 4) c2 d2 e2 f2 g2 h2 i2 j2 C2 l2 m2 n2 o2 D2)/\
 (∀ b2:Nat->Bool,b2 5=false->∀ c2 d2 e2 f2 g2 h2 i2 j2 k2 l2 m2 n2 o2 E2,a2 b2 c2 d2 e2 f2 g2 h2 i2 j2 k2 l2 m2 n2 o2 E2->
 RR (sOp (.fieldAddr 34 (.const a0) 1) 0) E2 fun F2 G2=>
 a2 (setD b2 5) c2 d2 e2 f2 g2 h2 i2 F2 k2 l2 m2 n2 o2 G2)/\
 (∀ b2:Nat->Bool,b2 6=false->b2 5=true->∀ c2 d2 e2 f2 g2 h2 i2 j2 k2 l2 m2 n2 o2 H2,a2 b2 c2 d2 e2 f2 g2 h2 i2 j2 k2 l2 m2 n2 o2 H2->
 RR (sOp (.load 30 (.const j2)) 30) H2 fun I2 J2=>
 a2 (setD b2 6) c2 d2 e2 f2 g2 h2 I2 j2 k2 l2 m2 n2 o2 J2)/\
 (∀ b2:Nat->Bool,b2 7=false->∀ c2 d2 e2 f2 g2 h2 i2 j2 k2 l2 m2 n2 o2 K2,a2 b2 c2 d2 e2 f2 g2 h2 i2 j2 k2 l2 m2 n2 o2 K2->
 a2 (setD b2 7) c2 d2 e2 f2 g2 C1 i2 j2 k2 l2 m2 n2 o2 K2)/\
 (∀ b2:Nat->Bool,b2 8=false->b2 6=true->b2 7=true->∀ c2 d2 e2 f2 g2 h2 i2 j2 k2 l2 m2 n2 o2 L2,a2 b2 c2 d2 e2 f2 g2 h2 i2 j2 k2 l2 m2 n2 o2 L2->
 RR (sOp (.indexAddr 30 (.const i2) (.const h2)) 0) L2 fun M2 N2=>
 a2 (setD b2 8) c2 d2 e2 f2 M2 h2 i2 j2 k2 l2 m2 n2 o2 N2)/\
 (∀ b2:Nat->Bool,b2 9=false->b2 8=true->∀ c2 d2 e2 f2 g2 h2 i2 j2 k2 l2 m2 n2 o2 O2,a2 b2 c2 d2 e2 f2 g2 h2 i2 j2 k2 l2 m2 n2 o2 O2->
 RR (sOp (.load 32 (.const g2)) 32) O2 fun P2 Q2=>
 a2 (setD b2 9) c2 d2 e2 P2 g2 h2 i2 j2 k2 l2 m2 n2 o2 Q2)/\
 (∀ b2:Nat->Bool,b2 10=false->∀ c2 d2 e2 f2 g2 h2 i2 j2 k2 l2 m2 n2 o2 S2,a2 b2 c2 d2 e2 f2 g2 h2 i2 j2 k2 l2 m2 n2 o2 S2->
 a2 (setD b2 10) c2 d2 k1 f2 g2 h2 i2 j2 k2 l2 m2 n2 o2 S2)/\
 (∀ b2:Nat->Bool,b2 11=false->b2 4=true->b2 9=true->b2 10=true->∀ c2 d2 e2 f2 g2 h2 i2 j2 k2 l2 m2 n2 o2 T2,a2 b2 c2 d2 e2 f2 g2 h2 i2 j2 k2 l2 m2 n2 o2 T2->
 RR (sCall (Value.func (.func 65) #[] #[]) [k2,f2,e2]) T2 fun U2 V2=>
 a2 (setD b2 11) c2 U2 e2 f2 g2 h2 i2 j2 k2 l2 m2 n2 o2 V2)/\
 (∀ b2:Nat->Bool,b2 12=false->b2 11=true->∀ c2 d2 e2 f2 g2 h2 i2 j2 k2 l2 m2 n2 o2 W2,a2 b2 c2 d2 e2 f2 g2 h2 i2 j2 k2 l2 m2 n2 o2 W2->
 RR (sOp (.unOp .not 4 (.const d2)) 4) W2 fun X2 Y2=>
 a2 (setD b2 12) X2 d2 e2 f2 g2 h2 i2 j2 k2 l2 m2 n2 o2 Y2)/\
 True)/\
 ∀ b2:Nat->Bool,b2 12=true->b2 11=true->b2 10=true->b2 9=true->b2 8=true->b2 7=true->b2 6=true->b2 5=true->b2 4=true->b2 3=true->b2 2=true->b2 1=true->b2 0=true->∀ c2 d2 e2 f2 g2 h2 i2 j2 k2 l2 m2 n2 o2 Z2,a2 b2 c2 d2 e2 f2 g2 h2 i2 j2 k2 l2 m2 n2 o2 Z2->
 CondV c2 (
 R (.returned (Value.bool false)) Z2) (
 RR (sBin .add 3 false true C1 (Value.int .i64 1)) Z2 fun a3 b3=>
 A1 a3 b3/\B1 a3 b3<B1 C1 Q1))) (
 R (.returned (Value.bool true)) Z1)))))
theorem eB {p0 p1:Value} {w:World} {R:Ending->World->Prop} (h:df p0 p1 w R):Calls Tryz.prog 21 #[p0,p1] w R:=
  calls_sh (.seq none .leaf (.seq none (.seq (some [23]) .leaf .leaf) (.seq none .leaf (.seq none .leaf (.seq none (.seq none .leaf (.one (.loop [6] .leaf))) .leaf))))) [p0,p1] aB Tryz.func21 (by kernel_rfl) (by kernel_rfl) h


/- loop.example/prologserver/impl.ClauseValid : function 22 -/
def ek (p0:Value) (w:World) (R:Ending->World->Prop):Prop:=
 RR (sOp (.box 34 (.const p0)) 0) w fun a0 b0=>
 RR (sOp (.fieldAddr 34 (.const a0) 0) 0) b0 fun c0 d0=>
 RR (sOp (.load 32 (.const c0)) 32) d0 fun e0 f0=>
 RR (sCall (Value.func (.func 66) #[] #[]) [e0]) f0 fun g0 h0=>
 GuardV g0 true (
 RR (sOp (.fieldAddr 34 (.const a0) 0) 0) h0 fun i0 j0=>
 RR (sOp (.load 32 (.const i0)) 32) j0 fun k0 l0=>
 RR (sCall (Value.func (.func 67) #[] #[]) [k0]) l0 fun m0 n0=>
 RR (sOp (.pick (.const g0) (.const m0) (.const (Value.bool false))) 4) n0 fun o0 q0=>
 GuardV o0 true (
 RR (sOp (.fieldAddr 34 (.const a0) 1) 0) q0 fun s0 t0=>
 RR (sOp (.load 30 (.const s0)) 30) t0 fun u0 v0=>
 RR (sCall (Value.func (.func 68) #[] #[]) [u0]) v0 fun w0 x0=>
 RR (sOp (.pick (.const o0) (.const w0) (.const (Value.bool false))) 4) x0 fun y0 z0=>
 R (.returned y0) z0) (
 RR (sOp (.pick (.const o0) (.const undef) (.const (Value.bool false))) 4) q0 fun A0 B0=>
 R (.returned A0) B0)) (
 RR (sOp (.pick (.const g0) (.const undef) (.const (Value.bool false))) 4) h0 fun C0 D0=>
 GuardV C0 true (
 RR (sOp (.fieldAddr 34 (.const a0) 1) 0) D0 fun E0 F0=>
 RR (sOp (.load 30 (.const E0)) 30) F0 fun G0 H0=>
 RR (sCall (Value.func (.func 68) #[] #[]) [G0]) H0 fun I0 J0=>
 RR (sOp (.pick (.const C0) (.const I0) (.const (Value.bool false))) 4) J0 fun K0 L0=>
 R (.returned K0) L0) (
 RR (sOp (.pick (.const C0) (.const undef) (.const (Value.bool false))) 4) D0 fun M0 N0=>
 R (.returned M0) N0))
theorem gv {p0:Value} {w:World} {R:Ending->World->Prop} (h:ek p0 w R):Calls Tryz.prog 22 #[p0] w R:=
  calls_sh .leaf [p0] aB Tryz.func22 (by kernel_rfl) (by kernel_rfl) h


/- loop.example/prologserver/impl.InstanceOf : function 23 -/
def eR (p0 p1:Value) (w:World) (R:Ending->World->Prop):Prop:=
 RR (sOp (.box 32 (.const p0)) 0) w fun a0 b0=>
 RR (sOp (.box 32 (.const p1)) 0) b0 fun c0 d0=>
 RR (sOp (.load 32 (.const a0)) 32) d0 fun e0 f0=>
 RR (sCall (Value.func (.func 66) #[] #[]) [e0]) f0 fun g0 h0=>
 GuardV g0 true (
 RR (sOp (.load 32 (.const c0)) 32) h0 fun i0 j0=>
 RR (sCall (Value.func (.func 66) #[] #[]) [i0]) j0 fun k0 l0=>
 RR (sOp (.pick (.const g0) (.const k0) (.const (Value.bool false))) 4) l0 fun m0 n0=>
 GuardV m0 true (
 RR (sOp (.load 32 (.const a0)) 32) n0 fun o0 q0=>
 RR (sOp (.load 32 (.const c0)) 32) q0 fun s0 t0=>
 RR (sOp (.makeMap 77 none) 77) t0 fun u0 v0=>
 RR (sCall (Value.func (.func 63) #[] #[]) [o0,s0,u0]) v0 fun w0 x0=>
 RR (sOp (.pick (.const m0) (.const w0) (.const (Value.bool false))) 4) x0 fun y0 z0=>
 R (.returned y0) z0) (
 RR (sOp (.pick (.const m0) (.const undef) (.const (Value.bool false))) 4) n0 fun A0 B0=>
 R (.returned A0) B0)) (
 RR (sOp (.pick (.const g0) (.const undef) (.const (Value.bool false))) 4) h0 fun C0 D0=>
 GuardV C0 true (
 RR (sOp (.load 32 (.const a0)) 32) D0 fun E0 F0=>
 RR (sOp (.load 32 (.const c0)) 32) F0 fun G0 H0=>
 RR (sOp (.makeMap 77 none) 77) H0 fun I0 J0=>
 RR (sCall (Value.func (.func 63) #[] #[]) [E0,G0,I0]) J0 fun K0 L0=>
 RR (sOp (.pick (.const C0) (.const K0) (.const (Value.bool false))) 4) L0 fun M0 N0=>
 R (.returned M0) N0) (
 RR (sOp (.pick (.const C0) (.const undef) (.const (Value.bool false))) 4) D0 fun O0 P0=>
 R (.returned O0) P0))
theorem iB {p0 p1:Value} {w:World} {R:Ending->World->Prop} (h:eR p0 p1 w R):Calls Tryz.prog 23 #[p0,p1] w R:=
  calls_sh .leaf [p0,p1] aB Tryz.func23 (by kernel_rfl) (by kernel_rfl) h


/- loop.example/prologserver/spec.l18Open : function 50 -/
def jq (p0:Value) (w:World) (R:Ending->World->Prop):Prop:=
 (∃ a0:Value->World->Prop,(
 RR (sBuiltin .len #[22] 3 [false] [p0]) w fun b0 c0=>
 RR (sBin .gtr 3 false true b0 (Value.int .i64 2000)) c0 fun d0 e0=>
 CondV d0 (
 RR (sOp (.slice 22 (.const p0) none (some (.const (Value.int .i64 2000))) none) 22) e0 fun f0 g0=>
 a0 f0 g0) (
 a0 p0 e0))/\
 ∀ h0 _ _ _ _ _:Value,∀ i0:World,a0 h0 i0->
 RR (sBuild 102 [(0,h0)]) i0 fun j0 k0=>
 RR (sOp (.box 102 (.const j0)) 66) k0 fun l0 m0=>
 R (.returned l0) m0)
theorem mC {p0:Value} {w:World} {R:Ending->World->Prop} (h:jq p0 w R):Calls Tryz.prog 50 #[p0] w R:=
  calls_sh (.seq none .leaf (.seq (some [0]) .leaf .leaf)) [p0] aB Tryz.func50 (by kernel_rfl) (by kernel_rfl) h


/- loop.example/prologserver/spec.l4Clause : function 59 -/
def gL (p0:Value) (w:World) (R:Ending->World->Prop):Prop:=
 RR (sOp (.alloc 34) 0) w fun a0 b0=>
 RR (sCall (Value.func (.func 91) #[] #[]) [p0]) b0 fun c0 d0=>
 RR (sCall (Value.func (.func 61) #[] #[]) [p0,(Value.int .i64 4)]) d0 fun e0 f0=>
 RR (sBin .gtr 3 false true e0 (Value.int .i64 0)) f0 fun g0 h0=>
 CondV g0 (
 RR (sBuiltin .len #[23] 3 [false] [c0]) h0 fun i0 j0=>
 RR (sCall (Value.func (.func 61) #[] #[]) [p0,i0]) j0 fun k0 l0=>
 RR (sOp (.indexAddr 23 (.const c0) (.const k0)) 0) l0 fun m0 n0=>
 RR (sOp (.load 34 (.const m0)) 34) n0 fun o0 q0=>
 RR (sOp (.store 34 (.const a0) (.const o0)) 0) q0 fun _u s0=>
 (LoadV Tryz.prog 34 a0 s0 fun r0=>R (.returned r0) s0)) (
 RR (sBuildSlice 82 3 [(0,(Value.string ⟨#[112]⟩)),(1,(Value.string ⟨#[113]⟩)),(2,(Value.string ⟨#[102,111,111]⟩))]) h0 fun t0 u0=>
 RR (sCall (Value.func (.func 109) #[] #[]) [p0,t0]) u0 fun v0 w0=>
 RR (sCall (Value.func (.func 110) #[] #[]) [p0,(Value.int .i64 2)]) w0 fun x0 y0=>
 RR (sBuildSlice 30 1 [(0,x0)]) y0 fun z0 A0=>
 RR (sCall (Value.func (.func 106) #[] #[]) [v0,z0]) A0 fun B0 C0=>
 RR (sBuild 34 [(0,B0)]) C0 fun D0 E0=>
 RR (sOp (.alloc 34) 0) E0 fun F0 G0=>
 RR (sOp (.store 34 (.const F0) (.const D0)) 0) G0 fun _u H0=>
 RR (sCall (Value.func (.func 61) #[] #[]) [p0,(Value.int .i64 3)]) H0 fun I0 J0=>
 (∃ (K0:Value->World->Prop) (L0:Value->World->Nat),K0 I0 J0/\
 ∀ M0 _ _ N0 O0 P0 Q0 S0 T0 U0 V0 W0 X0 Y0 Z0 a1 b1 _ _:Value,∀ c1:World,K0 M0 c1->
 RR (sBin .gtr 3 false true M0 (Value.int .i64 0)) c1 fun d1 e1=>
 CondV d1 (
 (∃ f1:(Nat->Bool)->Value->Value->Value->Value->Value->Value->Value->Value->Value->Value->Value->Value->Value->Value->World->Prop,f1 (fun _=>false) N0 O0 P0 Q0 S0 T0 U0 V0 W0 X0 Y0 Z0 a1 b1 { e1 with drawn:=e1.drawn+1 }/\(
 (∀ g1:Nat->Bool,g1 0=false->∀ h1 i1 j1 k1 l1 m1 n1 o1 q1 s1 t1 u1 v1 w1 x1,f1 g1 h1 i1 j1 k1 l1 m1 n1 o1 q1 s1 t1 u1 v1 w1 x1->
 RR (sOp (.fieldAddr 34 (.const F0) 1) 0) x1 fun y1 z1=>
 f1 (setD g1 0) h1 i1 j1 k1 l1 m1 n1 o1 q1 s1 t1 u1 v1 y1 z1)/\
 (∀ g1:Nat->Bool,g1 1=false->g1 0=true->∀ h1 i1 j1 k1 l1 m1 n1 o1 q1 s1 t1 u1 v1 w1 A1,f1 g1 h1 i1 j1 k1 l1 m1 n1 o1 q1 s1 t1 u1 v1 w1 A1->
 RR (sOp (.load 30 (.const w1)) 30) A1 fun B1 C1=>
 f1 (setD g1 1) h1 i1 j1 k1 l1 m1 n1 o1 q1 s1 t1 u1 B1 w1 C1)/\
 (∀ g1:Nat->Bool,g1 2=false->∀ h1 i1 j1 k1 l1 m1 n1 o1 q1 s1 t1 u1 v1 w1 D1,f1 g1 h1 i1 j1 k1 l1 m1 n1 o1 q1 s1 t1 u1 v1 w1 D1->
 f1 (setD g1 2) h1 i1 j1 k1 l1 m1 n1 o1 q1 s1 t1 p0 v1 w1 D1)/\
 (∀ g1:Nat->Bool,g1 3=false->∀ h1 i1 j1 k1 l1 m1 n1 o1 q1 s1 t1 u1 v1 w1 E1,f1 g1 h1 i1 j1 k1 l1 m1 n1 o1 q1 s1 t1 u1 v1 w1 E1->
 RR (sBuildSlice 82 4 [(0,(Value.string ⟨#[112]⟩)),(1,(Value.string ⟨#[61]⟩)),(2,(Value.string ⟨#[60]⟩)),(3,(Value.string ⟨#[113]⟩))]) E1 fun F1 G1=>
 f1 (setD g1 3) h1 i1 j1 k1 l1 m1 n1 o1 q1 s1 F1 u1 v1 w1 G1)/\
 (∀ g1:Nat->Bool,g1 4=false->g1 2=true->g1 3=true->∀ h1 i1 j1 k1 l1 m1 n1 o1 q1 s1 t1 u1 v1 w1 H1,f1 g1 h1 i1 j1 k1 l1 m1 n1 o1 q1 s1 t1 u1 v1 w1 H1->
 RR (sCall (Value.func (.func 109) #[] #[]) [u1,t1]) H1 fun I1 J1=>
 f1 (setD g1 4) h1 i1 j1 k1 l1 m1 n1 o1 q1 I1 t1 u1 v1 w1 J1)/\
 (∀ g1:Nat->Bool,g1 5=false->∀ h1 i1 j1 k1 l1 m1 n1 o1 q1 s1 t1 u1 v1 w1 K1,f1 g1 h1 i1 j1 k1 l1 m1 n1 o1 q1 s1 t1 u1 v1 w1 K1->
 f1 (setD g1 5) h1 i1 j1 k1 l1 m1 n1 o1 p0 s1 t1 u1 v1 w1 K1)/\
 (∀ g1:Nat->Bool,g1 6=false->g1 5=true->g1 4=true->∀ h1 i1 j1 k1 l1 m1 n1 o1 q1 s1 t1 u1 v1 w1 L1,f1 g1 h1 i1 j1 k1 l1 m1 n1 o1 q1 s1 t1 u1 v1 w1 L1->
 RR (sCall (Value.func (.func 110) #[] #[]) [q1,(Value.int .i64 2)]) L1 fun M1 N1=>
 f1 (setD g1 6) h1 i1 j1 k1 l1 m1 n1 M1 q1 s1 t1 u1 v1 w1 N1)/\
 (∀ g1:Nat->Bool,g1 7=false->∀ h1 i1 j1 k1 l1 m1 n1 o1 q1 s1 t1 u1 v1 w1 O1,f1 g1 h1 i1 j1 k1 l1 m1 n1 o1 q1 s1 t1 u1 v1 w1 O1->
 f1 (setD g1 7) h1 i1 j1 k1 l1 m1 p0 o1 q1 s1 t1 u1 v1 w1 O1)/\
 (∀ g1:Nat->Bool,g1 8=false->g1 7=true->g1 6=true->∀ h1 i1 j1 k1 l1 m1 n1 o1 q1 s1 t1 u1 v1 w1 P1,f1 g1 h1 i1 j1 k1 l1 m1 n1 o1 q1 s1 t1 u1 v1 w1 P1->
 RR (sCall (Value.func (.func 110) #[] #[]) [n1,(Value.int .i64 2)]) P1 fun Q1 S1=>
 f1 (setD g1 8) h1 i1 j1 k1 l1 Q1 n1 o1 q1 s1 t1 u1 v1 w1 S1)/\
 (∀ g1:Nat->Bool,g1 9=false->g1 6=true->g1 8=true->∀ h1 i1 j1 k1 l1 m1 n1 o1 q1 s1 t1 u1 v1 w1 T1,f1 g1 h1 i1 j1 k1 l1 m1 n1 o1 q1 s1 t1 u1 v1 w1 T1->
 RR (sBuildSlice 30 2 [(0,o1),(1,m1)]) T1 fun U1 V1=>
 f1 (setD g1 9) h1 i1 j1 k1 U1 m1 n1 o1 q1 s1 t1 u1 v1 w1 V1)/\
 (∀ g1:Nat->Bool,g1 10=false->g1 4=true->g1 9=true->g1 8=true->∀ h1 i1 j1 k1 l1 m1 n1 o1 q1 s1 t1 u1 v1 w1 W1,f1 g1 h1 i1 j1 k1 l1 m1 n1 o1 q1 s1 t1 u1 v1 w1 W1->
 RR (sCall (Value.func (.func 106) #[] #[]) [s1,l1]) W1 fun X1 Y1=>
 f1 (setD g1 10) h1 i1 j1 X1 l1 m1 n1 o1 q1 s1 t1 u1 v1 w1 Y1)/\
 (∀ g1:Nat->Bool,g1 11=false->g1 10=true->∀ h1 i1 j1 k1 l1 m1 n1 o1 q1 s1 t1 u1 v1 w1 Z1,f1 g1 h1 i1 j1 k1 l1 m1 n1 o1 q1 s1 t1 u1 v1 w1 Z1->
 RR (sBuildSlice 30 1 [(0,k1)]) Z1 fun a2 b2=>
 f1 (setD g1 11) h1 i1 a2 k1 l1 m1 n1 o1 q1 s1 t1 u1 v1 w1 b2)/\
 (∀ g1:Nat->Bool,g1 12=false->g1 1=true->g1 11=true->g1 10=true->∀ h1 i1 j1 k1 l1 m1 n1 o1 q1 s1 t1 u1 v1 w1 c2,f1 g1 h1 i1 j1 k1 l1 m1 n1 o1 q1 s1 t1 u1 v1 w1 c2->
 RR (sBuiltin .append #[30,30] 30 [false,false] [v1,j1]) c2 fun d2 e2=>
 f1 (setD g1 12) h1 d2 j1 k1 l1 m1 n1 o1 q1 s1 t1 u1 v1 w1 e2)/\
 (∀ g1:Nat->Bool,g1 13=false->g1 0=true->g1 1=true->g1 2=true->g1 3=true->g1 4=true->g1 5=true->g1 6=true->g1 7=true->g1 8=true->g1 9=true->g1 10=true->g1 11=true->g1 12=true->∀ h1 i1 j1 k1 l1 m1 n1 o1 q1 s1 t1 u1 v1 w1 f2,f1 g1 h1 i1 j1 k1 l1 m1 n1 o1 q1 s1 t1 u1 v1 w1 f2->
 RR (sOp (.fieldAddr 34 (.const F0) 1) 0) f2 fun g2 h2=>
 f1 (setD g1 13) g2 i1 j1 k1 l1 m1 n1 o1 q1 s1 t1 u1 v1 w1 h2)/\
 (∀ g1:Nat->Bool,g1 14=false->g1 13=true->g1 12=true->g1 12=true->g1 0=true->g1 1=true->g1 2=true->g1 3=true->g1 4=true->g1 5=true->g1 6=true->g1 7=true->g1 8=true->g1 9=true->g1 10=true->g1 11=true->g1 12=true->∀ h1 i1 j1 k1 l1 m1 n1 o1 q1 s1 t1 u1 v1 w1 i2,f1 g1 h1 i1 j1 k1 l1 m1 n1 o1 q1 s1 t1 u1 v1 w1 i2->
 RR (sOp (.store 30 (.const h1) (.const i1)) 0) i2 fun _u j2=>
 f1 (setD g1 14) h1 i1 j1 k1 l1 m1 n1 o1 q1 s1 t1 u1 v1 w1 j2)/\
 True)/\
 ∀ g1:Nat->Bool,g1 14=true->g1 13=true->g1 12=true->g1 11=true->g1 10=true->g1 9=true->g1 8=true->g1 7=true->g1 6=true->g1 5=true->g1 4=true->g1 3=true->g1 2=true->g1 1=true->g1 0=true->∀ h1 i1 j1 k1 l1 m1 n1 o1 q1 s1 t1 u1 v1 w1 k2,f1 g1 h1 i1 j1 k1 l1 m1 n1 o1 q1 s1 t1 u1 v1 w1 k2->
 RR (sBin .sub 3 false true M0 (Value.int .i64 1)) k2 fun l2 m2=>
 K0 l2 m2/\L0 l2 m2<L0 M0 c1)) (
 RR (sOp (.load 34 (.const F0)) 34) e1 fun n2 o2=>
 RR (sOp (.store 34 (.const a0) (.const n2)) 0) o2 fun _ q2=>
 (LoadV Tryz.prog 34 a0 q2 fun r0=>R (.returned r0) q2))))
theorem kP {p0:Value} {w:World} {R:Ending->World->Prop} (h:gL p0 w R):Calls Tryz.prog 59 #[p0] w R:=
  calls_sh (.seq none .leaf (.seq none .leaf (.seq none .leaf (.seq none .leaf (.seq none (.seq none .leaf (.one (.loop [5] .leaf))) .leaf))))) [p0] aB Tryz.func59 (by kernel_rfl) (by kernel_rfl) h


/- loop.example/prologserver/spec.l15Fresh : function 60 -/
def hO (p0 p1:Value) (w:World) (R:Ending->World->Prop):Prop:=
 RR (sOp (.box 34 (.const p0)) 0) w fun a0 b0=>
 RR (sOp (.alloc 34) 0) b0 fun c0 d0=>
 RR (sOp (.fieldAddr 34 (.const a0) 0) 0) d0 fun e0 f0=>
 RR (sOp (.load 32 (.const e0)) 32) f0 fun g0 h0=>
 RR (sCall (Value.func (.func 80) #[] #[]) [g0,p1]) h0 fun i0 j0=>
 RR (sBuild 34 [(0,i0)]) j0 fun k0 l0=>
 RR (sOp (.alloc 34) 0) l0 fun m0 n0=>
 RR (sOp (.store 34 (.const m0) (.const k0)) 0) n0 fun _u o0=>
 (∃ (q0:Value->World->Prop) (s0:Value->World->Nat),q0 (Value.int .i64 0) o0/\
 ∀ t0 _ _ u0 v0 w0 x0 y0 z0 A0 B0 C0 D0 E0 F0 _ _ _ _ _:Value,∀ G0:World,q0 t0 G0->
 RR (sOp (.fieldAddr 34 (.const a0) 1) 0) G0 fun H0 I0=>
 RR (sOp (.load 30 (.const H0)) 30) I0 fun J0 K0=>
 RR (sBuiltin .len #[30] 3 [false] [J0]) K0 fun L0 M0=>
 RR (sBin .lss 3 false false t0 L0) M0 fun N0 O0=>
 CondV N0 (
 (∃ P0:(Nat->Bool)->Value->Value->Value->Value->Value->Value->Value->Value->Value->Value->Value->Value->World->Prop,P0 (fun _=>false) u0 v0 w0 x0 y0 z0 A0 B0 C0 D0 E0 F0 { O0 with drawn:=O0.drawn+1 }/\(
 (∀ Q0:Nat->Bool,Q0 0=false->∀ S0 T0 U0 V0 W0 X0 Y0 Z0 a1 b1 c1 d1 e1,P0 Q0 S0 T0 U0 V0 W0 X0 Y0 Z0 a1 b1 c1 d1 e1->
 RR (sOp (.fieldAddr 34 (.const m0) 1) 0) e1 fun f1 g1=>
 P0 (setD Q0 0) S0 T0 U0 V0 W0 X0 Y0 Z0 a1 b1 c1 f1 g1)/\
 (∀ Q0:Nat->Bool,Q0 1=false->Q0 0=true->∀ S0 T0 U0 V0 W0 X0 Y0 Z0 a1 b1 c1 d1 h1,P0 Q0 S0 T0 U0 V0 W0 X0 Y0 Z0 a1 b1 c1 d1 h1->
 RR (sOp (.load 30 (.const d1)) 30) h1 fun i1 j1=>
 P0 (setD Q0 1) S0 T0 U0 V0 W0 X0 Y0 Z0 a1 b1 i1 d1 j1)/\
 (∀ Q0:Nat->Bool,Q0 2=false->∀ S0 T0 U0 V0 W0 X0 Y0 Z0 a1 b1 c1 d1 k1,P0 Q0 S0 T0 U0 V0 W0 X0 Y0 Z0 a1 b1 c1 d1 k1->
 RR (sOp (.fieldAddr 34 (.const a0) 1) 0) k1 fun l1 m1=>
 P0 (setD Q0 2) S0 T0 U0 V0 W0 X0 Y0 Z0 a1 l1 c1 d1 m1)/\
 (∀ Q0:Nat->Bool,Q0 3=false->Q0 2=true->∀ S0 T0 U0 V0 W0 X0 Y0 Z0 a1 b1 c1 d1 n1,P0 Q0 S0 T0 U0 V0 W0 X0 Y0 Z0 a1 b1 c1 d1 n1->
 RR (sOp (.load 30 (.const b1)) 30) n1 fun o1 q1=>
 P0 (setD Q0 3) S0 T0 U0 V0 W0 X0 Y0 Z0 o1 b1 c1 d1 q1)/\
 (∀ Q0:Nat->Bool,Q0 4=false->∀ S0 T0 U0 V0 W0 X0 Y0 Z0 a1 b1 c1 d1 s1,P0 Q0 S0 T0 U0 V0 W0 X0 Y0 Z0 a1 b1 c1 d1 s1->
 P0 (setD Q0 4) S0 T0 U0 V0 W0 X0 Y0 t0 a1 b1 c1 d1 s1)/\
 (∀ Q0:Nat->Bool,Q0 5=false->Q0 3=true->Q0 4=true->∀ S0 T0 U0 V0 W0 X0 Y0 Z0 a1 b1 c1 d1 t1,P0 Q0 S0 T0 U0 V0 W0 X0 Y0 Z0 a1 b1 c1 d1 t1->
 RR (sOp (.indexAddr 30 (.const a1) (.const Z0)) 0) t1 fun u1 v1=>
 P0 (setD Q0 5) S0 T0 U0 V0 W0 X0 u1 Z0 a1 b1 c1 d1 v1)/\
 (∀ Q0:Nat->Bool,Q0 6=false->Q0 5=true->∀ S0 T0 U0 V0 W0 X0 Y0 Z0 a1 b1 c1 d1 w1,P0 Q0 S0 T0 U0 V0 W0 X0 Y0 Z0 a1 b1 c1 d1 w1->
 RR (sOp (.load 32 (.const Y0)) 32) w1 fun x1 y1=>
 P0 (setD Q0 6) S0 T0 U0 V0 W0 x1 Y0 Z0 a1 b1 c1 d1 y1)/\
 (∀ Q0:Nat->Bool,Q0 7=false->∀ S0 T0 U0 V0 W0 X0 Y0 Z0 a1 b1 c1 d1 z1,P0 Q0 S0 T0 U0 V0 W0 X0 Y0 Z0 a1 b1 c1 d1 z1->
 P0 (setD Q0 7) S0 T0 U0 V0 p1 X0 Y0 Z0 a1 b1 c1 d1 z1)/\
 (∀ Q0:Nat->Bool,Q0 8=false->Q0 6=true->Q0 7=true->∀ S0 T0 U0 V0 W0 X0 Y0 Z0 a1 b1 c1 d1 A1,P0 Q0 S0 T0 U0 V0 W0 X0 Y0 Z0 a1 b1 c1 d1 A1->
 RR (sCall (Value.func (.func 80) #[] #[]) [X0,W0]) A1 fun B1 C1=>
 P0 (setD Q0 8) S0 T0 U0 B1 W0 X0 Y0 Z0 a1 b1 c1 d1 C1)/\
 (∀ Q0:Nat->Bool,Q0 9=false->Q0 8=true->∀ S0 T0 U0 V0 W0 X0 Y0 Z0 a1 b1 c1 d1 D1,P0 Q0 S0 T0 U0 V0 W0 X0 Y0 Z0 a1 b1 c1 d1 D1->
 RR (sBuildSlice 30 1 [(0,V0)]) D1 fun E1 F1=>
 P0 (setD Q0 9) S0 T0 E1 V0 W0 X0 Y0 Z0 a1 b1 c1 d1 F1)/\
 (∀ Q0:Nat->Bool,Q0 10=false->Q0 1=true->Q0 9=true->Q0 8=true->∀ S0 T0 U0 V0 W0 X0 Y0 Z0 a1 b1 c1 d1 G1,P0 Q0 S0 T0 U0 V0 W0 X0 Y0 Z0 a1 b1 c1 d1 G1->
 RR (sBuiltin .append #[30,30] 30 [false,false] [c1,U0]) G1 fun H1 I1=>
 P0 (setD Q0 10) S0 H1 U0 V0 W0 X0 Y0 Z0 a1 b1 c1 d1 I1)/\
 (∀ Q0:Nat->Bool,Q0 11=false->Q0 0=true->Q0 1=true->Q0 2=true->Q0 3=true->Q0 4=true->Q0 5=true->Q0 6=true->Q0 7=true->Q0 8=true->Q0 9=true->Q0 10=true->∀ S0 T0 U0 V0 W0 X0 Y0 Z0 a1 b1 c1 d1 J1,P0 Q0 S0 T0 U0 V0 W0 X0 Y0 Z0 a1 b1 c1 d1 J1->
 RR (sOp (.fieldAddr 34 (.const m0) 1) 0) J1 fun K1 L1=>
 P0 (setD Q0 11) K1 T0 U0 V0 W0 X0 Y0 Z0 a1 b1 c1 d1 L1)/\
 (∀ Q0:Nat->Bool,Q0 12=false->Q0 11=true->Q0 10=true->Q0 10=true->Q0 0=true->Q0 1=true->Q0 2=true->Q0 3=true->Q0 4=true->Q0 5=true->Q0 6=true->Q0 7=true->Q0 8=true->Q0 9=true->Q0 10=true->∀ S0 T0 U0 V0 W0 X0 Y0 Z0 a1 b1 c1 d1 M1,P0 Q0 S0 T0 U0 V0 W0 X0 Y0 Z0 a1 b1 c1 d1 M1->
 RR (sOp (.store 30 (.const S0) (.const T0)) 0) M1 fun _u N1=>
 P0 (setD Q0 12) S0 T0 U0 V0 W0 X0 Y0 Z0 a1 b1 c1 d1 N1)/\
 True)/\
 ∀ Q0:Nat->Bool,Q0 12=true->Q0 11=true->Q0 10=true->Q0 9=true->Q0 8=true->Q0 7=true->Q0 6=true->Q0 5=true->Q0 4=true->Q0 3=true->Q0 2=true->Q0 1=true->Q0 0=true->∀ S0 T0 U0 V0 W0 X0 Y0 Z0 a1 b1 c1 d1 O1,P0 Q0 S0 T0 U0 V0 W0 X0 Y0 Z0 a1 b1 c1 d1 O1->
 RR (sBin .add 3 false true t0 (Value.int .i64 1)) O1 fun P1 Q1=>
 q0 P1 Q1/\s0 P1 Q1<s0 t0 G0)) (
 RR (sOp (.load 34 (.const m0)) 34) O0 fun S1 T1=>
 RR (sOp (.store 34 (.const c0) (.const S1)) 0) T1 fun _ U1=>
 (LoadV Tryz.prog 34 c0 U1 fun r0=>R (.returned r0) U1)))
theorem kY {p0 p1:Value} {w:World} {R:Ending->World->Prop} (h:hO p0 p1 w R):Calls Tryz.prog 60 #[p0,p1] w R:=
  calls_sh (.seq none .leaf (.seq none .leaf (.seq none (.seq none .leaf (.one (.loop [6] .leaf))) .leaf))) [p0,p1] aB Tryz.func60 (by kernel_rfl) (by kernel_rfl) h


/- (*loop.example/prologserver/spec.l18Rd).pick : function 61 -/
def eS (p0 p1:Value) (w:World) (R:Ending->World->Prop):Prop:=
 RR (sOp (.nilCheck (.const p0)) 0) w fun a0 b0=>
 RR (sOp (.fieldAddr 102 (.const a0) 1) 0) b0 fun c0 d0=>
 RR (sOp (.load 3 (.const c0)) 3) d0 fun e0 f0=>
 RR (sBin .add 3 false true e0 (Value.int .i64 1)) f0 fun g0 h0=>
 RR (sOp (.nilCheck (.const p0)) 0) h0 fun i0 j0=>
 RR (sOp (.fieldAddr 102 (.const i0) 1) 0) j0 fun k0 l0=>
 RR (sOp (.store 3 (.const k0) (.const g0)) 0) l0 fun _ m0=>
 (∃ n0:Value->World->Prop,(
 RR (sBin .lss 3 false true p1 (Value.int .i64 1)) m0 fun o0 q0=>
 GuardV o0 false (
 RR (sOp (.nilCheck (.const p0)) 0) q0 fun s0 t0=>
 RR (sOp (.fieldAddr 102 (.const s0) 0) 0) t0 fun u0 v0=>
 RR (sOp (.load 22 (.const u0)) 22) v0 fun w0 x0=>
 RR (sBuiltin .len #[22] 3 [false] [w0]) x0 fun y0 z0=>
 RR (sBin .eql 3 false true y0 (Value.int .i64 0)) z0 fun A0 B0=>
 RR (sOp (.pick (.const o0) (.const (Value.bool true)) (.const A0)) 4) B0 fun C0 D0=>
 n0 C0 D0) (
 RR (sOp (.pick (.const o0) (.const (Value.bool true)) (.const undef)) 4) q0 fun E0 F0=>
 n0 E0 F0))/\
 ∀ G0 _ _ _ _ _ _ _ _ _:Value,∀ H0:World,n0 G0 H0->
 CondV G0 (
 R (.returned (Value.int .i64 0)) H0) (
 RR (sOp (.nilCheck (.const p0)) 0) H0 fun I0 J0=>
 RR (sOp (.fieldAddr 102 (.const I0) 1) 0) J0 fun K0 L0=>
 RR (sOp (.load 3 (.const K0)) 3) L0 fun M0 N0=>
 RR (sBin .sub 3 false true M0 (Value.int .i64 1)) N0 fun O0 P0=>
 RR (sOp (.nilCheck (.const p0)) 0) P0 fun Q0 S0=>
 RR (sOp (.fieldAddr 102 (.const Q0) 0) 0) S0 fun T0 U0=>
 RR (sOp (.load 22 (.const T0)) 22) U0 fun V0 W0=>
 RR (sBuiltin .len #[22] 3 [false] [V0]) W0 fun X0 Y0=>
 RR (sBin .lss 3 false false O0 X0) Y0 fun Z0 a1=>
 CondV Z0 (
 RR (sOp (.nilCheck (.const p0)) 0) a1 fun b1 c1=>
 RR (sOp (.fieldAddr 102 (.const b1) 0) 0) c1 fun d1 e1=>
 RR (sOp (.load 22 (.const d1)) 22) e1 fun f1 g1=>
 RR (sOp (.indexAddr 22 (.const f1) (.const O0)) 0) g1 fun h1 i1=>
 RR (sOp (.load 5 (.const h1)) 5) i1 fun j1 k1=>
 RR (sOp (.convert 5 3 (.const j1)) 3) k1 fun l1 m1=>
 RR (sBin .rem 3 false false l1 p1) m1 fun n1 o1=>
 R (.returned n1) o1) (
 (∃ q1:(Nat->Bool)->Value->Value->Value->Value->Value->Value->Value->Value->Value->Value->Value->Value->Value->Value->Value->Value->Value->Value->Value->Value->Value->Value->Value->Value->Value->Value->Value->Value->Value->Value->Value->Value->Value->Value->Value->Value->Value->Value->Value->Value->Value->Value->Value->Value->Value->Value->World->Prop,q1 (fun _=>false) undef undef undef undef undef undef undef undef undef undef undef undef undef undef undef undef undef undef undef undef undef undef undef undef undef undef undef undef undef undef undef undef undef undef undef undef undef undef undef undef undef undef undef undef undef undef { a1 with drawn:=a1.drawn+1 }/\(
 (∀ s1:Nat->Bool,s1 0=false->∀ t1 u1 v1 w1 x1 y1 z1 A1 B1 C1 D1 E1 F1 G1 H1 I1 J1 K1 L1 M1 N1 O1 P1 Q1 S1 T1 U1 V1 W1 X1 Y1 Z1 a2 b2 c2 d2 e2 f2 g2 h2 i2 j2 k2 l2 m2 n2 o2,q1 s1 t1 u1 v1 w1 x1 y1 z1 A1 B1 C1 D1 E1 F1 G1 H1 I1 J1 K1 L1 M1 N1 O1 P1 Q1 S1 T1 U1 V1 W1 X1 Y1 Z1 a2 b2 c2 d2 e2 f2 g2 h2 i2 j2 k2 l2 m2 n2 o2->
 q1 (setD s1 0) t1 u1 v1 w1 x1 y1 z1 A1 B1 C1 D1 E1 F1 G1 H1 I1 J1 K1 L1 M1 N1 O1 P1 Q1 S1 T1 U1 V1 W1 X1 Y1 Z1 a2 b2 c2 d2 e2 f2 g2 h2 i2 j2 k2 l2 m2 p0 o2)/\
 (∀ s1:Nat->Bool,s1 1=false->s1 0=true->∀ t1 u1 v1 w1 x1 y1 z1 A1 B1 C1 D1 E1 F1 G1 H1 I1 J1 K1 L1 M1 N1 O1 P1 Q1 S1 T1 U1 V1 W1 X1 Y1 Z1 a2 b2 c2 d2 e2 f2 g2 h2 i2 j2 k2 l2 m2 n2 q2,q1 s1 t1 u1 v1 w1 x1 y1 z1 A1 B1 C1 D1 E1 F1 G1 H1 I1 J1 K1 L1 M1 N1 O1 P1 Q1 S1 T1 U1 V1 W1 X1 Y1 Z1 a2 b2 c2 d2 e2 f2 g2 h2 i2 j2 k2 l2 m2 n2 q2->
 RR (sOp (.nilCheck (.const n2)) 0) q2 fun s2 t2=>
 q1 (setD s1 1) t1 u1 v1 w1 x1 y1 z1 A1 B1 C1 D1 E1 F1 G1 H1 I1 J1 K1 L1 M1 N1 O1 P1 Q1 S1 T1 U1 V1 W1 X1 Y1 Z1 a2 b2 c2 d2 e2 f2 g2 h2 i2 j2 k2 l2 s2 n2 t2)/\
 (∀ s1:Nat->Bool,s1 2=false->s1 1=true->∀ t1 u1 v1 w1 x1 y1 z1 A1 B1 C1 D1 E1 F1 G1 H1 I1 J1 K1 L1 M1 N1 O1 P1 Q1 S1 T1 U1 V1 W1 X1 Y1 Z1 a2 b2 c2 d2 e2 f2 g2 h2 i2 j2 k2 l2 m2 n2 u2,q1 s1 t1 u1 v1 w1 x1 y1 z1 A1 B1 C1 D1 E1 F1 G1 H1 I1 J1 K1 L1 M1 N1 O1 P1 Q1 S1 T1 U1 V1 W1 X1 Y1 Z1 a2 b2 c2 d2 e2 f2 g2 h2 i2 j2 k2 l2 m2 n2 u2->
 RR (sOp (.fieldAddr 102 (.const m2) 0) 0) u2 fun v2 w2=>
 q1 (setD s1 2) t1 u1 v1 w1 x1 y1 z1 A1 B1 C1 D1 E1 F1 G1 H1 I1 J1 K1 L1 M1 N1 O1 P1 Q1 S1 T1 U1 V1 W1 X1 Y1 Z1 a2 b2 c2 d2 e2 f2 g2 h2 i2 j2 k2 v2 m2 n2 w2)/\
 (∀ s1:Nat->Bool,s1 3=false->s1 2=true->∀ t1 u1 v1 w1 x1 y1 z1 A1 B1 C1 D1 E1 F1 G1 H1 I1 J1 K1 L1 M1 N1 O1 P1 Q1 S1 T1 U1 V1 W1 X1 Y1 Z1 a2 b2 c2 d2 e2 f2 g2 h2 i2 j2 k2 l2 m2 n2 x2,q1 s1 t1 u1 v1 w1 x1 y1 z1 A1 B1 C1 D1 E1 F1 G1 H1 I1 J1 K1 L1 M1 N1 O1 P1 Q1 S1 T1 U1 V1 W1 X1 Y1 Z1 a2 b2 c2 d2 e2 f2 g2 h2 i2 j2 k2 l2 m2 n2 x2->
 RR (sOp (.load 22 (.const l2)) 22) x2 fun y2 z2=>
 q1 (setD s1 3) t1 u1 v1 w1 x1 y1 z1 A1 B1 C1 D1 E1 F1 G1 H1 I1 J1 K1 L1 M1 N1 O1 P1 Q1 S1 T1 U1 V1 W1 X1 Y1 Z1 a2 b2 c2 d2 e2 f2 g2 h2 i2 j2 y2 l2 m2 n2 z2)/\
 (∀ s1:Nat->Bool,s1 4=false->∀ t1 u1 v1 w1 x1 y1 z1 A1 B1 C1 D1 E1 F1 G1 H1 I1 J1 K1 L1 M1 N1 O1 P1 Q1 S1 T1 U1 V1 W1 X1 Y1 Z1 a2 b2 c2 d2 e2 f2 g2 h2 i2 j2 k2 l2 m2 n2 A2,q1 s1 t1 u1 v1 w1 x1 y1 z1 A1 B1 C1 D1 E1 F1 G1 H1 I1 J1 K1 L1 M1 N1 O1 P1 Q1 S1 T1 U1 V1 W1 X1 Y1 Z1 a2 b2 c2 d2 e2 f2 g2 h2 i2 j2 k2 l2 m2 n2 A2->
 q1 (setD s1 4) t1 u1 v1 w1 x1 y1 z1 A1 B1 C1 D1 E1 F1 G1 H1 I1 J1 K1 L1 M1 N1 O1 P1 Q1 S1 T1 U1 V1 W1 X1 Y1 Z1 a2 b2 c2 d2 e2 f2 g2 h2 i2 O0 k2 l2 m2 n2 A2)/\
 (∀ s1:Nat->Bool,s1 5=false->∀ t1 u1 v1 w1 x1 y1 z1 A1 B1 C1 D1 E1 F1 G1 H1 I1 J1 K1 L1 M1 N1 O1 P1 Q1 S1 T1 U1 V1 W1 X1 Y1 Z1 a2 b2 c2 d2 e2 f2 g2 h2 i2 j2 k2 l2 m2 n2 B2,q1 s1 t1 u1 v1 w1 x1 y1 z1 A1 B1 C1 D1 E1 F1 G1 H1 I1 J1 K1 L1 M1 N1 O1 P1 Q1 S1 T1 U1 V1 W1 X1 Y1 Z1 a2 b2 c2 d2 e2 f2 g2 h2 i2 j2 k2 l2 m2 n2 B2->
 q1 (setD s1 5) t1 u1 v1 w1 x1 y1 z1 A1 B1 C1 D1 E1 F1 G1 H1 I1 J1 K1 L1 M1 N1 O1 P1 Q1 S1 T1 U1 V1 W1 X1 Y1 Z1 a2 b2 c2 d2 e2 f2 g2 h2 p0 j2 k2 l2 m2 n2 B2)/\
 (∀ s1:Nat->Bool,s1 6=false->s1 5=true->∀ t1 u1 v1 w1 x1 y1 z1 A1 B1 C1 D1 E1 F1 G1 H1 I1 J1 K1 L1 M1 N1 O1 P1 Q1 S1 T1 U1 V1 W1 X1 Y1 Z1 a2 b2 c2 d2 e2 f2 g2 h2 i2 j2 k2 l2 m2 n2 C2,q1 s1 t1 u1 v1 w1 x1 y1 z1 A1 B1 C1 D1 E1 F1 G1 H1 I1 J1 K1 L1 M1 N1 O1 P1 Q1 S1 T1 U1 V1 W1 X1 Y1 Z1 a2 b2 c2 d2 e2 f2 g2 h2 i2 j2 k2 l2 m2 n2 C2->
 RR (sOp (.nilCheck (.const i2)) 0) C2 fun D2 E2=>
 q1 (setD s1 6) t1 u1 v1 w1 x1 y1 z1 A1 B1 C1 D1 E1 F1 G1 H1 I1 J1 K1 L1 M1 N1 O1 P1 Q1 S1 T1 U1 V1 W1 X1 Y1 Z1 a2 b2 c2 d2 e2 f2 g2 D2 i2 j2 k2 l2 m2 n2 E2)/\
 (∀ s1:Nat->Bool,s1 7=false->s1 6=true->∀ t1 u1 v1 w1 x1 y1 z1 A1 B1 C1 D1 E1 F1 G1 H1 I1 J1 K1 L1 M1 N1 O1 P1 Q1 S1 T1 U1 V1 W1 X1 Y1 Z1 a2 b2 c2 d2 e2 f2 g2 h2 i2 j2 k2 l2 m2 n2 F2,q1 s1 t1 u1 v1 w1 x1 y1 z1 A1 B1 C1 D1 E1 F1 G1 H1 I1 J1 K1 L1 M1 N1 O1 P1 Q1 S1 T1 U1 V1 W1 X1 Y1 Z1 a2 b2 c2 d2 e2 f2 g2 h2 i2 j2 k2 l2 m2 n2 F2->
 RR (sOp (.fieldAddr 102 (.const h2) 0) 0) F2 fun G2 H2=>
 q1 (setD s1 7) t1 u1 v1 w1 x1 y1 z1 A1 B1 C1 D1 E1 F1 G1 H1 I1 J1 K1 L1 M1 N1 O1 P1 Q1 S1 T1 U1 V1 W1 X1 Y1 Z1 a2 b2 c2 d2 e2 f2 G2 h2 i2 j2 k2 l2 m2 n2 H2)/\
 (∀ s1:Nat->Bool,s1 8=false->s1 7=true->∀ t1 u1 v1 w1 x1 y1 z1 A1 B1 C1 D1 E1 F1 G1 H1 I1 J1 K1 L1 M1 N1 O1 P1 Q1 S1 T1 U1 V1 W1 X1 Y1 Z1 a2 b2 c2 d2 e2 f2 g2 h2 i2 j2 k2 l2 m2 n2 I2,q1 s1 t1 u1 v1 w1 x1 y1 z1 A1 B1 C1 D1 E1 F1 G1 H1 I1 J1 K1 L1 M1 N1 O1 P1 Q1 S1 T1 U1 V1 W1 X1 Y1 Z1 a2 b2 c2 d2 e2 f2 g2 h2 i2 j2 k2 l2 m2 n2 I2->
 RR (sOp (.load 22 (.const g2)) 22) I2 fun J2 K2=>
 q1 (setD s1 8) t1 u1 v1 w1 x1 y1 z1 A1 B1 C1 D1 E1 F1 G1 H1 I1 J1 K1 L1 M1 N1 O1 P1 Q1 S1 T1 U1 V1 W1 X1 Y1 Z1 a2 b2 c2 d2 e2 J2 g2 h2 i2 j2 k2 l2 m2 n2 K2)/\
 (∀ s1:Nat->Bool,s1 9=false->s1 8=true->∀ t1 u1 v1 w1 x1 y1 z1 A1 B1 C1 D1 E1 F1 G1 H1 I1 J1 K1 L1 M1 N1 O1 P1 Q1 S1 T1 U1 V1 W1 X1 Y1 Z1 a2 b2 c2 d2 e2 f2 g2 h2 i2 j2 k2 l2 m2 n2 L2,q1 s1 t1 u1 v1 w1 x1 y1 z1 A1 B1 C1 D1 E1 F1 G1 H1 I1 J1 K1 L1 M1 N1 O1 P1 Q1 S1 T1 U1 V1 W1 X1 Y1 Z1 a2 b2 c2 d2 e2 f2 g2 h2 i2 j2 k2 l2 m2 n2 L2->
 RR (sBuiltin .len #[22] 3 [false] [f2]) L2 fun M2 N2=>
 q1 (setD s1 9) t1 u1 v1 w1 x1 y1 z1 A1 B1 C1 D1 E1 F1 G1 H1 I1 J1 K1 L1 M1 N1 O1 P1 Q1 S1 T1 U1 V1 W1 X1 Y1 Z1 a2 b2 c2 d2 M2 f2 g2 h2 i2 j2 k2 l2 m2 n2 N2)/\
 (∀ s1:Nat->Bool,s1 10=false->s1 4=true->s1 9=true->∀ t1 u1 v1 w1 x1 y1 z1 A1 B1 C1 D1 E1 F1 G1 H1 I1 J1 K1 L1 M1 N1 O1 P1 Q1 S1 T1 U1 V1 W1 X1 Y1 Z1 a2 b2 c2 d2 e2 f2 g2 h2 i2 j2 k2 l2 m2 n2 O2,q1 s1 t1 u1 v1 w1 x1 y1 z1 A1 B1 C1 D1 E1 F1 G1 H1 I1 J1 K1 L1 M1 N1 O1 P1 Q1 S1 T1 U1 V1 W1 X1 Y1 Z1 a2 b2 c2 d2 e2 f2 g2 h2 i2 j2 k2 l2 m2 n2 O2->
 RR (sBin .rem 3 false false j2 e2) O2 fun P2 Q2=>
 q1 (setD s1 10) t1 u1 v1 w1 x1 y1 z1 A1 B1 C1 D1 E1 F1 G1 H1 I1 J1 K1 L1 M1 N1 O1 P1 Q1 S1 T1 U1 V1 W1 X1 Y1 Z1 a2 b2 c2 P2 e2 f2 g2 h2 i2 j2 k2 l2 m2 n2 Q2)/\
 (∀ s1:Nat->Bool,s1 11=false->s1 3=true->s1 10=true->∀ t1 u1 v1 w1 x1 y1 z1 A1 B1 C1 D1 E1 F1 G1 H1 I1 J1 K1 L1 M1 N1 O1 P1 Q1 S1 T1 U1 V1 W1 X1 Y1 Z1 a2 b2 c2 d2 e2 f2 g2 h2 i2 j2 k2 l2 m2 n2 S2,q1 s1 t1 u1 v1 w1 x1 y1 z1 A1 B1 C1 D1 E1 F1 G1 H1 I1 J1 K1 L1 M1 N1 O1 P1 Q1 S1 T1 U1 V1 W1 X1 Y1 Z1 a2 b2 c2 d2 e2 f2 g2 h2 i2 j2 k2 l2 m2 n2 S2->
 RR (sOp (.indexAddr 22 (.const k2) (.const d2)) 0) S2 fun T2 U2=>
 q1 (setD s1 11) t1 u1 v1 w1 x1 y1 z1 A1 B1 C1 D1 E1 F1 G1 H1 I1 J1 K1 L1 M1 N1 O1 P1 Q1 S1 T1 U1 V1 W1 X1 Y1 Z1 a2 b2 T2 d2 e2 f2 g2 h2 i2 j2 k2 l2 m2 n2 U2)/\
 (∀ s1:Nat->Bool,s1 12=false->s1 11=true->∀ t1 u1 v1 w1 x1 y1 z1 A1 B1 C1 D1 E1 F1 G1 H1 I1 J1 K1 L1 M1 N1 O1 P1 Q1 S1 T1 U1 V1 W1 X1 Y1 Z1 a2 b2 c2 d2 e2 f2 g2 h2 i2 j2 k2 l2 m2 n2 V2,q1 s1 t1 u1 v1 w1 x1 y1 z1 A1 B1 C1 D1 E1 F1 G1 H1 I1 J1 K1 L1 M1 N1 O1 P1 Q1 S1 T1 U1 V1 W1 X1 Y1 Z1 a2 b2 c2 d2 e2 f2 g2 h2 i2 j2 k2 l2 m2 n2 V2->
 RR (sOp (.load 5 (.const c2)) 5) V2 fun W2 X2=>
 q1 (setD s1 12) t1 u1 v1 w1 x1 y1 z1 A1 B1 C1 D1 E1 F1 G1 H1 I1 J1 K1 L1 M1 N1 O1 P1 Q1 S1 T1 U1 V1 W1 X1 Y1 Z1 a2 W2 c2 d2 e2 f2 g2 h2 i2 j2 k2 l2 m2 n2 X2)/\
 (∀ s1:Nat->Bool,s1 13=false->s1 12=true->∀ t1 u1 v1 w1 x1 y1 z1 A1 B1 C1 D1 E1 F1 G1 H1 I1 J1 K1 L1 M1 N1 O1 P1 Q1 S1 T1 U1 V1 W1 X1 Y1 Z1 a2 b2 c2 d2 e2 f2 g2 h2 i2 j2 k2 l2 m2 n2 Y2,q1 s1 t1 u1 v1 w1 x1 y1 z1 A1 B1 C1 D1 E1 F1 G1 H1 I1 J1 K1 L1 M1 N1 O1 P1 Q1 S1 T1 U1 V1 W1 X1 Y1 Z1 a2 b2 c2 d2 e2 f2 g2 h2 i2 j2 k2 l2 m2 n2 Y2->
 RR (sOp (.convert 5 3 (.const b2)) 3) Y2 fun Z2 a3=>
 q1 (setD s1 13) t1 u1 v1 w1 x1 y1 z1 A1 B1 C1 D1 E1 F1 G1 H1 I1 J1 K1 L1 M1 N1 O1 P1 Q1 S1 T1 U1 V1 W1 X1 Y1 Z1 Z2 b2 c2 d2 e2 f2 g2 h2 i2 j2 k2 l2 m2 n2 a3)/\
 (∀ s1:Nat->Bool,s1 14=false->s1 13=true->∀ t1 u1 v1 w1 x1 y1 z1 A1 B1 C1 D1 E1 F1 G1 H1 I1 J1 K1 L1 M1 N1 O1 P1 Q1 S1 T1 U1 V1 W1 X1 Y1 Z1 a2 b2 c2 d2 e2 f2 g2 h2 i2 j2 k2 l2 m2 n2 b3,q1 s1 t1 u1 v1 w1 x1 y1 z1 A1 B1 C1 D1 E1 F1 G1 H1 I1 J1 K1 L1 M1 N1 O1 P1 Q1 S1 T1 U1 V1 W1 X1 Y1 Z1 a2 b2 c2 d2 e2 f2 g2 h2 i2 j2 k2 l2 m2 n2 b3->
 RR (sBin .mul 3 false true a2 (Value.int .i64 131)) b3 fun c3 d3=>
 q1 (setD s1 14) t1 u1 v1 w1 x1 y1 z1 A1 B1 C1 D1 E1 F1 G1 H1 I1 J1 K1 L1 M1 N1 O1 P1 Q1 S1 T1 U1 V1 W1 X1 Y1 c3 a2 b2 c2 d2 e2 f2 g2 h2 i2 j2 k2 l2 m2 n2 d3)/\
 (∀ s1:Nat->Bool,s1 15=false->∀ t1 u1 v1 w1 x1 y1 z1 A1 B1 C1 D1 E1 F1 G1 H1 I1 J1 K1 L1 M1 N1 O1 P1 Q1 S1 T1 U1 V1 W1 X1 Y1 Z1 a2 b2 c2 d2 e2 f2 g2 h2 i2 j2 k2 l2 m2 n2 e3,q1 s1 t1 u1 v1 w1 x1 y1 z1 A1 B1 C1 D1 E1 F1 G1 H1 I1 J1 K1 L1 M1 N1 O1 P1 Q1 S1 T1 U1 V1 W1 X1 Y1 Z1 a2 b2 c2 d2 e2 f2 g2 h2 i2 j2 k2 l2 m2 n2 e3->
 q1 (setD s1 15) t1 u1 v1 w1 x1 y1 z1 A1 B1 C1 D1 E1 F1 G1 H1 I1 J1 K1 L1 M1 N1 O1 P1 Q1 S1 T1 U1 V1 W1 X1 p0 Z1 a2 b2 c2 d2 e2 f2 g2 h2 i2 j2 k2 l2 m2 n2 e3)/\
 (∀ s1:Nat->Bool,s1 16=false->s1 15=true->∀ t1 u1 v1 w1 x1 y1 z1 A1 B1 C1 D1 E1 F1 G1 H1 I1 J1 K1 L1 M1 N1 O1 P1 Q1 S1 T1 U1 V1 W1 X1 Y1 Z1 a2 b2 c2 d2 e2 f2 g2 h2 i2 j2 k2 l2 m2 n2 f3,q1 s1 t1 u1 v1 w1 x1 y1 z1 A1 B1 C1 D1 E1 F1 G1 H1 I1 J1 K1 L1 M1 N1 O1 P1 Q1 S1 T1 U1 V1 W1 X1 Y1 Z1 a2 b2 c2 d2 e2 f2 g2 h2 i2 j2 k2 l2 m2 n2 f3->
 RR (sOp (.nilCheck (.const Y1)) 0) f3 fun g3 h3=>
 q1 (setD s1 16) t1 u1 v1 w1 x1 y1 z1 A1 B1 C1 D1 E1 F1 G1 H1 I1 J1 K1 L1 M1 N1 O1 P1 Q1 S1 T1 U1 V1 W1 g3 Y1 Z1 a2 b2 c2 d2 e2 f2 g2 h2 i2 j2 k2 l2 m2 n2 h3)/\
 (∀ s1:Nat->Bool,s1 17=false->s1 16=true->∀ t1 u1 v1 w1 x1 y1 z1 A1 B1 C1 D1 E1 F1 G1 H1 I1 J1 K1 L1 M1 N1 O1 P1 Q1 S1 T1 U1 V1 W1 X1 Y1 Z1 a2 b2 c2 d2 e2 f2 g2 h2 i2 j2 k2 l2 m2 n2 i3,q1 s1 t1 u1 v1 w1 x1 y1 z1 A1 B1 C1 D1 E1 F1 G1 H1 I1 J1 K1 L1 M1 N1 O1 P1 Q1 S1 T1 U1 V1 W1 X1 Y1 Z1 a2 b2 c2 d2 e2 f2 g2 h2 i2 j2 k2 l2 m2 n2 i3->
 RR (sOp (.fieldAddr 102 (.const X1) 0) 0) i3 fun j3 k3=>
 q1 (setD s1 17) t1 u1 v1 w1 x1 y1 z1 A1 B1 C1 D1 E1 F1 G1 H1 I1 J1 K1 L1 M1 N1 O1 P1 Q1 S1 T1 U1 V1 j3 X1 Y1 Z1 a2 b2 c2 d2 e2 f2 g2 h2 i2 j2 k2 l2 m2 n2 k3)/\
 (∀ s1:Nat->Bool,s1 18=false->s1 17=true->∀ t1 u1 v1 w1 x1 y1 z1 A1 B1 C1 D1 E1 F1 G1 H1 I1 J1 K1 L1 M1 N1 O1 P1 Q1 S1 T1 U1 V1 W1 X1 Y1 Z1 a2 b2 c2 d2 e2 f2 g2 h2 i2 j2 k2 l2 m2 n2 l3,q1 s1 t1 u1 v1 w1 x1 y1 z1 A1 B1 C1 D1 E1 F1 G1 H1 I1 J1 K1 L1 M1 N1 O1 P1 Q1 S1 T1 U1 V1 W1 X1 Y1 Z1 a2 b2 c2 d2 e2 f2 g2 h2 i2 j2 k2 l2 m2 n2 l3->
 RR (sOp (.load 22 (.const W1)) 22) l3 fun m3 n3=>
 q1 (setD s1 18) t1 u1 v1 w1 x1 y1 z1 A1 B1 C1 D1 E1 F1 G1 H1 I1 J1 K1 L1 M1 N1 O1 P1 Q1 S1 T1 U1 m3 W1 X1 Y1 Z1 a2 b2 c2 d2 e2 f2 g2 h2 i2 j2 k2 l2 m2 n2 n3)/\
 (∀ s1:Nat->Bool,s1 19=false->∀ t1 u1 v1 w1 x1 y1 z1 A1 B1 C1 D1 E1 F1 G1 H1 I1 J1 K1 L1 M1 N1 O1 P1 Q1 S1 T1 U1 V1 W1 X1 Y1 Z1 a2 b2 c2 d2 e2 f2 g2 h2 i2 j2 k2 l2 m2 n2 o3,q1 s1 t1 u1 v1 w1 x1 y1 z1 A1 B1 C1 D1 E1 F1 G1 H1 I1 J1 K1 L1 M1 N1 O1 P1 Q1 S1 T1 U1 V1 W1 X1 Y1 Z1 a2 b2 c2 d2 e2 f2 g2 h2 i2 j2 k2 l2 m2 n2 o3->
 q1 (setD s1 19) t1 u1 v1 w1 x1 y1 z1 A1 B1 C1 D1 E1 F1 G1 H1 I1 J1 K1 L1 M1 N1 O1 P1 Q1 S1 T1 O0 V1 W1 X1 Y1 Z1 a2 b2 c2 d2 e2 f2 g2 h2 i2 j2 k2 l2 m2 n2 o3)/\
 (∀ s1:Nat->Bool,s1 20=false->s1 19=true->∀ t1 u1 v1 w1 x1 y1 z1 A1 B1 C1 D1 E1 F1 G1 H1 I1 J1 K1 L1 M1 N1 O1 P1 Q1 S1 T1 U1 V1 W1 X1 Y1 Z1 a2 b2 c2 d2 e2 f2 g2 h2 i2 j2 k2 l2 m2 n2 q3,q1 s1 t1 u1 v1 w1 x1 y1 z1 A1 B1 C1 D1 E1 F1 G1 H1 I1 J1 K1 L1 M1 N1 O1 P1 Q1 S1 T1 U1 V1 W1 X1 Y1 Z1 a2 b2 c2 d2 e2 f2 g2 h2 i2 j2 k2 l2 m2 n2 q3->
 RR (sBin .mul 3 false true U1 (Value.int .i64 7)) q3 fun s3 t3=>
 q1 (setD s1 20) t1 u1 v1 w1 x1 y1 z1 A1 B1 C1 D1 E1 F1 G1 H1 I1 J1 K1 L1 M1 N1 O1 P1 Q1 S1 s3 U1 V1 W1 X1 Y1 Z1 a2 b2 c2 d2 e2 f2 g2 h2 i2 j2 k2 l2 m2 n2 t3)/\
 (∀ s1:Nat->Bool,s1 21=false->s1 20=true->∀ t1 u1 v1 w1 x1 y1 z1 A1 B1 C1 D1 E1 F1 G1 H1 I1 J1 K1 L1 M1 N1 O1 P1 Q1 S1 T1 U1 V1 W1 X1 Y1 Z1 a2 b2 c2 d2 e2 f2 g2 h2 i2 j2 k2 l2 m2 n2 u3,q1 s1 t1 u1 v1 w1 x1 y1 z1 A1 B1 C1 D1 E1 F1 G1 H1 I1 J1 K1 L1 M1 N1 O1 P1 Q1 S1 T1 U1 V1 W1 X1 Y1 Z1 a2 b2 c2 d2 e2 f2 g2 h2 i2 j2 k2 l2 m2 n2 u3->
 RR (sBin .add 3 false true T1 (Value.int .i64 3)) u3 fun v3 w3=>
 q1 (setD s1 21) t1 u1 v1 w1 x1 y1 z1 A1 B1 C1 D1 E1 F1 G1 H1 I1 J1 K1 L1 M1 N1 O1 P1 Q1 v3 T1 U1 V1 W1 X1 Y1 Z1 a2 b2 c2 d2 e2 f2 g2 h2 i2 j2 k2 l2 m2 n2 w3)/\
 (∀ s1:Nat->Bool,s1 22=false->∀ t1 u1 v1 w1 x1 y1 z1 A1 B1 C1 D1 E1 F1 G1 H1 I1 J1 K1 L1 M1 N1 O1 P1 Q1 S1 T1 U1 V1 W1 X1 Y1 Z1 a2 b2 c2 d2 e2 f2 g2 h2 i2 j2 k2 l2 m2 n2 x3,q1 s1 t1 u1 v1 w1 x1 y1 z1 A1 B1 C1 D1 E1 F1 G1 H1 I1 J1 K1 L1 M1 N1 O1 P1 Q1 S1 T1 U1 V1 W1 X1 Y1 Z1 a2 b2 c2 d2 e2 f2 g2 h2 i2 j2 k2 l2 m2 n2 x3->
 q1 (setD s1 22) t1 u1 v1 w1 x1 y1 z1 A1 B1 C1 D1 E1 F1 G1 H1 I1 J1 K1 L1 M1 N1 O1 P1 p0 S1 T1 U1 V1 W1 X1 Y1 Z1 a2 b2 c2 d2 e2 f2 g2 h2 i2 j2 k2 l2 m2 n2 x3)/\
 (∀ s1:Nat->Bool,s1 23=false->s1 22=true->∀ t1 u1 v1 w1 x1 y1 z1 A1 B1 C1 D1 E1 F1 G1 H1 I1 J1 K1 L1 M1 N1 O1 P1 Q1 S1 T1 U1 V1 W1 X1 Y1 Z1 a2 b2 c2 d2 e2 f2 g2 h2 i2 j2 k2 l2 m2 n2 y3,q1 s1 t1 u1 v1 w1 x1 y1 z1 A1 B1 C1 D1 E1 F1 G1 H1 I1 J1 K1 L1 M1 N1 O1 P1 Q1 S1 T1 U1 V1 W1 X1 Y1 Z1 a2 b2 c2 d2 e2 f2 g2 h2 i2 j2 k2 l2 m2 n2 y3->
 RR (sOp (.nilCheck (.const Q1)) 0) y3 fun z3 A3=>
 q1 (setD s1 23) t1 u1 v1 w1 x1 y1 z1 A1 B1 C1 D1 E1 F1 G1 H1 I1 J1 K1 L1 M1 N1 O1 z3 Q1 S1 T1 U1 V1 W1 X1 Y1 Z1 a2 b2 c2 d2 e2 f2 g2 h2 i2 j2 k2 l2 m2 n2 A3)/\
 (∀ s1:Nat->Bool,s1 24=false->s1 23=true->∀ t1 u1 v1 w1 x1 y1 z1 A1 B1 C1 D1 E1 F1 G1 H1 I1 J1 K1 L1 M1 N1 O1 P1 Q1 S1 T1 U1 V1 W1 X1 Y1 Z1 a2 b2 c2 d2 e2 f2 g2 h2 i2 j2 k2 l2 m2 n2 B3,q1 s1 t1 u1 v1 w1 x1 y1 z1 A1 B1 C1 D1 E1 F1 G1 H1 I1 J1 K1 L1 M1 N1 O1 P1 Q1 S1 T1 U1 V1 W1 X1 Y1 Z1 a2 b2 c2 d2 e2 f2 g2 h2 i2 j2 k2 l2 m2 n2 B3->
 RR (sOp (.fieldAddr 102 (.const P1) 0) 0) B3 fun C3 D3=>
 q1 (setD s1 24) t1 u1 v1 w1 x1 y1 z1 A1 B1 C1 D1 E1 F1 G1 H1 I1 J1 K1 L1 M1 N1 C3 P1 Q1 S1 T1 U1 V1 W1 X1 Y1 Z1 a2 b2 c2 d2 e2 f2 g2 h2 i2 j2 k2 l2 m2 n2 D3)/\
 (∀ s1:Nat->Bool,s1 25=false->s1 24=true->∀ t1 u1 v1 w1 x1 y1 z1 A1 B1 C1 D1 E1 F1 G1 H1 I1 J1 K1 L1 M1 N1 O1 P1 Q1 S1 T1 U1 V1 W1 X1 Y1 Z1 a2 b2 c2 d2 e2 f2 g2 h2 i2 j2 k2 l2 m2 n2 E3,q1 s1 t1 u1 v1 w1 x1 y1 z1 A1 B1 C1 D1 E1 F1 G1 H1 I1 J1 K1 L1 M1 N1 O1 P1 Q1 S1 T1 U1 V1 W1 X1 Y1 Z1 a2 b2 c2 d2 e2 f2 g2 h2 i2 j2 k2 l2 m2 n2 E3->
 RR (sOp (.load 22 (.const O1)) 22) E3 fun F3 G3=>
 q1 (setD s1 25) t1 u1 v1 w1 x1 y1 z1 A1 B1 C1 D1 E1 F1 G1 H1 I1 J1 K1 L1 M1 F3 O1 P1 Q1 S1 T1 U1 V1 W1 X1 Y1 Z1 a2 b2 c2 d2 e2 f2 g2 h2 i2 j2 k2 l2 m2 n2 G3)/\
 (∀ s1:Nat->Bool,s1 26=false->s1 25=true->∀ t1 u1 v1 w1 x1 y1 z1 A1 B1 C1 D1 E1 F1 G1 H1 I1 J1 K1 L1 M1 N1 O1 P1 Q1 S1 T1 U1 V1 W1 X1 Y1 Z1 a2 b2 c2 d2 e2 f2 g2 h2 i2 j2 k2 l2 m2 n2 H3,q1 s1 t1 u1 v1 w1 x1 y1 z1 A1 B1 C1 D1 E1 F1 G1 H1 I1 J1 K1 L1 M1 N1 O1 P1 Q1 S1 T1 U1 V1 W1 X1 Y1 Z1 a2 b2 c2 d2 e2 f2 g2 h2 i2 j2 k2 l2 m2 n2 H3->
 RR (sBuiltin .len #[22] 3 [false] [N1]) H3 fun I3 J3=>
 q1 (setD s1 26) t1 u1 v1 w1 x1 y1 z1 A1 B1 C1 D1 E1 F1 G1 H1 I1 J1 K1 L1 I3 N1 O1 P1 Q1 S1 T1 U1 V1 W1 X1 Y1 Z1 a2 b2 c2 d2 e2 f2 g2 h2 i2 j2 k2 l2 m2 n2 J3)/\
 (∀ s1:Nat->Bool,s1 27=false->s1 21=true->s1 26=true->∀ t1 u1 v1 w1 x1 y1 z1 A1 B1 C1 D1 E1 F1 G1 H1 I1 J1 K1 L1 M1 N1 O1 P1 Q1 S1 T1 U1 V1 W1 X1 Y1 Z1 a2 b2 c2 d2 e2 f2 g2 h2 i2 j2 k2 l2 m2 n2 K3,q1 s1 t1 u1 v1 w1 x1 y1 z1 A1 B1 C1 D1 E1 F1 G1 H1 I1 J1 K1 L1 M1 N1 O1 P1 Q1 S1 T1 U1 V1 W1 X1 Y1 Z1 a2 b2 c2 d2 e2 f2 g2 h2 i2 j2 k2 l2 m2 n2 K3->
 RR (sBin .rem 3 false false S1 M1) K3 fun L3 M3=>
 q1 (setD s1 27) t1 u1 v1 w1 x1 y1 z1 A1 B1 C1 D1 E1 F1 G1 H1 I1 J1 K1 L3 M1 N1 O1 P1 Q1 S1 T1 U1 V1 W1 X1 Y1 Z1 a2 b2 c2 d2 e2 f2 g2 h2 i2 j2 k2 l2 m2 n2 M3)/\
 (∀ s1:Nat->Bool,s1 28=false->s1 18=true->s1 27=true->∀ t1 u1 v1 w1 x1 y1 z1 A1 B1 C1 D1 E1 F1 G1 H1 I1 J1 K1 L1 M1 N1 O1 P1 Q1 S1 T1 U1 V1 W1 X1 Y1 Z1 a2 b2 c2 d2 e2 f2 g2 h2 i2 j2 k2 l2 m2 n2 N3,q1 s1 t1 u1 v1 w1 x1 y1 z1 A1 B1 C1 D1 E1 F1 G1 H1 I1 J1 K1 L1 M1 N1 O1 P1 Q1 S1 T1 U1 V1 W1 X1 Y1 Z1 a2 b2 c2 d2 e2 f2 g2 h2 i2 j2 k2 l2 m2 n2 N3->
 RR (sOp (.indexAddr 22 (.const V1) (.const L1)) 0) N3 fun O3 P3=>
 q1 (setD s1 28) t1 u1 v1 w1 x1 y1 z1 A1 B1 C1 D1 E1 F1 G1 H1 I1 J1 O3 L1 M1 N1 O1 P1 Q1 S1 T1 U1 V1 W1 X1 Y1 Z1 a2 b2 c2 d2 e2 f2 g2 h2 i2 j2 k2 l2 m2 n2 P3)/\
 (∀ s1:Nat->Bool,s1 29=false->s1 28=true->∀ t1 u1 v1 w1 x1 y1 z1 A1 B1 C1 D1 E1 F1 G1 H1 I1 J1 K1 L1 M1 N1 O1 P1 Q1 S1 T1 U1 V1 W1 X1 Y1 Z1 a2 b2 c2 d2 e2 f2 g2 h2 i2 j2 k2 l2 m2 n2 Q3,q1 s1 t1 u1 v1 w1 x1 y1 z1 A1 B1 C1 D1 E1 F1 G1 H1 I1 J1 K1 L1 M1 N1 O1 P1 Q1 S1 T1 U1 V1 W1 X1 Y1 Z1 a2 b2 c2 d2 e2 f2 g2 h2 i2 j2 k2 l2 m2 n2 Q3->
 RR (sOp (.load 5 (.const K1)) 5) Q3 fun S3 T3=>
 q1 (setD s1 29) t1 u1 v1 w1 x1 y1 z1 A1 B1 C1 D1 E1 F1 G1 H1 I1 S3 K1 L1 M1 N1 O1 P1 Q1 S1 T1 U1 V1 W1 X1 Y1 Z1 a2 b2 c2 d2 e2 f2 g2 h2 i2 j2 k2 l2 m2 n2 T3)/\
 (∀ s1:Nat->Bool,s1 30=false->s1 29=true->∀ t1 u1 v1 w1 x1 y1 z1 A1 B1 C1 D1 E1 F1 G1 H1 I1 J1 K1 L1 M1 N1 O1 P1 Q1 S1 T1 U1 V1 W1 X1 Y1 Z1 a2 b2 c2 d2 e2 f2 g2 h2 i2 j2 k2 l2 m2 n2 U3,q1 s1 t1 u1 v1 w1 x1 y1 z1 A1 B1 C1 D1 E1 F1 G1 H1 I1 J1 K1 L1 M1 N1 O1 P1 Q1 S1 T1 U1 V1 W1 X1 Y1 Z1 a2 b2 c2 d2 e2 f2 g2 h2 i2 j2 k2 l2 m2 n2 U3->
 RR (sOp (.convert 5 3 (.const J1)) 3) U3 fun V3 W3=>
 q1 (setD s1 30) t1 u1 v1 w1 x1 y1 z1 A1 B1 C1 D1 E1 F1 G1 H1 V3 J1 K1 L1 M1 N1 O1 P1 Q1 S1 T1 U1 V1 W1 X1 Y1 Z1 a2 b2 c2 d2 e2 f2 g2 h2 i2 j2 k2 l2 m2 n2 W3)/\
 (∀ s1:Nat->Bool,s1 31=false->s1 30=true->∀ t1 u1 v1 w1 x1 y1 z1 A1 B1 C1 D1 E1 F1 G1 H1 I1 J1 K1 L1 M1 N1 O1 P1 Q1 S1 T1 U1 V1 W1 X1 Y1 Z1 a2 b2 c2 d2 e2 f2 g2 h2 i2 j2 k2 l2 m2 n2 X3,q1 s1 t1 u1 v1 w1 x1 y1 z1 A1 B1 C1 D1 E1 F1 G1 H1 I1 J1 K1 L1 M1 N1 O1 P1 Q1 S1 T1 U1 V1 W1 X1 Y1 Z1 a2 b2 c2 d2 e2 f2 g2 h2 i2 j2 k2 l2 m2 n2 X3->
 RR (sBin .mul 3 false true I1 (Value.int .i64 1117)) X3 fun Y3 Z3=>
 q1 (setD s1 31) t1 u1 v1 w1 x1 y1 z1 A1 B1 C1 D1 E1 F1 G1 Y3 I1 J1 K1 L1 M1 N1 O1 P1 Q1 S1 T1 U1 V1 W1 X1 Y1 Z1 a2 b2 c2 d2 e2 f2 g2 h2 i2 j2 k2 l2 m2 n2 Z3)/\
 (∀ s1:Nat->Bool,s1 32=false->s1 14=true->s1 31=true->∀ t1 u1 v1 w1 x1 y1 z1 A1 B1 C1 D1 E1 F1 G1 H1 I1 J1 K1 L1 M1 N1 O1 P1 Q1 S1 T1 U1 V1 W1 X1 Y1 Z1 a2 b2 c2 d2 e2 f2 g2 h2 i2 j2 k2 l2 m2 n2 a4,q1 s1 t1 u1 v1 w1 x1 y1 z1 A1 B1 C1 D1 E1 F1 G1 H1 I1 J1 K1 L1 M1 N1 O1 P1 Q1 S1 T1 U1 V1 W1 X1 Y1 Z1 a2 b2 c2 d2 e2 f2 g2 h2 i2 j2 k2 l2 m2 n2 a4->
 RR (sBin .add 3 false false Z1 H1) a4 fun b4 c4=>
 q1 (setD s1 32) t1 u1 v1 w1 x1 y1 z1 A1 B1 C1 D1 E1 F1 b4 H1 I1 J1 K1 L1 M1 N1 O1 P1 Q1 S1 T1 U1 V1 W1 X1 Y1 Z1 a2 b2 c2 d2 e2 f2 g2 h2 i2 j2 k2 l2 m2 n2 c4)/\
 (∀ s1:Nat->Bool,s1 33=false->∀ t1 u1 v1 w1 x1 y1 z1 A1 B1 C1 D1 E1 F1 G1 H1 I1 J1 K1 L1 M1 N1 O1 P1 Q1 S1 T1 U1 V1 W1 X1 Y1 Z1 a2 b2 c2 d2 e2 f2 g2 h2 i2 j2 k2 l2 m2 n2 d4,q1 s1 t1 u1 v1 w1 x1 y1 z1 A1 B1 C1 D1 E1 F1 G1 H1 I1 J1 K1 L1 M1 N1 O1 P1 Q1 S1 T1 U1 V1 W1 X1 Y1 Z1 a2 b2 c2 d2 e2 f2 g2 h2 i2 j2 k2 l2 m2 n2 d4->
 q1 (setD s1 33) t1 u1 v1 w1 x1 y1 z1 A1 B1 C1 D1 E1 O0 G1 H1 I1 J1 K1 L1 M1 N1 O1 P1 Q1 S1 T1 U1 V1 W1 X1 Y1 Z1 a2 b2 c2 d2 e2 f2 g2 h2 i2 j2 k2 l2 m2 n2 d4)/\
 (∀ s1:Nat->Bool,s1 34=false->s1 33=true->∀ t1 u1 v1 w1 x1 y1 z1 A1 B1 C1 D1 E1 F1 G1 H1 I1 J1 K1 L1 M1 N1 O1 P1 Q1 S1 T1 U1 V1 W1 X1 Y1 Z1 a2 b2 c2 d2 e2 f2 g2 h2 i2 j2 k2 l2 m2 n2 e4,q1 s1 t1 u1 v1 w1 x1 y1 z1 A1 B1 C1 D1 E1 F1 G1 H1 I1 J1 K1 L1 M1 N1 O1 P1 Q1 S1 T1 U1 V1 W1 X1 Y1 Z1 a2 b2 c2 d2 e2 f2 g2 h2 i2 j2 k2 l2 m2 n2 e4->
 RR (sBin .mul 3 false true F1 (Value.int .i64 29)) e4 fun f4 g4=>
 q1 (setD s1 34) t1 u1 v1 w1 x1 y1 z1 A1 B1 C1 D1 f4 F1 G1 H1 I1 J1 K1 L1 M1 N1 O1 P1 Q1 S1 T1 U1 V1 W1 X1 Y1 Z1 a2 b2 c2 d2 e2 f2 g2 h2 i2 j2 k2 l2 m2 n2 g4)/\
 (∀ s1:Nat->Bool,s1 35=false->s1 32=true->s1 34=true->∀ t1 u1 v1 w1 x1 y1 z1 A1 B1 C1 D1 E1 F1 G1 H1 I1 J1 K1 L1 M1 N1 O1 P1 Q1 S1 T1 U1 V1 W1 X1 Y1 Z1 a2 b2 c2 d2 e2 f2 g2 h2 i2 j2 k2 l2 m2 n2 h4,q1 s1 t1 u1 v1 w1 x1 y1 z1 A1 B1 C1 D1 E1 F1 G1 H1 I1 J1 K1 L1 M1 N1 O1 P1 Q1 S1 T1 U1 V1 W1 X1 Y1 Z1 a2 b2 c2 d2 e2 f2 g2 h2 i2 j2 k2 l2 m2 n2 h4->
 RR (sBin .add 3 false false G1 E1) h4 fun i4 j4=>
 q1 (setD s1 35) t1 u1 v1 w1 x1 y1 z1 A1 B1 C1 i4 E1 F1 G1 H1 I1 J1 K1 L1 M1 N1 O1 P1 Q1 S1 T1 U1 V1 W1 X1 Y1 Z1 a2 b2 c2 d2 e2 f2 g2 h2 i2 j2 k2 l2 m2 n2 j4)/\
 (∀ s1:Nat->Bool,s1 36=false->∀ t1 u1 v1 w1 x1 y1 z1 A1 B1 C1 D1 E1 F1 G1 H1 I1 J1 K1 L1 M1 N1 O1 P1 Q1 S1 T1 U1 V1 W1 X1 Y1 Z1 a2 b2 c2 d2 e2 f2 g2 h2 i2 j2 k2 l2 m2 n2 k4,q1 s1 t1 u1 v1 w1 x1 y1 z1 A1 B1 C1 D1 E1 F1 G1 H1 I1 J1 K1 L1 M1 N1 O1 P1 Q1 S1 T1 U1 V1 W1 X1 Y1 Z1 a2 b2 c2 d2 e2 f2 g2 h2 i2 j2 k2 l2 m2 n2 k4->
 q1 (setD s1 36) t1 u1 v1 w1 x1 y1 z1 A1 B1 O0 D1 E1 F1 G1 H1 I1 J1 K1 L1 M1 N1 O1 P1 Q1 S1 T1 U1 V1 W1 X1 Y1 Z1 a2 b2 c2 d2 e2 f2 g2 h2 i2 j2 k2 l2 m2 n2 k4)/\
 (∀ s1:Nat->Bool,s1 37=false->∀ t1 u1 v1 w1 x1 y1 z1 A1 B1 C1 D1 E1 F1 G1 H1 I1 J1 K1 L1 M1 N1 O1 P1 Q1 S1 T1 U1 V1 W1 X1 Y1 Z1 a2 b2 c2 d2 e2 f2 g2 h2 i2 j2 k2 l2 m2 n2 l4,q1 s1 t1 u1 v1 w1 x1 y1 z1 A1 B1 C1 D1 E1 F1 G1 H1 I1 J1 K1 L1 M1 N1 O1 P1 Q1 S1 T1 U1 V1 W1 X1 Y1 Z1 a2 b2 c2 d2 e2 f2 g2 h2 i2 j2 k2 l2 m2 n2 l4->
 q1 (setD s1 37) t1 u1 v1 w1 x1 y1 z1 A1 p0 C1 D1 E1 F1 G1 H1 I1 J1 K1 L1 M1 N1 O1 P1 Q1 S1 T1 U1 V1 W1 X1 Y1 Z1 a2 b2 c2 d2 e2 f2 g2 h2 i2 j2 k2 l2 m2 n2 l4)/\
 (∀ s1:Nat->Bool,s1 38=false->s1 37=true->∀ t1 u1 v1 w1 x1 y1 z1 A1 B1 C1 D1 E1 F1 G1 H1 I1 J1 K1 L1 M1 N1 O1 P1 Q1 S1 T1 U1 V1 W1 X1 Y1 Z1 a2 b2 c2 d2 e2 f2 g2 h2 i2 j2 k2 l2 m2 n2 m4,q1 s1 t1 u1 v1 w1 x1 y1 z1 A1 B1 C1 D1 E1 F1 G1 H1 I1 J1 K1 L1 M1 N1 O1 P1 Q1 S1 T1 U1 V1 W1 X1 Y1 Z1 a2 b2 c2 d2 e2 f2 g2 h2 i2 j2 k2 l2 m2 n2 m4->
 RR (sOp (.nilCheck (.const B1)) 0) m4 fun n4 o4=>
 q1 (setD s1 38) t1 u1 v1 w1 x1 y1 z1 n4 B1 C1 D1 E1 F1 G1 H1 I1 J1 K1 L1 M1 N1 O1 P1 Q1 S1 T1 U1 V1 W1 X1 Y1 Z1 a2 b2 c2 d2 e2 f2 g2 h2 i2 j2 k2 l2 m2 n2 o4)/\
 (∀ s1:Nat->Bool,s1 39=false->s1 38=true->∀ t1 u1 v1 w1 x1 y1 z1 A1 B1 C1 D1 E1 F1 G1 H1 I1 J1 K1 L1 M1 N1 O1 P1 Q1 S1 T1 U1 V1 W1 X1 Y1 Z1 a2 b2 c2 d2 e2 f2 g2 h2 i2 j2 k2 l2 m2 n2 q4,q1 s1 t1 u1 v1 w1 x1 y1 z1 A1 B1 C1 D1 E1 F1 G1 H1 I1 J1 K1 L1 M1 N1 O1 P1 Q1 S1 T1 U1 V1 W1 X1 Y1 Z1 a2 b2 c2 d2 e2 f2 g2 h2 i2 j2 k2 l2 m2 n2 q4->
 RR (sOp (.fieldAddr 102 (.const A1) 0) 0) q4 fun s4 t4=>
 q1 (setD s1 39) t1 u1 v1 w1 x1 y1 s4 A1 B1 C1 D1 E1 F1 G1 H1 I1 J1 K1 L1 M1 N1 O1 P1 Q1 S1 T1 U1 V1 W1 X1 Y1 Z1 a2 b2 c2 d2 e2 f2 g2 h2 i2 j2 k2 l2 m2 n2 t4)/\
 (∀ s1:Nat->Bool,s1 40=false->s1 39=true->∀ t1 u1 v1 w1 x1 y1 z1 A1 B1 C1 D1 E1 F1 G1 H1 I1 J1 K1 L1 M1 N1 O1 P1 Q1 S1 T1 U1 V1 W1 X1 Y1 Z1 a2 b2 c2 d2 e2 f2 g2 h2 i2 j2 k2 l2 m2 n2 u4,q1 s1 t1 u1 v1 w1 x1 y1 z1 A1 B1 C1 D1 E1 F1 G1 H1 I1 J1 K1 L1 M1 N1 O1 P1 Q1 S1 T1 U1 V1 W1 X1 Y1 Z1 a2 b2 c2 d2 e2 f2 g2 h2 i2 j2 k2 l2 m2 n2 u4->
 RR (sOp (.load 22 (.const z1)) 22) u4 fun v4 w4=>
 q1 (setD s1 40) t1 u1 v1 w1 x1 v4 z1 A1 B1 C1 D1 E1 F1 G1 H1 I1 J1 K1 L1 M1 N1 O1 P1 Q1 S1 T1 U1 V1 W1 X1 Y1 Z1 a2 b2 c2 d2 e2 f2 g2 h2 i2 j2 k2 l2 m2 n2 w4)/\
 (∀ s1:Nat->Bool,s1 41=false->s1 40=true->∀ t1 u1 v1 w1 x1 y1 z1 A1 B1 C1 D1 E1 F1 G1 H1 I1 J1 K1 L1 M1 N1 O1 P1 Q1 S1 T1 U1 V1 W1 X1 Y1 Z1 a2 b2 c2 d2 e2 f2 g2 h2 i2 j2 k2 l2 m2 n2 x4,q1 s1 t1 u1 v1 w1 x1 y1 z1 A1 B1 C1 D1 E1 F1 G1 H1 I1 J1 K1 L1 M1 N1 O1 P1 Q1 S1 T1 U1 V1 W1 X1 Y1 Z1 a2 b2 c2 d2 e2 f2 g2 h2 i2 j2 k2 l2 m2 n2 x4->
 RR (sBuiltin .len #[22] 3 [false] [y1]) x4 fun y4 z4=>
 q1 (setD s1 41) t1 u1 v1 w1 y4 y1 z1 A1 B1 C1 D1 E1 F1 G1 H1 I1 J1 K1 L1 M1 N1 O1 P1 Q1 S1 T1 U1 V1 W1 X1 Y1 Z1 a2 b2 c2 d2 e2 f2 g2 h2 i2 j2 k2 l2 m2 n2 z4)/\
 (∀ s1:Nat->Bool,s1 42=false->s1 36=true->s1 41=true->∀ t1 u1 v1 w1 x1 y1 z1 A1 B1 C1 D1 E1 F1 G1 H1 I1 J1 K1 L1 M1 N1 O1 P1 Q1 S1 T1 U1 V1 W1 X1 Y1 Z1 a2 b2 c2 d2 e2 f2 g2 h2 i2 j2 k2 l2 m2 n2 A4,q1 s1 t1 u1 v1 w1 x1 y1 z1 A1 B1 C1 D1 E1 F1 G1 H1 I1 J1 K1 L1 M1 N1 O1 P1 Q1 S1 T1 U1 V1 W1 X1 Y1 Z1 a2 b2 c2 d2 e2 f2 g2 h2 i2 j2 k2 l2 m2 n2 A4->
 RR (sBin .quo 3 false false C1 x1) A4 fun B4 C4=>
 q1 (setD s1 42) t1 u1 v1 B4 x1 y1 z1 A1 B1 C1 D1 E1 F1 G1 H1 I1 J1 K1 L1 M1 N1 O1 P1 Q1 S1 T1 U1 V1 W1 X1 Y1 Z1 a2 b2 c2 d2 e2 f2 g2 h2 i2 j2 k2 l2 m2 n2 C4)/\
 (∀ s1:Nat->Bool,s1 43=false->s1 42=true->∀ t1 u1 v1 w1 x1 y1 z1 A1 B1 C1 D1 E1 F1 G1 H1 I1 J1 K1 L1 M1 N1 O1 P1 Q1 S1 T1 U1 V1 W1 X1 Y1 Z1 a2 b2 c2 d2 e2 f2 g2 h2 i2 j2 k2 l2 m2 n2 D4,q1 s1 t1 u1 v1 w1 x1 y1 z1 A1 B1 C1 D1 E1 F1 G1 H1 I1 J1 K1 L1 M1 N1 O1 P1 Q1 S1 T1 U1 V1 W1 X1 Y1 Z1 a2 b2 c2 d2 e2 f2 g2 h2 i2 j2 k2 l2 m2 n2 D4->
 RR (sBin .mul 3 false true w1 (Value.int .i64 53)) D4 fun E4 F4=>
 q1 (setD s1 43) t1 u1 E4 w1 x1 y1 z1 A1 B1 C1 D1 E1 F1 G1 H1 I1 J1 K1 L1 M1 N1 O1 P1 Q1 S1 T1 U1 V1 W1 X1 Y1 Z1 a2 b2 c2 d2 e2 f2 g2 h2 i2 j2 k2 l2 m2 n2 F4)/\
 (∀ s1:Nat->Bool,s1 44=false->s1 35=true->s1 43=true->∀ t1 u1 v1 w1 x1 y1 z1 A1 B1 C1 D1 E1 F1 G1 H1 I1 J1 K1 L1 M1 N1 O1 P1 Q1 S1 T1 U1 V1 W1 X1 Y1 Z1 a2 b2 c2 d2 e2 f2 g2 h2 i2 j2 k2 l2 m2 n2 G4,q1 s1 t1 u1 v1 w1 x1 y1 z1 A1 B1 C1 D1 E1 F1 G1 H1 I1 J1 K1 L1 M1 N1 O1 P1 Q1 S1 T1 U1 V1 W1 X1 Y1 Z1 a2 b2 c2 d2 e2 f2 g2 h2 i2 j2 k2 l2 m2 n2 G4->
 RR (sBin .add 3 false false D1 v1) G4 fun H4 I4=>
 q1 (setD s1 44) t1 H4 v1 w1 x1 y1 z1 A1 B1 C1 D1 E1 F1 G1 H1 I1 J1 K1 L1 M1 N1 O1 P1 Q1 S1 T1 U1 V1 W1 X1 Y1 Z1 a2 b2 c2 d2 e2 f2 g2 h2 i2 j2 k2 l2 m2 n2 I4)/\
 (∀ s1:Nat->Bool,s1 45=false->s1 44=true->s1 0=true->s1 1=true->s1 2=true->s1 3=true->s1 4=true->s1 5=true->s1 6=true->s1 7=true->s1 8=true->s1 9=true->s1 10=true->s1 11=true->s1 12=true->s1 13=true->s1 14=true->s1 15=true->s1 16=true->s1 17=true->s1 18=true->s1 19=true->s1 20=true->s1 21=true->s1 22=true->s1 23=true->s1 24=true->s1 25=true->s1 26=true->s1 27=true->s1 28=true->s1 29=true->s1 30=true->s1 31=true->s1 32=true->s1 33=true->s1 34=true->s1 35=true->s1 36=true->s1 37=true->s1 38=true->s1 39=true->s1 40=true->s1 41=true->s1 42=true->s1 43=true->s1 44=true->∀ t1 u1 v1 w1 x1 y1 z1 A1 B1 C1 D1 E1 F1 G1 H1 I1 J1 K1 L1 M1 N1 O1 P1 Q1 S1 T1 U1 V1 W1 X1 Y1 Z1 a2 b2 c2 d2 e2 f2 g2 h2 i2 j2 k2 l2 m2 n2 J4,q1 s1 t1 u1 v1 w1 x1 y1 z1 A1 B1 C1 D1 E1 F1 G1 H1 I1 J1 K1 L1 M1 N1 O1 P1 Q1 S1 T1 U1 V1 W1 X1 Y1 Z1 a2 b2 c2 d2 e2 f2 g2 h2 i2 j2 k2 l2 m2 n2 J4->
 q1 (setD s1 45) u1 u1 v1 w1 x1 y1 z1 A1 B1 C1 D1 E1 F1 G1 H1 I1 J1 K1 L1 M1 N1 O1 P1 Q1 S1 T1 U1 V1 W1 X1 Y1 Z1 a2 b2 c2 d2 e2 f2 g2 h2 i2 j2 k2 l2 m2 n2 J4)/\
 True)/\
 ∀ s1:Nat->Bool,s1 45=true->s1 44=true->s1 43=true->s1 42=true->s1 41=true->s1 40=true->s1 39=true->s1 38=true->s1 37=true->s1 36=true->s1 35=true->s1 34=true->s1 33=true->s1 32=true->s1 31=true->s1 30=true->s1 29=true->s1 28=true->s1 27=true->s1 26=true->s1 25=true->s1 24=true->s1 23=true->s1 22=true->s1 21=true->s1 20=true->s1 19=true->s1 18=true->s1 17=true->s1 16=true->s1 15=true->s1 14=true->s1 13=true->s1 12=true->s1 11=true->s1 10=true->s1 9=true->s1 8=true->s1 7=true->s1 6=true->s1 5=true->s1 4=true->s1 3=true->s1 2=true->s1 1=true->s1 0=true->∀ t1 u1 v1 w1 x1 y1 z1 A1 B1 C1 D1 E1 F1 G1 H1 I1 J1 K1 L1 M1 N1 O1 P1 Q1 S1 T1 U1 V1 W1 X1 Y1 Z1 a2 b2 c2 d2 e2 f2 g2 h2 i2 j2 k2 l2 m2 n2 K4,q1 s1 t1 u1 v1 w1 x1 y1 z1 A1 B1 C1 D1 E1 F1 G1 H1 I1 J1 K1 L1 M1 N1 O1 P1 Q1 S1 T1 U1 V1 W1 X1 Y1 Z1 a2 b2 c2 d2 e2 f2 g2 h2 i2 j2 k2 l2 m2 n2 K4->
 RR (sBin .quo 3 false true t1 (Value.int .i64 64)) K4 fun L4 M4=>
 RR (sBin .xor 3 false false t1 L4) M4 fun N4 O4=>
 RR (sBin .rem 3 false false N4 p1) O4 fun P4 Q4=>
 R (.returned P4) Q4))))
theorem ik {p0 p1:Value} {w:World} {R:Ending->World->Prop} (h:eS p0 p1 w R):Calls Tryz.prog 61 #[p0,p1] w R:=
  calls_sh (.seq none .leaf (.seq none .leaf (.seq none (.seq (some [24]) .leaf .leaf) .leaf))) [p0,p1] aB Tryz.func61 (by kernel_rfl) (by kernel_rfl) h


/- loop.example/prologserver/spec.l4Mutate : function 62 -/
def ia (p0 p1:Value) (w:World) (R:Ending->World->Prop):Prop:=
 RR (sOp (.box 34 (.const p1)) 0) w fun a0 b0=>
 RR (sOp (.alloc 34) 0) b0 fun c0 d0=>
 RR (sOp (.load 34 (.const a0)) 34) d0 fun e0 f0=>
 RR (sCall (Value.func (.func 111) #[] #[]) [e0]) f0 fun g0 h0=>
 RR (sOp (.alloc 34) 0) h0 fun i0 j0=>
 RR (sOp (.store 34 (.const i0) (.const g0)) 0) j0 fun _u k0=>
 (∃ l0:World->Prop,(
 RR (sCall (Value.func (.func 61) #[] #[]) [p0,(Value.int .i64 40)]) k0 fun m0 n0=>
 RR (sBin .eql 3 false true m0 (Value.int .i64 0)) n0 fun o0 q0=>
 CondV o0 (
 RR (sCall (Value.func (.func 113) #[] #[]) [p0]) q0 fun s0 t0=>
 RR (sCall (Value.func (.func 112) #[] #[]) [p0,s0]) t0 fun u0 v0=>
 RR (sOp (.fieldAddr 34 (.const i0) 0) 0) v0 fun w0 x0=>
 RR (sOp (.store 32 (.const w0) (.const u0)) 0) x0 fun _u y0=>
 l0 y0) (
 RR (sBin .eql 3 false true m0 (Value.int .i64 1)) q0 fun z0 A0=>
 CondV z0 (
 (∃ B0:(Nat->Bool)->Value->Value->Value->Value->Value->Value->Value->Value->Value->World->Prop,B0 (fun _=>false) undef undef undef undef undef undef undef undef undef { A0 with drawn:=A0.drawn+1 }/\(
 (∀ C0:Nat->Bool,C0 0=false->∀ D0 E0 F0 G0 H0 I0 J0 K0 L0 M0,B0 C0 D0 E0 F0 G0 H0 I0 J0 K0 L0 M0->
 RR (sOp (.fieldAddr 34 (.const i0) 1) 0) M0 fun N0 O0=>
 B0 (setD C0 0) D0 E0 F0 G0 H0 I0 J0 K0 N0 O0)/\
 (∀ C0:Nat->Bool,C0 1=false->C0 0=true->∀ D0 E0 F0 G0 H0 I0 J0 K0 L0 P0,B0 C0 D0 E0 F0 G0 H0 I0 J0 K0 L0 P0->
 RR (sOp (.load 30 (.const L0)) 30) P0 fun Q0 S0=>
 B0 (setD C0 1) D0 E0 F0 G0 H0 I0 J0 Q0 L0 S0)/\
 (∀ C0:Nat->Bool,C0 2=false->∀ D0 E0 F0 G0 H0 I0 J0 K0 L0 T0,B0 C0 D0 E0 F0 G0 H0 I0 J0 K0 L0 T0->
 B0 (setD C0 2) D0 E0 F0 G0 H0 I0 p0 K0 L0 T0)/\
 (∀ C0:Nat->Bool,C0 3=false->∀ D0 E0 F0 G0 H0 I0 J0 K0 L0 U0,B0 C0 D0 E0 F0 G0 H0 I0 J0 K0 L0 U0->
 B0 (setD C0 3) D0 E0 F0 G0 H0 p0 J0 K0 L0 U0)/\
 (∀ C0:Nat->Bool,C0 4=false->C0 3=true->∀ D0 E0 F0 G0 H0 I0 J0 K0 L0 V0,B0 C0 D0 E0 F0 G0 H0 I0 J0 K0 L0 V0->
 RR (sCall (Value.func (.func 113) #[] #[]) [I0]) V0 fun W0 X0=>
 B0 (setD C0 4) D0 E0 F0 G0 W0 I0 J0 K0 L0 X0)/\
 (∀ C0:Nat->Bool,C0 5=false->C0 2=true->C0 4=true->C0 4=true->∀ D0 E0 F0 G0 H0 I0 J0 K0 L0 Y0,B0 C0 D0 E0 F0 G0 H0 I0 J0 K0 L0 Y0->
 RR (sCall (Value.func (.func 112) #[] #[]) [J0,H0]) Y0 fun Z0 a1=>
 B0 (setD C0 5) D0 E0 F0 Z0 H0 I0 J0 K0 L0 a1)/\
 (∀ C0:Nat->Bool,C0 6=false->C0 5=true->∀ D0 E0 F0 G0 H0 I0 J0 K0 L0 b1,B0 C0 D0 E0 F0 G0 H0 I0 J0 K0 L0 b1->
 RR (sBuildSlice 30 1 [(0,G0)]) b1 fun c1 d1=>
 B0 (setD C0 6) D0 E0 c1 G0 H0 I0 J0 K0 L0 d1)/\
 (∀ C0:Nat->Bool,C0 7=false->C0 1=true->C0 6=true->C0 5=true->∀ D0 E0 F0 G0 H0 I0 J0 K0 L0 e1,B0 C0 D0 E0 F0 G0 H0 I0 J0 K0 L0 e1->
 RR (sBuiltin .append #[30,30] 30 [false,false] [K0,F0]) e1 fun f1 g1=>
 B0 (setD C0 7) D0 f1 F0 G0 H0 I0 J0 K0 L0 g1)/\
 (∀ C0:Nat->Bool,C0 8=false->C0 0=true->C0 1=true->C0 2=true->C0 3=true->C0 4=true->C0 5=true->C0 6=true->C0 7=true->∀ D0 E0 F0 G0 H0 I0 J0 K0 L0 h1,B0 C0 D0 E0 F0 G0 H0 I0 J0 K0 L0 h1->
 RR (sOp (.fieldAddr 34 (.const i0) 1) 0) h1 fun i1 j1=>
 B0 (setD C0 8) i1 E0 F0 G0 H0 I0 J0 K0 L0 j1)/\
 (∀ C0:Nat->Bool,C0 9=false->C0 8=true->C0 7=true->C0 7=true->C0 0=true->C0 1=true->C0 2=true->C0 3=true->C0 4=true->C0 5=true->C0 6=true->C0 7=true->∀ D0 E0 F0 G0 H0 I0 J0 K0 L0 k1,B0 C0 D0 E0 F0 G0 H0 I0 J0 K0 L0 k1->
 RR (sOp (.store 30 (.const D0) (.const E0)) 0) k1 fun _u l1=>
 B0 (setD C0 9) D0 E0 F0 G0 H0 I0 J0 K0 L0 l1)/\
 True)/\
 ∀ C0:Nat->Bool,C0 9=true->C0 8=true->C0 7=true->C0 6=true->C0 5=true->C0 4=true->C0 3=true->C0 2=true->C0 1=true->C0 0=true->∀ D0 E0 F0 G0 H0 I0 J0 K0 L0 m1,B0 C0 D0 E0 F0 G0 H0 I0 J0 K0 L0 m1->
 l0 m1)) (
 RR (sBin .eql 3 false true m0 (Value.int .i64 2)) A0 fun n1 o1=>
 CondV n1 (
 (∃ (q1:World->Prop) (s1:World->Nat),q1 o1/\
 ∀ t1 u1 v1 w1 x1 y1 _ _ _ _:Value,∀ z1:World,q1 z1->
 RR (sOp (.fieldAddr 34 (.const i0) 1) 0) z1 fun A1 B1=>
 RR (sOp (.load 30 (.const A1)) 30) B1 fun C1 D1=>
 RR (sBuiltin .len #[30] 3 [false] [C1]) D1 fun E1 F1=>
 RR (sBin .leq 3 false true E1 (Value.int .i64 6)) F1 fun G1 H1=>
 CondV G1 (
 (∃ I1:(Nat->Bool)->Value->Value->Value->Value->Value->Value->World->Prop,I1 (fun _=>false) t1 u1 v1 w1 x1 y1 { H1 with drawn:=H1.drawn+1 }/\(
 (∀ J1:Nat->Bool,J1 0=false->∀ K1 L1 M1 N1 O1 P1 Q1,I1 J1 K1 L1 M1 N1 O1 P1 Q1->
 RR (sOp (.fieldAddr 34 (.const i0) 1) 0) Q1 fun S1 T1=>
 I1 (setD J1 0) K1 L1 M1 N1 O1 S1 T1)/\
 (∀ J1:Nat->Bool,J1 1=false->J1 0=true->∀ K1 L1 M1 N1 O1 P1 U1,I1 J1 K1 L1 M1 N1 O1 P1 U1->
 RR (sOp (.load 30 (.const P1)) 30) U1 fun V1 W1=>
 I1 (setD J1 1) K1 L1 M1 N1 V1 P1 W1)/\
 (∀ J1:Nat->Bool,J1 2=false->∀ K1 L1 M1 N1 O1 P1 X1,I1 J1 K1 L1 M1 N1 O1 P1 X1->
 RR (sCall (Value.func (.func 106) #[] #[]) [(Value.string ⟨#[116,114,117,101]⟩),(Value.slice none 0 0)]) X1 fun Y1 Z1=>
 I1 (setD J1 2) K1 L1 M1 Y1 O1 P1 Z1)/\
 (∀ J1:Nat->Bool,J1 3=false->J1 2=true->∀ K1 L1 M1 N1 O1 P1 a2,I1 J1 K1 L1 M1 N1 O1 P1 a2->
 RR (sBuildSlice 30 1 [(0,N1)]) a2 fun b2 c2=>
 I1 (setD J1 3) K1 L1 b2 N1 O1 P1 c2)/\
 (∀ J1:Nat->Bool,J1 4=false->J1 1=true->J1 3=true->J1 2=true->∀ K1 L1 M1 N1 O1 P1 d2,I1 J1 K1 L1 M1 N1 O1 P1 d2->
 RR (sBuiltin .append #[30,30] 30 [false,false] [O1,M1]) d2 fun e2 f2=>
 I1 (setD J1 4) K1 e2 M1 N1 O1 P1 f2)/\
 (∀ J1:Nat->Bool,J1 5=false->J1 0=true->J1 1=true->J1 2=true->J1 3=true->J1 4=true->∀ K1 L1 M1 N1 O1 P1 g2,I1 J1 K1 L1 M1 N1 O1 P1 g2->
 RR (sOp (.fieldAddr 34 (.const i0) 1) 0) g2 fun h2 i2=>
 I1 (setD J1 5) h2 L1 M1 N1 O1 P1 i2)/\
 (∀ J1:Nat->Bool,J1 6=false->J1 5=true->J1 4=true->J1 4=true->J1 0=true->J1 1=true->J1 2=true->J1 3=true->J1 4=true->∀ K1 L1 M1 N1 O1 P1 j2,I1 J1 K1 L1 M1 N1 O1 P1 j2->
 RR (sOp (.store 30 (.const K1) (.const L1)) 0) j2 fun _u k2=>
 I1 (setD J1 6) K1 L1 M1 N1 O1 P1 k2)/\
 True)/\
 ∀ J1:Nat->Bool,J1 6=true->J1 5=true->J1 4=true->J1 3=true->J1 2=true->J1 1=true->J1 0=true->∀ K1 L1 M1 N1 O1 P1 l2,I1 J1 K1 L1 M1 N1 O1 P1 l2->
 q1 l2/\s1 l2<s1 z1)) (
 l0 H1))) (
 RR (sBin .eql 3 false true m0 (Value.int .i64 3)) o1 fun m2 n2=>
 CondV m2 (
 RR (sBuildSlice 82 5 [(0,(Value.string ⟨#[116,114,117,101]⟩)),(1,(Value.string ⟨#[105,115]⟩)),(2,(Value.string ⟨#[61]⟩)),(3,(Value.string ⟨#[109,111,100]⟩)),(4,(Value.string ⟨#[113]⟩))]) n2 fun o2 q2=>
 RR (sCall (Value.func (.func 109) #[] #[]) [p0,o2]) q2 fun s2 t2=>
 RR (sOp (.fieldAddr 34 (.const i0) 0) 0) t2 fun u2 v2=>
 RR (sOp (.fieldAddr 32 (.const u2) 2) 0) v2 fun w2 x2=>
 RR (sOp (.store 9 (.const w2) (.const s2)) 0) x2 fun _u y2=>
 l0 y2) (
 l0 n2)))))/\
 ∀ _ _ _ _ _ _ _ _ _ _ _ _ _ _ _ _ _ _ _ _ _ _ _ _ _ _ _ _ _ _ _ _ _ _ _ _ _ _ _:Value,∀ z2:World,l0 z2->
 RR (sOp (.load 34 (.const i0)) 34) z2 fun A2 B2=>
 RR (sOp (.store 34 (.const c0) (.const A2)) 0) B2 fun _ C2=>
 (LoadV Tryz.prog 34 c0 C2 fun r0=>R (.returned r0) C2))
theorem kT {p0 p1:Value} {w:World} {R:Ending->World->Prop} (h:ia p0 p1 w R):Calls Tryz.prog 62 #[p0,p1] w R:=
  calls_sh (.seq none .leaf (.seq none .leaf (.seq (some []) (.seq none .leaf (.one (.seq none .leaf (.two .leaf (.seq none .leaf (.two .leaf (.seq none .leaf (.two (.one (.loop [] .leaf)) .leaf)))))))) .leaf))) [p0,p1] aB Tryz.func62 (by kernel_rfl) (by kernel_rfl) h


/- loop.example/prologserver/impl.instance : function 63 -/
def ib (p0 p1 p2:Value) (w:World) (R:Ending->World->Prop):Prop:=
 RR (sOp (.box 32 (.const p0)) 0) w fun a0 b0=>
 RR (sOp (.box 32 (.const p1)) 0) b0 fun c0 d0=>
 RR (sOp (.fieldAddr 32 (.const c0) 0) 0) d0 fun e0 f0=>
 RR (sOp (.load 3 (.const e0)) 3) f0 fun g0 h0=>
 RR (sBin .eql 3 false true g0 (Value.int .i64 1)) h0 fun i0 j0=>
 CondV i0 (
 RR (sOp (.fieldAddr 32 (.const c0) 1) 0) j0 fun k0 l0=>
 RR (sOp (.load 3 (.const k0)) 3) l0 fun m0 n0=>
 RR (sOp (.lookup 77 (.const p2) (.const m0) true) 109) n0 fun o0 q0=>
 RR (sOp (.extract (.const o0) 0) 32) q0 fun s0 t0=>
 RR (sOp (.extract (.const o0) 1) 4) t0 fun u0 v0=>
 RR (sOp (.alloc 32) 0) v0 fun w0 x0=>
 RR (sOp (.store 32 (.const w0) (.const s0)) 0) x0 fun _u y0=>
 RR (sOp (.unOp .not 4 (.const u0)) 4) y0 fun z0 A0=>
 CondV z0 (
 RR (sOp (.fieldAddr 32 (.const c0) 1) 0) A0 fun B0 C0=>
 RR (sOp (.load 3 (.const B0)) 3) C0 fun D0 E0=>
 RR (sOp (.load 32 (.const a0)) 32) E0 fun F0 G0=>
 RR (sOp (.mapUpdate 77 (.const p2) (.const D0) (.const F0)) 0) G0 fun _ H0=>
 R (.returned (Value.bool true)) H0) (
 RR (sOp (.load 32 (.const w0)) 32) A0 fun I0 J0=>
 RR (sOp (.load 32 (.const a0)) 32) J0 fun K0 L0=>
 RR (sCall (Value.func (.func 84) #[] #[]) [I0,K0]) L0 fun M0 N0=>
 R (.returned M0) N0)) (
 (∃ O0:Value->World->Prop,(
 RR (sOp (.fieldAddr 32 (.const a0) 0) 0) j0 fun P0 Q0=>
 RR (sOp (.load 3 (.const P0)) 3) Q0 fun S0 T0=>
 RR (sOp (.fieldAddr 32 (.const c0) 0) 0) T0 fun U0 V0=>
 RR (sOp (.load 3 (.const U0)) 3) V0 fun W0 X0=>
 RR (sBin .neq 3 false false S0 W0) X0 fun Y0 Z0=>
 GuardV Y0 false (
 RR (sOp (.fieldAddr 32 (.const a0) 1) 0) Z0 fun a1 b1=>
 RR (sOp (.load 3 (.const a1)) 3) b1 fun c1 d1=>
 RR (sOp (.fieldAddr 32 (.const c0) 1) 0) d1 fun e1 f1=>
 RR (sOp (.load 3 (.const e1)) 3) f1 fun g1 h1=>
 RR (sBin .neq 3 false false c1 g1) h1 fun i1 j1=>
 RR (sOp (.pick (.const Y0) (.const (Value.bool true)) (.const i1)) 4) j1 fun k1 l1=>
 GuardV k1 false (
 RR (sOp (.fieldAddr 32 (.const a0) 2) 0) l1 fun m1 n1=>
 RR (sOp (.load 9 (.const m1)) 9) n1 fun o1 q1=>
 RR (sOp (.fieldAddr 32 (.const c0) 2) 0) q1 fun s1 t1=>
 RR (sOp (.load 9 (.const s1)) 9) t1 fun u1 v1=>
 RR (sBin .neq 9 false false o1 u1) v1 fun w1 x1=>
 RR (sOp (.pick (.const k1) (.const (Value.bool true)) (.const w1)) 4) x1 fun y1 z1=>
 GuardV y1 false (
 RR (sOp (.fieldAddr 32 (.const a0) 3) 0) z1 fun A1 B1=>
 RR (sOp (.load 30 (.const A1)) 30) B1 fun C1 D1=>
 RR (sBuiltin .len #[30] 3 [false] [C1]) D1 fun E1 F1=>
 RR (sOp (.fieldAddr 32 (.const c0) 3) 0) F1 fun G1 H1=>
 RR (sOp (.load 30 (.const G1)) 30) H1 fun I1 J1=>
 RR (sBuiltin .len #[30] 3 [false] [I1]) J1 fun K1 L1=>
 RR (sBin .neq 3 false false E1 K1) L1 fun M1 N1=>
 RR (sOp (.pick (.const y1) (.const (Value.bool true)) (.const M1)) 4) N1 fun O1 P1=>
 O0 O1 P1) (
 RR (sOp (.pick (.const y1) (.const (Value.bool true)) (.const undef)) 4) z1 fun Q1 S1=>
 O0 Q1 S1)) (
 RR (sOp (.pick (.const k1) (.const (Value.bool true)) (.const undef)) 4) l1 fun T1 U1=>
 GuardV T1 false (
 RR (sOp (.fieldAddr 32 (.const a0) 3) 0) U1 fun V1 W1=>
 RR (sOp (.load 30 (.const V1)) 30) W1 fun X1 Y1=>
 RR (sBuiltin .len #[30] 3 [false] [X1]) Y1 fun Z1 a2=>
 RR (sOp (.fieldAddr 32 (.const c0) 3) 0) a2 fun b2 c2=>
 RR (sOp (.load 30 (.const b2)) 30) c2 fun d2 e2=>
 RR (sBuiltin .len #[30] 3 [false] [d2]) e2 fun f2 g2=>
 RR (sBin .neq 3 false false Z1 f2) g2 fun h2 i2=>
 RR (sOp (.pick (.const T1) (.const (Value.bool true)) (.const h2)) 4) i2 fun j2 k2=>
 O0 j2 k2) (
 RR (sOp (.pick (.const T1) (.const (Value.bool true)) (.const undef)) 4) U1 fun l2 m2=>
 O0 l2 m2))) (
 RR (sOp (.pick (.const Y0) (.const (Value.bool true)) (.const undef)) 4) Z0 fun n2 o2=>
 GuardV n2 false (
 RR (sOp (.fieldAddr 32 (.const a0) 2) 0) o2 fun q2 s2=>
 RR (sOp (.load 9 (.const q2)) 9) s2 fun t2 u2=>
 RR (sOp (.fieldAddr 32 (.const c0) 2) 0) u2 fun v2 w2=>
 RR (sOp (.load 9 (.const v2)) 9) w2 fun x2 y2=>
 RR (sBin .neq 9 false false t2 x2) y2 fun z2 A2=>
 RR (sOp (.pick (.const n2) (.const (Value.bool true)) (.const z2)) 4) A2 fun B2 C2=>
 GuardV B2 false (
 RR (sOp (.fieldAddr 32 (.const a0) 3) 0) C2 fun D2 E2=>
 RR (sOp (.load 30 (.const D2)) 30) E2 fun F2 G2=>
 RR (sBuiltin .len #[30] 3 [false] [F2]) G2 fun H2 I2=>
 RR (sOp (.fieldAddr 32 (.const c0) 3) 0) I2 fun J2 K2=>
 RR (sOp (.load 30 (.const J2)) 30) K2 fun L2 M2=>
 RR (sBuiltin .len #[30] 3 [false] [L2]) M2 fun N2 O2=>
 RR (sBin .neq 3 false false H2 N2) O2 fun P2 Q2=>
 RR (sOp (.pick (.const B2) (.const (Value.bool true)) (.const P2)) 4) Q2 fun S2 T2=>
 O0 S2 T2) (
 RR (sOp (.pick (.const B2) (.const (Value.bool true)) (.const undef)) 4) C2 fun U2 V2=>
 O0 U2 V2)) (
 RR (sOp (.pick (.const n2) (.const (Value.bool true)) (.const undef)) 4) o2 fun W2 X2=>
 GuardV W2 false (
 RR (sOp (.fieldAddr 32 (.const a0) 3) 0) X2 fun Y2 Z2=>
 RR (sOp (.load 30 (.const Y2)) 30) Z2 fun a3 b3=>
 RR (sBuiltin .len #[30] 3 [false] [a3]) b3 fun c3 d3=>
 RR (sOp (.fieldAddr 32 (.const c0) 3) 0) d3 fun e3 f3=>
 RR (sOp (.load 30 (.const e3)) 30) f3 fun g3 h3=>
 RR (sBuiltin .len #[30] 3 [false] [g3]) h3 fun i3 j3=>
 RR (sBin .neq 3 false false c3 i3) j3 fun k3 l3=>
 RR (sOp (.pick (.const W2) (.const (Value.bool true)) (.const k3)) 4) l3 fun m3 n3=>
 O0 m3 n3) (
 RR (sOp (.pick (.const W2) (.const (Value.bool true)) (.const undef)) 4) X2 fun o3 q3=>
 O0 o3 q3))))/\
 ∀ s3 _ _ _ _ _ _ _ _ _ _ _ _ _ _ _ _ _ _ _ _ _ _ _ _ _ _ _:Value,∀ t3:World,O0 s3 t3->
 CondV s3 (
 R (.returned (Value.bool false)) t3) (
 RR (sOp (.fieldAddr 32 (.const c0) 3) 0) t3 fun u3 v3=>
 RR (sOp (.load 30 (.const u3)) 30) v3 fun w3 x3=>
 RR (sBuiltin .len #[30] 3 [false] [w3]) x3 fun y3 z3=>
 (∃ (A3:Value->World->Prop) (B3:Value->World->Nat),A3 (Value.int .i64 0) z3/\
 ∀ C3 _ _ D3 E3 F3 G3 H3 I3 J3 K3 L3 M3 N3 O3 P3 _ _ _:Value,∀ Q3:World,A3 C3 Q3->
 RR (sBin .lss 3 false false C3 y3) Q3 fun S3 T3=>
 CondV S3 (
 (∃ U3:(Nat->Bool)->Value->Value->Value->Value->Value->Value->Value->Value->Value->Value->Value->Value->Value->World->Prop,U3 (fun _=>false) D3 E3 F3 G3 H3 I3 J3 K3 L3 M3 N3 O3 P3 { T3 with drawn:=T3.drawn+1 }/\(
 (∀ V3:Nat->Bool,V3 0=false->∀ W3 X3 Y3 Z3 a4 b4 c4 d4 e4 f4 g4 h4 i4 j4,U3 V3 W3 X3 Y3 Z3 a4 b4 c4 d4 e4 f4 g4 h4 i4 j4->
 RR (sOp (.fieldAddr 32 (.const a0) 3) 0) j4 fun k4 l4=>
 U3 (setD V3 0) W3 X3 Y3 Z3 a4 b4 c4 d4 e4 f4 g4 h4 k4 l4)/\
 (∀ V3:Nat->Bool,V3 1=false->V3 0=true->∀ W3 X3 Y3 Z3 a4 b4 c4 d4 e4 f4 g4 h4 i4 m4,U3 V3 W3 X3 Y3 Z3 a4 b4 c4 d4 e4 f4 g4 h4 i4 m4->
 RR (sOp (.load 30 (.const i4)) 30) m4 fun n4 o4=>
 U3 (setD V3 1) W3 X3 Y3 Z3 a4 b4 c4 d4 e4 f4 g4 n4 i4 o4)/\
 (∀ V3:Nat->Bool,V3 2=false->∀ W3 X3 Y3 Z3 a4 b4 c4 d4 e4 f4 g4 h4 i4 q4,U3 V3 W3 X3 Y3 Z3 a4 b4 c4 d4 e4 f4 g4 h4 i4 q4->
 U3 (setD V3 2) W3 X3 Y3 Z3 a4 b4 c4 d4 e4 f4 C3 h4 i4 q4)/\
 (∀ V3:Nat->Bool,V3 3=false->V3 1=true->V3 2=true->∀ W3 X3 Y3 Z3 a4 b4 c4 d4 e4 f4 g4 h4 i4 s4,U3 V3 W3 X3 Y3 Z3 a4 b4 c4 d4 e4 f4 g4 h4 i4 s4->
 RR (sOp (.indexAddr 30 (.const h4) (.const g4)) 0) s4 fun t4 u4=>
 U3 (setD V3 3) W3 X3 Y3 Z3 a4 b4 c4 d4 e4 t4 g4 h4 i4 u4)/\
 (∀ V3:Nat->Bool,V3 4=false->V3 3=true->∀ W3 X3 Y3 Z3 a4 b4 c4 d4 e4 f4 g4 h4 i4 v4,U3 V3 W3 X3 Y3 Z3 a4 b4 c4 d4 e4 f4 g4 h4 i4 v4->
 RR (sOp (.load 32 (.const f4)) 32) v4 fun w4 x4=>
 U3 (setD V3 4) W3 X3 Y3 Z3 a4 b4 c4 d4 w4 f4 g4 h4 i4 x4)/\
 (∀ V3:Nat->Bool,V3 5=false->∀ W3 X3 Y3 Z3 a4 b4 c4 d4 e4 f4 g4 h4 i4 y4,U3 V3 W3 X3 Y3 Z3 a4 b4 c4 d4 e4 f4 g4 h4 i4 y4->
 RR (sOp (.fieldAddr 32 (.const c0) 3) 0) y4 fun z4 A4=>
 U3 (setD V3 5) W3 X3 Y3 Z3 a4 b4 c4 z4 e4 f4 g4 h4 i4 A4)/\
 (∀ V3:Nat->Bool,V3 6=false->V3 5=true->∀ W3 X3 Y3 Z3 a4 b4 c4 d4 e4 f4 g4 h4 i4 B4,U3 V3 W3 X3 Y3 Z3 a4 b4 c4 d4 e4 f4 g4 h4 i4 B4->
 RR (sOp (.load 30 (.const d4)) 30) B4 fun C4 D4=>
 U3 (setD V3 6) W3 X3 Y3 Z3 a4 b4 C4 d4 e4 f4 g4 h4 i4 D4)/\
 (∀ V3:Nat->Bool,V3 7=false->∀ W3 X3 Y3 Z3 a4 b4 c4 d4 e4 f4 g4 h4 i4 E4,U3 V3 W3 X3 Y3 Z3 a4 b4 c4 d4 e4 f4 g4 h4 i4 E4->
 U3 (setD V3 7) W3 X3 Y3 Z3 a4 C3 c4 d4 e4 f4 g4 h4 i4 E4)/\
 (∀ V3:Nat->Bool,V3 8=false->V3 6=true->V3 7=true->∀ W3 X3 Y3 Z3 a4 b4 c4 d4 e4 f4 g4 h4 i4 F4,U3 V3 W3 X3 Y3 Z3 a4 b4 c4 d4 e4 f4 g4 h4 i4 F4->
 RR (sOp (.indexAddr 30 (.const c4) (.const b4)) 0) F4 fun G4 H4=>
 U3 (setD V3 8) W3 X3 Y3 Z3 G4 b4 c4 d4 e4 f4 g4 h4 i4 H4)/\
 (∀ V3:Nat->Bool,V3 9=false->V3 8=true->∀ W3 X3 Y3 Z3 a4 b4 c4 d4 e4 f4 g4 h4 i4 I4,U3 V3 W3 X3 Y3 Z3 a4 b4 c4 d4 e4 f4 g4 h4 i4 I4->
 RR (sOp (.load 32 (.const a4)) 32) I4 fun J4 K4=>
 U3 (setD V3 9) W3 X3 Y3 J4 a4 b4 c4 d4 e4 f4 g4 h4 i4 K4)/\
 (∀ V3:Nat->Bool,V3 10=false->∀ W3 X3 Y3 Z3 a4 b4 c4 d4 e4 f4 g4 h4 i4 L4,U3 V3 W3 X3 Y3 Z3 a4 b4 c4 d4 e4 f4 g4 h4 i4 L4->
 U3 (setD V3 10) W3 X3 p2 Z3 a4 b4 c4 d4 e4 f4 g4 h4 i4 L4)/\
 (∀ V3:Nat->Bool,V3 11=false->V3 4=true->V3 9=true->V3 10=true->∀ W3 X3 Y3 Z3 a4 b4 c4 d4 e4 f4 g4 h4 i4 M4,U3 V3 W3 X3 Y3 Z3 a4 b4 c4 d4 e4 f4 g4 h4 i4 M4->
 RR (sCall (Value.func (.func 63) #[] #[]) [e4,Z3,Y3]) M4 fun N4 O4=>
 U3 (setD V3 11) W3 N4 Y3 Z3 a4 b4 c4 d4 e4 f4 g4 h4 i4 O4)/\
 (∀ V3:Nat->Bool,V3 12=false->V3 11=true->∀ W3 X3 Y3 Z3 a4 b4 c4 d4 e4 f4 g4 h4 i4 P4,U3 V3 W3 X3 Y3 Z3 a4 b4 c4 d4 e4 f4 g4 h4 i4 P4->
 RR (sOp (.unOp .not 4 (.const X3)) 4) P4 fun Q4 S4=>
 U3 (setD V3 12) Q4 X3 Y3 Z3 a4 b4 c4 d4 e4 f4 g4 h4 i4 S4)/\
 True)/\
 ∀ V3:Nat->Bool,V3 12=true->V3 11=true->V3 10=true->V3 9=true->V3 8=true->V3 7=true->V3 6=true->V3 5=true->V3 4=true->V3 3=true->V3 2=true->V3 1=true->V3 0=true->∀ W3 X3 Y3 Z3 a4 b4 c4 d4 e4 f4 g4 h4 i4 T4,U3 V3 W3 X3 Y3 Z3 a4 b4 c4 d4 e4 f4 g4 h4 i4 T4->
 CondV W3 (
 R (.returned (Value.bool false)) T4) (
 RR (sBin .add 3 false true C3 (Value.int .i64 1)) T4 fun U4 V4=>
 A3 U4 V4/\B3 U4 V4<B3 C3 Q3))) (
 R (.returned (Value.bool true)) T3)))))
theorem kS {p0 p1 p2:Value} {w:World} {R:Ending->World->Prop} (h:ib p0 p1 p2 w R):Calls Tryz.prog 63 #[p0,p1,p2] w R:=
  calls_sh (.seq none .leaf (.seq none .leaf (.seq none (.seq (some [56]) .leaf .leaf) (.seq none (.seq none .leaf (.one (.loop [60] .leaf))) .leaf)))) [p0,p1,p2] aB Tryz.func63 (by kernel_rfl) (by kernel_rfl) h


/- loop.example/prologserver/spec.ClauseValid : function 64 -/
def dZ (p0:Value) (w:World) (R:Ending->World->Prop):Prop:=
 RR (sOp (.box 34 (.const p0)) 0) w fun a0 b0=>
 (∃ (c0:Value->World->Prop) (d0:Value->World->Nat),c0 (Value.int .i64 0) b0/\
 ∀ e0 _ _ _ _ _ _ _ _ _ _ _ _ _ _ _ _ _ _ _:Value,∀ f0:World,c0 e0 f0->
 (∃ g0:Value->World->Prop,(
 RR (sOp (.fieldAddr 34 (.const a0) 1) 0) f0 fun h0 i0=>
 RR (sOp (.load 30 (.const h0)) 30) i0 fun j0 k0=>
 RR (sBuiltin .len #[30] 3 [false] [j0]) k0 fun l0 m0=>
 RR (sBin .lss 3 false false e0 l0) m0 fun n0 o0=>
 GuardV n0 true (
 RR (sBin .leq 3 false true e0 (Value.int .i64 6)) o0 fun q0 s0=>
 RR (sOp (.pick (.const n0) (.const q0) (.const (Value.bool false))) 4) s0 fun t0 u0=>
 g0 t0 u0) (
 RR (sOp (.pick (.const n0) (.const undef) (.const (Value.bool false))) 4) o0 fun v0 w0=>
 g0 v0 w0))/\
 ∀ x0 _ _ _ _ _ _ _ _:Value,∀ y0:World,g0 x0 y0->
 CondV x0 (
 RR (sOp (.fieldAddr 34 (.const a0) 1) 0) y0 fun z0 A0=>
 RR (sOp (.load 30 (.const z0)) 30) A0 fun B0 C0=>
 RR (sOp (.indexAddr 30 (.const B0) (.const e0)) 0) C0 fun D0 E0=>
 RR (sOp (.load 32 (.const D0)) 32) E0 fun F0 G0=>
 RR (sCall (Value.func (.func 114) #[] #[]) [F0]) G0 fun H0 I0=>
 RR (sOp (.unOp .not 4 (.const H0)) 4) I0 fun J0 K0=>
 CondV J0 (
 R (.returned (Value.bool false)) K0) (
 RR (sBin .add 3 false true e0 (Value.int .i64 1)) K0 fun L0 M0=>
 c0 L0 M0/\d0 L0 M0<d0 e0 f0)) (
 RR (sOp (.fieldAddr 34 (.const a0) 1) 0) y0 fun N0 O0=>
 RR (sOp (.load 30 (.const N0)) 30) O0 fun P0 Q0=>
 RR (sBuiltin .len #[30] 3 [false] [P0]) Q0 fun S0 T0=>
 RR (sBin .leq 3 false true S0 (Value.int .i64 6)) T0 fun U0 V0=>
 GuardV U0 true (
 RR (sOp (.fieldAddr 34 (.const a0) 0) 0) V0 fun W0 X0=>
 RR (sOp (.load 32 (.const W0)) 32) X0 fun Y0 Z0=>
 RR (sCall (Value.func (.func 115) #[] #[]) [Y0]) Z0 fun a1 b1=>
 RR (sOp (.pick (.const U0) (.const a1) (.const (Value.bool false))) 4) b1 fun c1 d1=>
 GuardV c1 true (
 RR (sOp (.fieldAddr 34 (.const a0) 0) 0) d1 fun e1 f1=>
 RR (sOp (.load 32 (.const e1)) 32) f1 fun g1 h1=>
 RR (sCall (Value.func (.func 116) #[] #[]) [g1]) h1 fun i1 j1=>
 RR (sOp (.pick (.const c1) (.const i1) (.const (Value.bool false))) 4) j1 fun k1 l1=>
 R (.returned k1) l1) (
 RR (sOp (.pick (.const c1) (.const undef) (.const (Value.bool false))) 4) d1 fun m1 n1=>
 R (.returned m1) n1)) (
 RR (sOp (.pick (.const U0) (.const undef) (.const (Value.bool false))) 4) V0 fun o1 q1=>
 GuardV o1 true (
 RR (sOp (.fieldAddr 34 (.const a0) 0) 0) q1 fun s1 t1=>
 RR (sOp (.load 32 (.const s1)) 32) t1 fun u1 v1=>
 RR (sCall (Value.func (.func 116) #[] #[]) [u1]) v1 fun w1 x1=>
 RR (sOp (.pick (.const o1) (.const w1) (.const (Value.bool false))) 4) x1 fun y1 z1=>
 R (.returned y1) z1) (
 RR (sOp (.pick (.const o1) (.const undef) (.const (Value.bool false))) 4) q1 fun A1 B1=>
 R (.returned A1) B1)))))
theorem gt {p0:Value} {w:World} {R:Ending->World->Prop} (h:dZ p0 w R):Calls Tryz.prog 64 #[p0] w R:=
  calls_sh (.seq none .leaf (.seq none (.seq none .leaf (.one (.loop [3] (.seq none (.seq (some [12]) .leaf .leaf) .leaf)))) .leaf)) [p0] aB Tryz.func64 (by kernel_rfl) (by kernel_rfl) h


/- loop.example/prologserver/spec.l3Match : function 65 -/
def jm (p0 p1 p2:Value) (w:World) (R:Ending->World->Prop):Prop:=
 RR (sOp (.box 32 (.const p0)) 0) w fun a0 b0=>
 RR (sOp (.box 32 (.const p1)) 0) b0 fun c0 d0=>
 RR (sOp (.fieldAddr 32 (.const a0) 0) 0) d0 fun e0 f0=>
 RR (sOp (.load 3 (.const e0)) 3) f0 fun g0 h0=>
 RR (sBin .eql 3 false true g0 (Value.int .i64 1)) h0 fun i0 j0=>
 CondV i0 (
 RR (sOp (.fieldAddr 32 (.const a0) 1) 0) j0 fun k0 l0=>
 RR (sOp (.load 3 (.const k0)) 3) l0 fun m0 n0=>
 RR (sOp (.indexAddr 30 (.const p2) (.const m0)) 0) n0 fun o0 q0=>
 RR (sOp (.fieldAddr 32 (.const o0) 0) 0) q0 fun s0 t0=>
 RR (sOp (.load 3 (.const s0)) 3) t0 fun u0 v0=>
 RR (sBin .neq 3 false true u0 (Value.int .i64 0)) v0 fun w0 x0=>
 CondV w0 (
 (∃ y0:(Nat->Bool)->Value->Value->Value->Value->Value->Value->Value->Value->World->Prop,y0 (fun _=>false) (Value.bool false) undef undef undef undef undef undef undef { x0 with drawn:=x0.drawn+1 }/\(
 (∀ z0:Nat->Bool,z0 0=false->∀ A0 B0 C0 D0 E0 F0 G0 H0 I0,y0 z0 A0 B0 C0 D0 E0 F0 G0 H0 I0->
 y0 (setD z0 0) A0 B0 C0 D0 E0 F0 G0 p2 I0)/\
 (∀ z0:Nat->Bool,z0 1=false->∀ A0 B0 C0 D0 E0 F0 G0 H0 J0,y0 z0 A0 B0 C0 D0 E0 F0 G0 H0 J0->
 RR (sOp (.fieldAddr 32 (.const a0) 1) 0) J0 fun K0 L0=>
 y0 (setD z0 1) A0 B0 C0 D0 E0 F0 K0 H0 L0)/\
 (∀ z0:Nat->Bool,z0 2=false->z0 1=true->∀ A0 B0 C0 D0 E0 F0 G0 H0 M0,y0 z0 A0 B0 C0 D0 E0 F0 G0 H0 M0->
 RR (sOp (.load 3 (.const G0)) 3) M0 fun N0 O0=>
 y0 (setD z0 2) A0 B0 C0 D0 E0 N0 G0 H0 O0)/\
 (∀ z0:Nat->Bool,z0 3=false->z0 0=true->z0 2=true->∀ A0 B0 C0 D0 E0 F0 G0 H0 P0,y0 z0 A0 B0 C0 D0 E0 F0 G0 H0 P0->
 RR (sOp (.indexAddr 30 (.const H0) (.const F0)) 0) P0 fun Q0 S0=>
 y0 (setD z0 3) A0 B0 C0 D0 Q0 F0 G0 H0 S0)/\
 (∀ z0:Nat->Bool,z0 4=false->z0 3=true->∀ A0 B0 C0 D0 E0 F0 G0 H0 T0,y0 z0 A0 B0 C0 D0 E0 F0 G0 H0 T0->
 RR (sOp (.load 32 (.const E0)) 32) T0 fun U0 V0=>
 y0 (setD z0 4) A0 B0 C0 U0 E0 F0 G0 H0 V0)/\
 (∀ z0:Nat->Bool,z0 5=false->∀ A0 B0 C0 D0 E0 F0 G0 H0 W0,y0 z0 A0 B0 C0 D0 E0 F0 G0 H0 W0->
 RR (sOp (.load 32 (.const c0)) 32) W0 fun X0 Y0=>
 y0 (setD z0 5) A0 B0 X0 D0 E0 F0 G0 H0 Y0)/\
 (∀ z0:Nat->Bool,z0 6=false->z0 4=true->z0 5=true->∀ A0 B0 C0 D0 E0 F0 G0 H0 Z0,y0 z0 A0 B0 C0 D0 E0 F0 G0 H0 Z0->
 RR (sCall (Value.func (.func 117) #[] #[]) [D0,C0]) Z0 fun a1 b1=>
 y0 (setD z0 6) A0 a1 C0 D0 E0 F0 G0 H0 b1)/\
 (∀ z0:Nat->Bool,z0 7=false->z0 6=true->z0 6=true->z0 0=true->z0 1=true->z0 2=true->z0 3=true->z0 4=true->z0 5=true->z0 6=true->∀ A0 B0 C0 D0 E0 F0 G0 H0 c1,y0 z0 A0 B0 C0 D0 E0 F0 G0 H0 c1->
 y0 (setD z0 7) B0 B0 C0 D0 E0 F0 G0 H0 c1)/\
 True)/\
 ∀ z0:Nat->Bool,z0 7=true->z0 6=true->z0 5=true->z0 4=true->z0 3=true->z0 2=true->z0 1=true->z0 0=true->∀ A0 B0 C0 D0 E0 F0 G0 H0 d1,y0 z0 A0 B0 C0 D0 E0 F0 G0 H0 d1->
 R (.returned A0) d1)) (
 RR (sOp (.fieldAddr 32 (.const a0) 1) 0) x0 fun e1 f1=>
 RR (sOp (.load 3 (.const e1)) 3) f1 fun g1 h1=>
 RR (sOp (.load 32 (.const c0)) 32) h1 fun i1 j1=>
 RR (sOp (.indexAddr 30 (.const p2) (.const g1)) 0) j1 fun k1 l1=>
 RR (sOp (.store 32 (.const k1) (.const i1)) 0) l1 fun _ m1=>
 R (.returned (Value.bool true)) m1)) (
 (∃ n1:Value->World->Prop,(
 RR (sOp (.fieldAddr 32 (.const a0) 0) 0) j0 fun o1 q1=>
 RR (sOp (.load 3 (.const o1)) 3) q1 fun s1 t1=>
 RR (sOp (.fieldAddr 32 (.const c0) 0) 0) t1 fun u1 v1=>
 RR (sOp (.load 3 (.const u1)) 3) v1 fun w1 x1=>
 RR (sBin .neq 3 false false s1 w1) x1 fun y1 z1=>
 GuardV y1 false (
 RR (sOp (.fieldAddr 32 (.const a0) 1) 0) z1 fun A1 B1=>
 RR (sOp (.load 3 (.const A1)) 3) B1 fun C1 D1=>
 RR (sOp (.fieldAddr 32 (.const c0) 1) 0) D1 fun E1 F1=>
 RR (sOp (.load 3 (.const E1)) 3) F1 fun G1 H1=>
 RR (sBin .neq 3 false false C1 G1) H1 fun I1 J1=>
 RR (sOp (.pick (.const y1) (.const (Value.bool true)) (.const I1)) 4) J1 fun K1 L1=>
 GuardV K1 false (
 RR (sOp (.fieldAddr 32 (.const a0) 2) 0) L1 fun M1 N1=>
 RR (sOp (.load 9 (.const M1)) 9) N1 fun O1 P1=>
 RR (sOp (.fieldAddr 32 (.const c0) 2) 0) P1 fun Q1 S1=>
 RR (sOp (.load 9 (.const Q1)) 9) S1 fun T1 U1=>
 RR (sBin .neq 9 false false O1 T1) U1 fun V1 W1=>
 RR (sOp (.pick (.const K1) (.const (Value.bool true)) (.const V1)) 4) W1 fun X1 Y1=>
 GuardV X1 false (
 RR (sOp (.fieldAddr 32 (.const a0) 3) 0) Y1 fun Z1 a2=>
 RR (sOp (.load 30 (.const Z1)) 30) a2 fun b2 c2=>
 RR (sBuiltin .len #[30] 3 [false] [b2]) c2 fun d2 e2=>
 RR (sOp (.fieldAddr 32 (.const c0) 3) 0) e2 fun f2 g2=>
 RR (sOp (.load 30 (.const f2)) 30) g2 fun h2 i2=>
 RR (sBuiltin .len #[30] 3 [false] [h2]) i2 fun j2 k2=>
 RR (sBin .neq 3 false false d2 j2) k2 fun l2 m2=>
 RR (sOp (.pick (.const X1) (.const (Value.bool true)) (.const l2)) 4) m2 fun n2 o2=>
 n1 n2 o2) (
 RR (sOp (.pick (.const X1) (.const (Value.bool true)) (.const undef)) 4) Y1 fun q2 s2=>
 n1 q2 s2)) (
 RR (sOp (.pick (.const K1) (.const (Value.bool true)) (.const undef)) 4) L1 fun t2 u2=>
 GuardV t2 false (
 RR (sOp (.fieldAddr 32 (.const a0) 3) 0) u2 fun v2 w2=>
 RR (sOp (.load 30 (.const v2)) 30) w2 fun x2 y2=>
 RR (sBuiltin .len #[30] 3 [false] [x2]) y2 fun z2 A2=>
 RR (sOp (.fieldAddr 32 (.const c0) 3) 0) A2 fun B2 C2=>
 RR (sOp (.load 30 (.const B2)) 30) C2 fun D2 E2=>
 RR (sBuiltin .len #[30] 3 [false] [D2]) E2 fun F2 G2=>
 RR (sBin .neq 3 false false z2 F2) G2 fun H2 I2=>
 RR (sOp (.pick (.const t2) (.const (Value.bool true)) (.const H2)) 4) I2 fun J2 K2=>
 n1 J2 K2) (
 RR (sOp (.pick (.const t2) (.const (Value.bool true)) (.const undef)) 4) u2 fun L2 M2=>
 n1 L2 M2))) (
 RR (sOp (.pick (.const y1) (.const (Value.bool true)) (.const undef)) 4) z1 fun N2 O2=>
 GuardV N2 false (
 RR (sOp (.fieldAddr 32 (.const a0) 2) 0) O2 fun P2 Q2=>
 RR (sOp (.load 9 (.const P2)) 9) Q2 fun S2 T2=>
 RR (sOp (.fieldAddr 32 (.const c0) 2) 0) T2 fun U2 V2=>
 RR (sOp (.load 9 (.const U2)) 9) V2 fun W2 X2=>
 RR (sBin .neq 9 false false S2 W2) X2 fun Y2 Z2=>
 RR (sOp (.pick (.const N2) (.const (Value.bool true)) (.const Y2)) 4) Z2 fun a3 b3=>
 GuardV a3 false (
 RR (sOp (.fieldAddr 32 (.const a0) 3) 0) b3 fun c3 d3=>
 RR (sOp (.load 30 (.const c3)) 30) d3 fun e3 f3=>
 RR (sBuiltin .len #[30] 3 [false] [e3]) f3 fun g3 h3=>
 RR (sOp (.fieldAddr 32 (.const c0) 3) 0) h3 fun i3 j3=>
 RR (sOp (.load 30 (.const i3)) 30) j3 fun k3 l3=>
 RR (sBuiltin .len #[30] 3 [false] [k3]) l3 fun m3 n3=>
 RR (sBin .neq 3 false false g3 m3) n3 fun o3 q3=>
 RR (sOp (.pick (.const a3) (.const (Value.bool true)) (.const o3)) 4) q3 fun s3 t3=>
 n1 s3 t3) (
 RR (sOp (.pick (.const a3) (.const (Value.bool true)) (.const undef)) 4) b3 fun u3 v3=>
 n1 u3 v3)) (
 RR (sOp (.pick (.const N2) (.const (Value.bool true)) (.const undef)) 4) O2 fun w3 x3=>
 GuardV w3 false (
 RR (sOp (.fieldAddr 32 (.const a0) 3) 0) x3 fun y3 z3=>
 RR (sOp (.load 30 (.const y3)) 30) z3 fun A3 B3=>
 RR (sBuiltin .len #[30] 3 [false] [A3]) B3 fun C3 D3=>
 RR (sOp (.fieldAddr 32 (.const c0) 3) 0) D3 fun E3 F3=>
 RR (sOp (.load 30 (.const E3)) 30) F3 fun G3 H3=>
 RR (sBuiltin .len #[30] 3 [false] [G3]) H3 fun I3 J3=>
 RR (sBin .neq 3 false false C3 I3) J3 fun K3 L3=>
 RR (sOp (.pick (.const w3) (.const (Value.bool true)) (.const K3)) 4) L3 fun M3 N3=>
 n1 M3 N3) (
 RR (sOp (.pick (.const w3) (.const (Value.bool true)) (.const undef)) 4) x3 fun O3 P3=>
 n1 O3 P3))))/\
 ∀ Q3 _ _ _ _ _ _ _ _ _ _ _ _ _ _ _ _ _ _ _ _ _ _ _ _ _ _ _:Value,∀ S3:World,n1 Q3 S3->
 CondV Q3 (
 R (.returned (Value.bool false)) S3) (
 (∃ (T3:Value->World->Prop) (U3:Value->World->Nat),T3 (Value.int .i64 0) S3/\
 ∀ V3 _ _ _ W3 X3 Y3 Z3 a4 b4 c4 d4 e4 f4 g4 h4 i4 _ _ _ _ _:Value,∀ j4:World,T3 V3 j4->
 RR (sOp (.fieldAddr 32 (.const a0) 3) 0) j4 fun k4 l4=>
 RR (sOp (.load 30 (.const k4)) 30) l4 fun m4 n4=>
 RR (sBuiltin .len #[30] 3 [false] [m4]) n4 fun o4 q4=>
 RR (sBin .lss 3 false false V3 o4) q4 fun s4 t4=>
 CondV s4 (
 (∃ u4:(Nat->Bool)->Value->Value->Value->Value->Value->Value->Value->Value->Value->Value->Value->Value->Value->World->Prop,u4 (fun _=>false) W3 X3 Y3 Z3 a4 b4 c4 d4 e4 f4 g4 h4 i4 { t4 with drawn:=t4.drawn+1 }/\(
 (∀ v4:Nat->Bool,v4 0=false->∀ w4 x4 y4 z4 A4 B4 C4 D4 E4 F4 G4 H4 I4 J4,u4 v4 w4 x4 y4 z4 A4 B4 C4 D4 E4 F4 G4 H4 I4 J4->
 RR (sOp (.fieldAddr 32 (.const a0) 3) 0) J4 fun K4 L4=>
 u4 (setD v4 0) w4 x4 y4 z4 A4 B4 C4 D4 E4 F4 G4 H4 K4 L4)/\
 (∀ v4:Nat->Bool,v4 1=false->v4 0=true->∀ w4 x4 y4 z4 A4 B4 C4 D4 E4 F4 G4 H4 I4 M4,u4 v4 w4 x4 y4 z4 A4 B4 C4 D4 E4 F4 G4 H4 I4 M4->
 RR (sOp (.load 30 (.const I4)) 30) M4 fun N4 O4=>
 u4 (setD v4 1) w4 x4 y4 z4 A4 B4 C4 D4 E4 F4 G4 N4 I4 O4)/\
 (∀ v4:Nat->Bool,v4 2=false->∀ w4 x4 y4 z4 A4 B4 C4 D4 E4 F4 G4 H4 I4 P4,u4 v4 w4 x4 y4 z4 A4 B4 C4 D4 E4 F4 G4 H4 I4 P4->
 u4 (setD v4 2) w4 x4 y4 z4 A4 B4 C4 D4 E4 F4 V3 H4 I4 P4)/\
 (∀ v4:Nat->Bool,v4 3=false->v4 1=true->v4 2=true->∀ w4 x4 y4 z4 A4 B4 C4 D4 E4 F4 G4 H4 I4 Q4,u4 v4 w4 x4 y4 z4 A4 B4 C4 D4 E4 F4 G4 H4 I4 Q4->
 RR (sOp (.indexAddr 30 (.const H4) (.const G4)) 0) Q4 fun S4 T4=>
 u4 (setD v4 3) w4 x4 y4 z4 A4 B4 C4 D4 E4 S4 G4 H4 I4 T4)/\
 (∀ v4:Nat->Bool,v4 4=false->v4 3=true->∀ w4 x4 y4 z4 A4 B4 C4 D4 E4 F4 G4 H4 I4 U4,u4 v4 w4 x4 y4 z4 A4 B4 C4 D4 E4 F4 G4 H4 I4 U4->
 RR (sOp (.load 32 (.const F4)) 32) U4 fun V4 W4=>
 u4 (setD v4 4) w4 x4 y4 z4 A4 B4 C4 D4 V4 F4 G4 H4 I4 W4)/\
 (∀ v4:Nat->Bool,v4 5=false->∀ w4 x4 y4 z4 A4 B4 C4 D4 E4 F4 G4 H4 I4 X4,u4 v4 w4 x4 y4 z4 A4 B4 C4 D4 E4 F4 G4 H4 I4 X4->
 RR (sOp (.fieldAddr 32 (.const c0) 3) 0) X4 fun Y4 Z4=>
 u4 (setD v4 5) w4 x4 y4 z4 A4 B4 C4 Y4 E4 F4 G4 H4 I4 Z4)/\
 (∀ v4:Nat->Bool,v4 6=false->v4 5=true->∀ w4 x4 y4 z4 A4 B4 C4 D4 E4 F4 G4 H4 I4 a5,u4 v4 w4 x4 y4 z4 A4 B4 C4 D4 E4 F4 G4 H4 I4 a5->
 RR (sOp (.load 30 (.const D4)) 30) a5 fun b5 c5=>
 u4 (setD v4 6) w4 x4 y4 z4 A4 B4 b5 D4 E4 F4 G4 H4 I4 c5)/\
 (∀ v4:Nat->Bool,v4 7=false->∀ w4 x4 y4 z4 A4 B4 C4 D4 E4 F4 G4 H4 I4 d5,u4 v4 w4 x4 y4 z4 A4 B4 C4 D4 E4 F4 G4 H4 I4 d5->
 u4 (setD v4 7) w4 x4 y4 z4 A4 V3 C4 D4 E4 F4 G4 H4 I4 d5)/\
 (∀ v4:Nat->Bool,v4 8=false->v4 6=true->v4 7=true->∀ w4 x4 y4 z4 A4 B4 C4 D4 E4 F4 G4 H4 I4 e5,u4 v4 w4 x4 y4 z4 A4 B4 C4 D4 E4 F4 G4 H4 I4 e5->
 RR (sOp (.indexAddr 30 (.const C4) (.const B4)) 0) e5 fun f5 g5=>
 u4 (setD v4 8) w4 x4 y4 z4 f5 B4 C4 D4 E4 F4 G4 H4 I4 g5)/\
 (∀ v4:Nat->Bool,v4 9=false->v4 8=true->∀ w4 x4 y4 z4 A4 B4 C4 D4 E4 F4 G4 H4 I4 h5,u4 v4 w4 x4 y4 z4 A4 B4 C4 D4 E4 F4 G4 H4 I4 h5->
 RR (sOp (.load 32 (.const A4)) 32) h5 fun i5 j5=>
 u4 (setD v4 9) w4 x4 y4 i5 A4 B4 C4 D4 E4 F4 G4 H4 I4 j5)/\
 (∀ v4:Nat->Bool,v4 10=false->∀ w4 x4 y4 z4 A4 B4 C4 D4 E4 F4 G4 H4 I4 k5,u4 v4 w4 x4 y4 z4 A4 B4 C4 D4 E4 F4 G4 H4 I4 k5->
 u4 (setD v4 10) w4 x4 p2 z4 A4 B4 C4 D4 E4 F4 G4 H4 I4 k5)/\
 (∀ v4:Nat->Bool,v4 11=false->v4 4=true->v4 9=true->v4 10=true->∀ w4 x4 y4 z4 A4 B4 C4 D4 E4 F4 G4 H4 I4 l5,u4 v4 w4 x4 y4 z4 A4 B4 C4 D4 E4 F4 G4 H4 I4 l5->
 RR (sCall (Value.func (.func 65) #[] #[]) [E4,z4,y4]) l5 fun m5 n5=>
 u4 (setD v4 11) w4 m5 y4 z4 A4 B4 C4 D4 E4 F4 G4 H4 I4 n5)/\
 (∀ v4:Nat->Bool,v4 12=false->v4 11=true->∀ w4 x4 y4 z4 A4 B4 C4 D4 E4 F4 G4 H4 I4 o5,u4 v4 w4 x4 y4 z4 A4 B4 C4 D4 E4 F4 G4 H4 I4 o5->
 RR (sOp (.unOp .not 4 (.const x4)) 4) o5 fun q5 s5=>
 u4 (setD v4 12) q5 x4 y4 z4 A4 B4 C4 D4 E4 F4 G4 H4 I4 s5)/\
 True)/\
 ∀ v4:Nat->Bool,v4 12=true->v4 11=true->v4 10=true->v4 9=true->v4 8=true->v4 7=true->v4 6=true->v4 5=true->v4 4=true->v4 3=true->v4 2=true->v4 1=true->v4 0=true->∀ w4 x4 y4 z4 A4 B4 C4 D4 E4 F4 G4 H4 I4 t5,u4 v4 w4 x4 y4 z4 A4 B4 C4 D4 E4 F4 G4 H4 I4 t5->
 CondV w4 (
 R (.returned (Value.bool false)) t5) (
 RR (sBin .add 3 false true V3 (Value.int .i64 1)) t5 fun u5 v5=>
 T3 u5 v5/\U3 u5 v5<U3 V3 j4))) (
 R (.returned (Value.bool true)) t4)))))
theorem mS {p0 p1 p2:Value} {w:World} {R:Ending->World->Prop} (h:jm p0 p1 p2 w R):Calls Tryz.prog 65 #[p0,p1,p2] w R:=
  calls_sh (.seq none .leaf (.seq none .leaf (.seq none (.seq (some [57]) .leaf .leaf) (.seq none (.seq none .leaf (.one (.loop [7] .leaf))) .leaf)))) [p0,p1,p2] aB Tryz.func65 (by kernel_rfl) (by kernel_rfl) h


/- loop.example/prologserver/impl.TermValid : function 66 -/
def fm (p0:Value) (w:World) (R:Ending->World->Prop):Prop:=
 RR (sOp (.box 32 (.const p0)) 0) w fun a0 b0=>
 RR (sOp (.alloc 3) 0) b0 fun c0 d0=>
 RR (sOp (.store 3 (.const c0) (.const (Value.int .i64 0))) 0) d0 fun _ e0=>
 RR (sOp (.load 32 (.const a0)) 32) e0 fun f0 g0=>
 RR (sCall (Value.func (.func 118) #[] #[]) [f0,(Value.int .i64 1),c0]) g0 fun h0 i0=>
 R (.returned h0) i0
theorem iE {p0:Value} {w:World} {R:Ending->World->Prop} (h:fm p0 w R):Calls Tryz.prog 66 #[p0] w R:=
  calls_sh .leaf [p0] aB Tryz.func66 (by kernel_rfl) (by kernel_rfl) h


/- loop.example/prologserver/impl.isPlain : function 67 -/
def jG (p0:Value) (w:World) (R:Ending->World->Prop):Prop:=
 RR (sOp (.box 32 (.const p0)) 0) w fun a0 b0=>
 RR (sOp (.fieldAddr 32 (.const a0) 0) 0) b0 fun c0 d0=>
 RR (sOp (.load 3 (.const c0)) 3) d0 fun e0 f0=>
 RR (sBin .eql 3 false true e0 (Value.int .i64 3)) f0 fun g0 h0=>
 GuardV g0 true (
 RR (sOp (.fieldAddr 32 (.const a0) 2) 0) h0 fun i0 j0=>
 RR (sOp (.load 9 (.const i0)) 9) j0 fun k0 l0=>
 RR (sCall (Value.func (.func 119) #[] #[]) [k0]) l0 fun m0 n0=>
 RR (sOp (.pick (.const g0) (.const m0) (.const (Value.bool false))) 4) n0 fun o0 q0=>
 GuardV o0 true (
 RR (sOp (.fieldAddr 32 (.const a0) 2) 0) q0 fun s0 t0=>
 RR (sOp (.load 9 (.const s0)) 9) t0 fun u0 v0=>
 RR (sCall (Value.func (.func 120) #[] #[]) [u0]) v0 fun w0 x0=>
 RR (sOp (.unOp .not 4 (.const w0)) 4) x0 fun y0 z0=>
 RR (sOp (.pick (.const o0) (.const y0) (.const (Value.bool false))) 4) z0 fun A0 B0=>
 GuardV A0 true (
 RR (sOp (.load 32 (.const a0)) 32) B0 fun C0 D0=>
 RR (sCall (Value.func (.func 121) #[] #[]) [C0]) D0 fun E0 F0=>
 RR (sOp (.unOp .not 4 (.const E0)) 4) F0 fun G0 H0=>
 RR (sOp (.pick (.const A0) (.const G0) (.const (Value.bool false))) 4) H0 fun I0 J0=>
 R (.returned I0) J0) (
 RR (sOp (.pick (.const A0) (.const undef) (.const (Value.bool false))) 4) B0 fun K0 L0=>
 R (.returned K0) L0)) (
 RR (sOp (.pick (.const o0) (.const undef) (.const (Value.bool false))) 4) q0 fun M0 N0=>
 GuardV M0 true (
 RR (sOp (.load 32 (.const a0)) 32) N0 fun O0 P0=>
 RR (sCall (Value.func (.func 121) #[] #[]) [O0]) P0 fun Q0 S0=>
 RR (sOp (.unOp .not 4 (.const Q0)) 4) S0 fun T0 U0=>
 RR (sOp (.pick (.const M0) (.const T0) (.const (Value.bool false))) 4) U0 fun V0 W0=>
 R (.returned V0) W0) (
 RR (sOp (.pick (.const M0) (.const undef) (.const (Value.bool false))) 4) N0 fun X0 Y0=>
 R (.returned X0) Y0))) (
 RR (sOp (.pick (.const g0) (.const undef) (.const (Value.bool false))) 4) h0 fun Z0 a1=>
 GuardV Z0 true (
 RR (sOp (.fieldAddr 32 (.const a0) 2) 0) a1 fun b1 c1=>
 RR (sOp (.load 9 (.const b1)) 9) c1 fun d1 e1=>
 RR (sCall (Value.func (.func 120) #[] #[]) [d1]) e1 fun f1 g1=>
 RR (sOp (.unOp .not 4 (.const f1)) 4) g1 fun h1 i1=>
 RR (sOp (.pick (.const Z0) (.const h1) (.const (Value.bool false))) 4) i1 fun j1 k1=>
 GuardV j1 true (
 RR (sOp (.load 32 (.const a0)) 32) k1 fun l1 m1=>
 RR (sCall (Value.func (.func 121) #[] #[]) [l1]) m1 fun n1 o1=>
 RR (sOp (.unOp .not 4 (.const n1)) 4) o1 fun q1 s1=>
 RR (sOp (.pick (.const j1) (.const q1) (.const (Value.bool false))) 4) s1 fun t1 u1=>
 R (.returned t1) u1) (
 RR (sOp (.pick (.const j1) (.const undef) (.const (Value.bool false))) 4) k1 fun v1 w1=>
 R (.returned v1) w1)) (
 RR (sOp (.pick (.const Z0) (.const undef) (.const (Value.bool false))) 4) a1 fun x1 y1=>
 GuardV x1 true (
 RR (sOp (.load 32 (.const a0)) 32) y1 fun z1 A1=>
 RR (sCall (Value.func (.func 121) #[] #[]) [z1]) A1 fun B1 C1=>
 RR (sOp (.unOp .not 4 (.const B1)) 4) C1 fun D1 E1=>
 RR (sOp (.pick (.const x1) (.const D1) (.const (Value.bool false))) 4) E1 fun F1 G1=>
 R (.returned F1) G1) (
 RR (sOp (.pick (.const x1) (.const undef) (.const (Value.bool false))) 4) y1 fun H1 I1=>
 R (.returned H1) I1)))
theorem mB {p0:Value} {w:World} {R:Ending->World->Prop} (h:jG p0 w R):Calls Tryz.prog 67 #[p0] w R:=
  calls_sh .leaf [p0] aB Tryz.func67 (by kernel_rfl) (by kernel_rfl) h


/- loop.example/prologserver/impl.goalsValid : function 68 -/
def eY (p0:Value) (w:World) (R:Ending->World->Prop):Prop:=
 RR (sBuiltin .len #[30] 3 [false] [p0]) w fun a0 b0=>
 RR (sBin .leq 3 false true a0 (Value.int .i64 6)) b0 fun c0 d0=>
 GuardV c0 true (
 RR (sCall (Value.func (.func 122) #[] #[]) [p0,(Value.func (.func 123) #[] #[])]) d0 fun e0 f0=>
 RR (sOp (.unOp .not 4 (.const e0)) 4) f0 fun g0 h0=>
 RR (sOp (.pick (.const c0) (.const g0) (.const (Value.bool false))) 4) h0 fun i0 j0=>
 R (.returned i0) j0) (
 RR (sOp (.pick (.const c0) (.const undef) (.const (Value.bool false))) 4) d0 fun k0 l0=>
 R (.returned k0) l0)
theorem iv {p0:Value} {w:World} {R:Ending->World->Prop} (h:eY p0 w R):Calls Tryz.prog 68 #[p0] w R:=
  calls_sh .leaf [p0] aB Tryz.func68 (by kernel_rfl) (by kernel_rfl) h


/- loop.example/prologserver/spec.ParseProgram : function 72 -/
def dL (p0:Value) (w:World) (R:Ending->World->Prop):Prop:=
 RR (sBuildSlice 23 0 []) w fun a0 b0=>
 RR (sCall (Value.func (.func 125) #[] #[]) [p0,(Value.int .u8 10)]) b0 fun c0 d0=>
 (∃ e0:Value->World->Prop,(
 RR (sBuiltin .len #[82] 3 [false] [c0]) d0 fun f0 g0=>
 RR (sBin .gtr 3 false true f0 (Value.int .i64 21)) g0 fun h0 i0=>
 GuardV h0 false (
 RR (sBuiltin .len #[82] 3 [false] [c0]) i0 fun j0 k0=>
 RR (sBin .sub 3 false true j0 (Value.int .i64 1)) k0 fun l0 m0=>
 RR (sOp (.indexAddr 82 (.const c0) (.const l0)) 0) m0 fun n0 o0=>
 RR (sOp (.load 9 (.const n0)) 9) o0 fun q0 s0=>
 RR (sBin .neq 9 false true q0 (Value.string ⟨#[]⟩)) s0 fun t0 u0=>
 RR (sOp (.pick (.const h0) (.const (Value.bool true)) (.const t0)) 4) u0 fun v0 w0=>
 e0 v0 w0) (
 RR (sOp (.pick (.const h0) (.const (Value.bool true)) (.const undef)) 4) i0 fun x0 y0=>
 e0 x0 y0))/\
 ∀ z0 _ _ _ _ _ _ _ _ _ _ _:Value,∀ A0:World,e0 z0 A0->
 CondV z0 (
 R (.returned (.tuple #[a0,(Value.bool false)])) A0) (
 (∃ (B0:Value->Value->World->Prop) (C0:Value->Value->World->Nat),B0 (Value.int .i64 0) a0 A0/\
 ∀ D0 _ _ E0 _ _ _ _ _ _ _ _ _ _ _ _ _ _ _ _ _ _ _ _ _ _ _ _:Value,∀ F0:World,B0 D0 E0 F0->
 RR (sBin .add 3 false true D0 (Value.int .i64 1)) F0 fun G0 H0=>
 RR (sBuiltin .len #[82] 3 [false] [c0]) H0 fun I0 J0=>
 RR (sBin .lss 3 false false G0 I0) J0 fun K0 L0=>
 CondV K0 (
 RR (sOp (.indexAddr 82 (.const c0) (.const D0)) 0) L0 fun M0 N0=>
 RR (sOp (.load 9 (.const M0)) 9) N0 fun O0 P0=>
 RR (sCall (Value.func (.func 126) #[] #[]) [O0]) P0 fun Q0 S0=>
 RR (sOp (.extract (.const Q0) 0) 34) S0 fun T0 U0=>
 RR (sOp (.extract (.const Q0) 1) 4) U0 fun V0 W0=>
 RR (sOp (.alloc 34) 0) W0 fun X0 Y0=>
 RR (sOp (.store 34 (.const X0) (.const T0)) 0) Y0 fun _ Z0=>
 RR (sOp (.unOp .not 4 (.const V0)) 4) Z0 fun a1 b1=>
 CondV a1 (
 RR (sBuildSlice 23 0 []) b1 fun c1 d1=>
 R (.returned (.tuple #[c1,(Value.bool false)])) d1) (
 RR (sOp (.load 34 (.const X0)) 34) b1 fun e1 f1=>
 RR (sBuildSlice 23 1 [(0,e1)]) f1 fun g1 h1=>
 RR (sBuiltin .append #[23,23] 23 [false,false] [E0,g1]) h1 fun i1 j1=>
 RR (sBin .add 3 false true D0 (Value.int .i64 1)) j1 fun k1 l1=>
 B0 k1 i1 l1/\C0 k1 i1 l1<C0 D0 E0 F0)) (
 R (.returned (.tuple #[E0,(Value.bool true)])) L0))))
theorem fX {p0:Value} {w:World} {R:Ending->World->Prop} (h:dL p0 w R):Calls Tryz.prog 72 #[p0] w R:=
  calls_sh (.seq none .leaf (.seq none .leaf (.seq none .leaf (.seq none (.seq (some [23]) .leaf .leaf) (.seq none (.seq none .leaf (.one (.loop [6,4] .leaf))) .leaf))))) [p0] aB Tryz.func72 (by kernel_rfl) (by kernel_rfl) h


/- loop.example/prologserver/spec.l3Shift : function 80 -/
def jw (p0 p1:Value) (w:World) (R:Ending->World->Prop):Prop:=
 RR (sOp (.box 32 (.const p0)) 0) w fun a0 b0=>
 RR (sOp (.alloc 32) 0) b0 fun c0 d0=>
 RR (sOp (.fieldAddr 32 (.const a0) 0) 0) d0 fun e0 f0=>
 RR (sOp (.load 3 (.const e0)) 3) f0 fun g0 h0=>
 RR (sOp (.fieldAddr 32 (.const a0) 1) 0) h0 fun i0 j0=>
 RR (sOp (.load 3 (.const i0)) 3) j0 fun k0 l0=>
 RR (sOp (.fieldAddr 32 (.const a0) 2) 0) l0 fun m0 n0=>
 RR (sOp (.load 9 (.const m0)) 9) n0 fun o0 q0=>
 RR (sBuild 32 [(0,g0),(1,k0),(2,o0)]) q0 fun s0 t0=>
 RR (sOp (.alloc 32) 0) t0 fun u0 v0=>
 RR (sOp (.store 32 (.const u0) (.const s0)) 0) v0 fun _u w0=>
 (∃ x0:World->Prop,(
 RR (sOp (.fieldAddr 32 (.const a0) 0) 0) w0 fun y0 z0=>
 RR (sOp (.load 3 (.const y0)) 3) z0 fun A0 B0=>
 RR (sBin .eql 3 false true A0 (Value.int .i64 1)) B0 fun C0 D0=>
 CondV C0 (
 RR (sOp (.fieldAddr 32 (.const a0) 1) 0) D0 fun E0 F0=>
 RR (sOp (.load 3 (.const E0)) 3) F0 fun G0 H0=>
 RR (sBin .add 3 false false G0 p1) H0 fun I0 J0=>
 RR (sOp (.fieldAddr 32 (.const u0) 1) 0) J0 fun K0 L0=>
 RR (sOp (.store 3 (.const K0) (.const I0)) 0) L0 fun _u M0=>
 x0 M0) (
 x0 D0))/\
 ∀ _ _ _ _ _ _ _ _:Value,∀ N0:World,x0 N0->
 (∃ (O0:Value->World->Prop) (P0:Value->World->Nat),O0 (Value.int .i64 0) N0/\
 ∀ Q0 _ _ S0 T0 U0 V0 W0 X0 Y0 Z0 a1 b1 c1 d1 _ _ _ _ _:Value,∀ e1:World,O0 Q0 e1->
 RR (sOp (.fieldAddr 32 (.const a0) 3) 0) e1 fun f1 g1=>
 RR (sOp (.load 30 (.const f1)) 30) g1 fun h1 i1=>
 RR (sBuiltin .len #[30] 3 [false] [h1]) i1 fun j1 k1=>
 RR (sBin .lss 3 false false Q0 j1) k1 fun l1 m1=>
 CondV l1 (
 (∃ n1:(Nat->Bool)->Value->Value->Value->Value->Value->Value->Value->Value->Value->Value->Value->Value->World->Prop,n1 (fun _=>false) S0 T0 U0 V0 W0 X0 Y0 Z0 a1 b1 c1 d1 { m1 with drawn:=m1.drawn+1 }/\(
 (∀ o1:Nat->Bool,o1 0=false->∀ q1 s1 t1 u1 v1 w1 x1 y1 z1 A1 B1 C1 D1,n1 o1 q1 s1 t1 u1 v1 w1 x1 y1 z1 A1 B1 C1 D1->
 RR (sOp (.fieldAddr 32 (.const u0) 3) 0) D1 fun E1 F1=>
 n1 (setD o1 0) q1 s1 t1 u1 v1 w1 x1 y1 z1 A1 B1 E1 F1)/\
 (∀ o1:Nat->Bool,o1 1=false->o1 0=true->∀ q1 s1 t1 u1 v1 w1 x1 y1 z1 A1 B1 C1 G1,n1 o1 q1 s1 t1 u1 v1 w1 x1 y1 z1 A1 B1 C1 G1->
 RR (sOp (.load 30 (.const C1)) 30) G1 fun H1 I1=>
 n1 (setD o1 1) q1 s1 t1 u1 v1 w1 x1 y1 z1 A1 H1 C1 I1)/\
 (∀ o1:Nat->Bool,o1 2=false->∀ q1 s1 t1 u1 v1 w1 x1 y1 z1 A1 B1 C1 J1,n1 o1 q1 s1 t1 u1 v1 w1 x1 y1 z1 A1 B1 C1 J1->
 RR (sOp (.fieldAddr 32 (.const a0) 3) 0) J1 fun K1 L1=>
 n1 (setD o1 2) q1 s1 t1 u1 v1 w1 x1 y1 z1 K1 B1 C1 L1)/\
 (∀ o1:Nat->Bool,o1 3=false->o1 2=true->∀ q1 s1 t1 u1 v1 w1 x1 y1 z1 A1 B1 C1 M1,n1 o1 q1 s1 t1 u1 v1 w1 x1 y1 z1 A1 B1 C1 M1->
 RR (sOp (.load 30 (.const A1)) 30) M1 fun N1 O1=>
 n1 (setD o1 3) q1 s1 t1 u1 v1 w1 x1 y1 N1 A1 B1 C1 O1)/\
 (∀ o1:Nat->Bool,o1 4=false->∀ q1 s1 t1 u1 v1 w1 x1 y1 z1 A1 B1 C1 P1,n1 o1 q1 s1 t1 u1 v1 w1 x1 y1 z1 A1 B1 C1 P1->
 n1 (setD o1 4) q1 s1 t1 u1 v1 w1 x1 Q0 z1 A1 B1 C1 P1)/\
 (∀ o1:Nat->Bool,o1 5=false->o1 3=true->o1 4=true->∀ q1 s1 t1 u1 v1 w1 x1 y1 z1 A1 B1 C1 Q1,n1 o1 q1 s1 t1 u1 v1 w1 x1 y1 z1 A1 B1 C1 Q1->
 RR (sOp (.indexAddr 30 (.const z1) (.const y1)) 0) Q1 fun S1 T1=>
 n1 (setD o1 5) q1 s1 t1 u1 v1 w1 S1 y1 z1 A1 B1 C1 T1)/\
 (∀ o1:Nat->Bool,o1 6=false->o1 5=true->∀ q1 s1 t1 u1 v1 w1 x1 y1 z1 A1 B1 C1 U1,n1 o1 q1 s1 t1 u1 v1 w1 x1 y1 z1 A1 B1 C1 U1->
 RR (sOp (.load 32 (.const x1)) 32) U1 fun V1 W1=>
 n1 (setD o1 6) q1 s1 t1 u1 v1 V1 x1 y1 z1 A1 B1 C1 W1)/\
 (∀ o1:Nat->Bool,o1 7=false->∀ q1 s1 t1 u1 v1 w1 x1 y1 z1 A1 B1 C1 X1,n1 o1 q1 s1 t1 u1 v1 w1 x1 y1 z1 A1 B1 C1 X1->
 n1 (setD o1 7) q1 s1 t1 u1 p1 w1 x1 y1 z1 A1 B1 C1 X1)/\
 (∀ o1:Nat->Bool,o1 8=false->o1 6=true->o1 7=true->∀ q1 s1 t1 u1 v1 w1 x1 y1 z1 A1 B1 C1 Y1,n1 o1 q1 s1 t1 u1 v1 w1 x1 y1 z1 A1 B1 C1 Y1->
 RR (sCall (Value.func (.func 80) #[] #[]) [w1,v1]) Y1 fun Z1 a2=>
 n1 (setD o1 8) q1 s1 t1 Z1 v1 w1 x1 y1 z1 A1 B1 C1 a2)/\
 (∀ o1:Nat->Bool,o1 9=false->o1 8=true->∀ q1 s1 t1 u1 v1 w1 x1 y1 z1 A1 B1 C1 b2,n1 o1 q1 s1 t1 u1 v1 w1 x1 y1 z1 A1 B1 C1 b2->
 RR (sBuildSlice 30 1 [(0,u1)]) b2 fun c2 d2=>
 n1 (setD o1 9) q1 s1 c2 u1 v1 w1 x1 y1 z1 A1 B1 C1 d2)/\
 (∀ o1:Nat->Bool,o1 10=false->o1 1=true->o1 9=true->o1 8=true->∀ q1 s1 t1 u1 v1 w1 x1 y1 z1 A1 B1 C1 e2,n1 o1 q1 s1 t1 u1 v1 w1 x1 y1 z1 A1 B1 C1 e2->
 RR (sBuiltin .append #[30,30] 30 [false,false] [B1,t1]) e2 fun f2 g2=>
 n1 (setD o1 10) q1 f2 t1 u1 v1 w1 x1 y1 z1 A1 B1 C1 g2)/\
 (∀ o1:Nat->Bool,o1 11=false->o1 0=true->o1 1=true->o1 2=true->o1 3=true->o1 4=true->o1 5=true->o1 6=true->o1 7=true->o1 8=true->o1 9=true->o1 10=true->∀ q1 s1 t1 u1 v1 w1 x1 y1 z1 A1 B1 C1 h2,n1 o1 q1 s1 t1 u1 v1 w1 x1 y1 z1 A1 B1 C1 h2->
 RR (sOp (.fieldAddr 32 (.const u0) 3) 0) h2 fun i2 j2=>
 n1 (setD o1 11) i2 s1 t1 u1 v1 w1 x1 y1 z1 A1 B1 C1 j2)/\
 (∀ o1:Nat->Bool,o1 12=false->o1 11=true->o1 10=true->o1 10=true->o1 0=true->o1 1=true->o1 2=true->o1 3=true->o1 4=true->o1 5=true->o1 6=true->o1 7=true->o1 8=true->o1 9=true->o1 10=true->∀ q1 s1 t1 u1 v1 w1 x1 y1 z1 A1 B1 C1 k2,n1 o1 q1 s1 t1 u1 v1 w1 x1 y1 z1 A1 B1 C1 k2->
 RR (sOp (.store 30 (.const q1) (.const s1)) 0) k2 fun _u l2=>
 n1 (setD o1 12) q1 s1 t1 u1 v1 w1 x1 y1 z1 A1 B1 C1 l2)/\
 True)/\
 ∀ o1:Nat->Bool,o1 12=true->o1 11=true->o1 10=true->o1 9=true->o1 8=true->o1 7=true->o1 6=true->o1 5=true->o1 4=true->o1 3=true->o1 2=true->o1 1=true->o1 0=true->∀ q1 s1 t1 u1 v1 w1 x1 y1 z1 A1 B1 C1 m2,n1 o1 q1 s1 t1 u1 v1 w1 x1 y1 z1 A1 B1 C1 m2->
 RR (sBin .add 3 false true Q0 (Value.int .i64 1)) m2 fun n2 o2=>
 O0 n2 o2/\P0 n2 o2<P0 Q0 e1)) (
 RR (sOp (.load 32 (.const u0)) 32) m1 fun q2 s2=>
 RR (sOp (.store 32 (.const c0) (.const q2)) 0) s2 fun _ t2=>
 (LoadV Tryz.prog 32 c0 t2 fun r0=>R (.returned r0) t2))))
theorem mN {p0 p1:Value} {w:World} {R:Ending->World->Prop} (h:jw p0 p1 w R):Calls Tryz.prog 80 #[p0,p1] w R:=
  calls_sh (.seq none .leaf (.seq none .leaf (.seq (some []) .leaf (.seq none (.seq none .leaf (.one (.loop [6] .leaf))) .leaf)))) [p0,p1] aB Tryz.func80 (by kernel_rfl) (by kernel_rfl) h


/- loop.example/prologserver/impl.TermSame : function 84 -/
def gU (p0 p1:Value) (w:World) (R:Ending->World->Prop):Prop:=
 RR (sOp (.box 32 (.const p0)) 0) w fun a0 b0=>
 RR (sOp (.box 32 (.const p1)) 0) b0 fun c0 d0=>
 RR (sOp (.fieldAddr 32 (.const a0) 0) 0) d0 fun e0 f0=>
 RR (sOp (.load 3 (.const e0)) 3) f0 fun g0 h0=>
 RR (sOp (.fieldAddr 32 (.const c0) 0) 0) h0 fun i0 j0=>
 RR (sOp (.load 3 (.const i0)) 3) j0 fun k0 l0=>
 RR (sBin .eql 3 false false g0 k0) l0 fun m0 n0=>
 GuardV m0 true (
 RR (sOp (.fieldAddr 32 (.const a0) 1) 0) n0 fun o0 q0=>
 RR (sOp (.load 3 (.const o0)) 3) q0 fun s0 t0=>
 RR (sOp (.fieldAddr 32 (.const c0) 1) 0) t0 fun u0 v0=>
 RR (sOp (.load 3 (.const u0)) 3) v0 fun w0 x0=>
 RR (sBin .eql 3 false false s0 w0) x0 fun y0 z0=>
 RR (sOp (.pick (.const m0) (.const y0) (.const (Value.bool false))) 4) z0 fun A0 B0=>
 GuardV A0 true (
 RR (sOp (.fieldAddr 32 (.const a0) 2) 0) B0 fun C0 D0=>
 RR (sOp (.load 9 (.const C0)) 9) D0 fun E0 F0=>
 RR (sOp (.fieldAddr 32 (.const c0) 2) 0) F0 fun G0 H0=>
 RR (sOp (.load 9 (.const G0)) 9) H0 fun I0 J0=>
 RR (sBin .eql 9 false false E0 I0) J0 fun K0 L0=>
 RR (sOp (.pick (.const A0) (.const K0) (.const (Value.bool false))) 4) L0 fun M0 N0=>
 GuardV M0 true (
 RR (sOp (.fieldAddr 32 (.const a0) 3) 0) N0 fun O0 P0=>
 RR (sOp (.load 30 (.const O0)) 30) P0 fun Q0 S0=>
 RR (sOp (.fieldAddr 32 (.const c0) 3) 0) S0 fun T0 U0=>
 RR (sOp (.load 30 (.const T0)) 30) U0 fun V0 W0=>
 RR (sCall (Value.func (.func 85) #[] #[]) [Q0,V0,(Value.func (.func 84) #[] #[])]) W0 fun X0 Y0=>
 RR (sOp (.pick (.const M0) (.const X0) (.const (Value.bool false))) 4) Y0 fun Z0 a1=>
 R (.returned Z0) a1) (
 RR (sOp (.pick (.const M0) (.const undef) (.const (Value.bool false))) 4) N0 fun b1 c1=>
 R (.returned b1) c1)) (
 RR (sOp (.pick (.const A0) (.const undef) (.const (Value.bool false))) 4) B0 fun d1 e1=>
 GuardV d1 true (
 RR (sOp (.fieldAddr 32 (.const a0) 3) 0) e1 fun f1 g1=>
 RR (sOp (.load 30 (.const f1)) 30) g1 fun h1 i1=>
 RR (sOp (.fieldAddr 32 (.const c0) 3) 0) i1 fun j1 k1=>
 RR (sOp (.load 30 (.const j1)) 30) k1 fun l1 m1=>
 RR (sCall (Value.func (.func 85) #[] #[]) [h1,l1,(Value.func (.func 84) #[] #[])]) m1 fun n1 o1=>
 RR (sOp (.pick (.const d1) (.const n1) (.const (Value.bool false))) 4) o1 fun q1 s1=>
 R (.returned q1) s1) (
 RR (sOp (.pick (.const d1) (.const undef) (.const (Value.bool false))) 4) e1 fun t1 u1=>
 R (.returned t1) u1))) (
 RR (sOp (.pick (.const m0) (.const undef) (.const (Value.bool false))) 4) n0 fun v1 w1=>
 GuardV v1 true (
 RR (sOp (.fieldAddr 32 (.const a0) 2) 0) w1 fun x1 y1=>
 RR (sOp (.load 9 (.const x1)) 9) y1 fun z1 A1=>
 RR (sOp (.fieldAddr 32 (.const c0) 2) 0) A1 fun B1 C1=>
 RR (sOp (.load 9 (.const B1)) 9) C1 fun D1 E1=>
 RR (sBin .eql 9 false false z1 D1) E1 fun F1 G1=>
 RR (sOp (.pick (.const v1) (.const F1) (.const (Value.bool false))) 4) G1 fun H1 I1=>
 GuardV H1 true (
 RR (sOp (.fieldAddr 32 (.const a0) 3) 0) I1 fun J1 K1=>
 RR (sOp (.load 30 (.const J1)) 30) K1 fun L1 M1=>
 RR (sOp (.fieldAddr 32 (.const c0) 3) 0) M1 fun N1 O1=>
 RR (sOp (.load 30 (.const N1)) 30) O1 fun P1 Q1=>
 RR (sCall (Value.func (.func 85) #[] #[]) [L1,P1,(Value.func (.func 84) #[] #[])]) Q1 fun S1 T1=>
 RR (sOp (.pick (.const H1) (.const S1) (.const (Value.bool false))) 4) T1 fun U1 V1=>
 R (.returned U1) V1) (
 RR (sOp (.pick (.const H1) (.const undef) (.const (Value.bool false))) 4) I1 fun W1 X1=>
 R (.returned W1) X1)) (
 RR (sOp (.pick (.const v1) (.const undef) (.const (Value.bool false))) 4) w1 fun Y1 Z1=>
 GuardV Y1 true (
 RR (sOp (.fieldAddr 32 (.const a0) 3) 0) Z1 fun a2 b2=>
 RR (sOp (.load 30 (.const a2)) 30) b2 fun c2 d2=>
 RR (sOp (.fieldAddr 32 (.const c0) 3) 0) d2 fun e2 f2=>
 RR (sOp (.load 30 (.const e2)) 30) f2 fun g2 h2=>
 RR (sCall (Value.func (.func 85) #[] #[]) [c2,g2,(Value.func (.func 84) #[] #[])]) h2 fun i2 j2=>
 RR (sOp (.pick (.const Y1) (.const i2) (.const (Value.bool false))) 4) j2 fun k2 l2=>
 R (.returned k2) l2) (
 RR (sOp (.pick (.const Y1) (.const undef) (.const (Value.bool false))) 4) Z1 fun m2 n2=>
 R (.returned m2) n2)))
theorem ln {p0 p1:Value} {w:World} {R:Ending->World->Prop} (h:gU p0 p1 w R):Calls Tryz.prog 84 #[p0,p1] w R:=
  calls_sh .leaf [p0,p1] aB Tryz.func84 (by kernel_rfl) (by kernel_rfl) h


/- slices.EqualFunc[[]loop.example/prologserver/impl.Term,[]loop.example/prologserver/impl.Term,loop.example/prologserver/impl.Term,loop.example/prologserver/impl.Term] : function 85 -/
def dg (p0 p1 p2:Value) (w:World) (R:Ending->World->Prop):Prop:=
 RR (sBuiltin .len #[30] 3 [false] [p0]) w fun a0 b0=>
 RR (sBuiltin .len #[30] 3 [false] [p1]) b0 fun c0 d0=>
 RR (sBin .neq 3 false false a0 c0) d0 fun e0 f0=>
 CondV e0 (
 R (.returned (Value.bool false)) f0) (
 RR (sBuiltin .len #[30] 3 [false] [p0]) f0 fun g0 h0=>
 (∃ (i0:Value->World->Prop) (j0:Value->World->Nat),i0 (Value.int .i64 0) h0/\
 ∀ k0 _ _ _ _ _ _ _ _ _ _ _ _ _ _ _ _ _ _:Value,∀ l0:World,i0 k0 l0->
 RR (sBin .lss 3 false false k0 g0) l0 fun m0 n0=>
 CondV m0 (
 RR (sOp (.indexAddr 30 (.const p0) (.const k0)) 0) n0 fun o0 q0=>
 RR (sOp (.load 32 (.const o0)) 32) q0 fun s0 t0=>
 RR (sOp (.alloc 32) 0) t0 fun u0 v0=>
 RR (sOp (.store 32 (.const u0) (.const s0)) 0) v0 fun _u w0=>
 RR (sOp (.indexAddr 30 (.const p1) (.const k0)) 0) w0 fun x0 y0=>
 RR (sOp (.load 32 (.const x0)) 32) y0 fun z0 A0=>
 RR (sOp (.alloc 32) 0) A0 fun B0 C0=>
 RR (sOp (.store 32 (.const B0) (.const z0)) 0) C0 fun _ D0=>
 RR (sOp (.load 32 (.const u0)) 32) D0 fun E0 F0=>
 RR (sOp (.load 32 (.const B0)) 32) F0 fun G0 H0=>
 RR (sCall p2 [E0,G0]) H0 fun I0 J0=>
 RR (sOp (.unOp .not 4 (.const I0)) 4) J0 fun K0 L0=>
 CondV K0 (
 R (.returned (Value.bool false)) L0) (
 RR (sBin .add 3 false true k0 (Value.int .i64 1)) L0 fun M0 N0=>
 i0 M0 N0/\j0 M0 N0<j0 k0 l0)) (
 R (.returned (Value.bool true)) n0)))
theorem eE {p0 p1 p2:Value} {w:World} {R:Ending->World->Prop} (h:dg p0 p1 p2 w R):Calls Tryz.prog 85 #[p0,p1,p2] w R:=
  calls_sh (.seq none .leaf (.seq none .leaf (.seq none (.seq none .leaf (.one (.loop [17] .leaf))) .leaf))) [p0,p1,p2] aB Tryz.func85 (by kernel_rfl) (by kernel_rfl) h


/- loop.example/prologserver/spec.l4Program : function 91 -/
def fR (p0:Value) (w:World) (R:Ending->World->Prop):Prop:=
 RR (sCall (Value.func (.func 136) #[] #[]) []) w fun a0 b0=>
 RR (sBuiltin .len #[82] 3 [false] [a0]) b0 fun c0 d0=>
 RR (sCall (Value.func (.func 61) #[] #[]) [p0,c0]) d0 fun e0 f0=>
 RR (sOp (.indexAddr 82 (.const a0) (.const e0)) 0) f0 fun g0 h0=>
 RR (sOp (.load 9 (.const g0)) 9) h0 fun i0 j0=>
 RR (sCall (Value.func (.func 72) #[] #[]) [i0]) j0 fun k0 l0=>
 RR (sOp (.extract (.const k0) 0) 23) l0 fun m0 n0=>
 RR (sOp (.extract (.const k0) 1) 4) n0 fun _ o0=>
 R (.returned m0) o0
theorem jS {p0:Value} {w:World} {R:Ending->World->Prop} (h:fR p0 w R):Calls Tryz.prog 91 #[p0] w R:=
  calls_sh .leaf [p0] aB Tryz.func91 (by kernel_rfl) (by kernel_rfl) h


/- loop.example/prologserver/impl.within : function 96 -/
def ml (p0 p1 p2:Value) (w:World) (R:Ending->World->Prop):Prop:=
 RR (sBin .leq 3 false false p1 p0) w fun a0 b0=>
 GuardV a0 true (
 RR (sBin .leq 3 false false p0 p2) b0 fun c0 d0=>
 RR (sOp (.pick (.const a0) (.const c0) (.const (Value.bool false))) 4) d0 fun e0 f0=>
 R (.returned e0) f0) (
 RR (sOp (.pick (.const a0) (.const undef) (.const (Value.bool false))) 4) b0 fun g0 h0=>
 R (.returned g0) h0)
theorem nC {p0 p1 p2:Value} {w:World} {R:Ending->World->Prop} (h:ml p0 p1 p2 w R):Calls Tryz.prog 96 #[p0,p1,p2] w R:=
  calls_sh .leaf [p0,p1,p2] aB Tryz.func96 (by kernel_rfl) (by kernel_rfl) h


/- loop.example/prologserver/spec.l1Struct : function 106 -/
def gO (p0 p1:Value) (w:World) (R:Ending->World->Prop):Prop:=
 RR (sOp (.alloc 32) 0) w fun a0 b0=>
 RR (sBuildSlice 30 0 []) b0 fun c0 d0=>
 RR (sBuiltin .append #[30,30] 30 [false,false] [c0,p1]) d0 fun e0 f0=>
 RR (sBuild 32 [(0,(Value.int .i64 3)),(2,p0),(3,e0)]) f0 fun g0 h0=>
 RR (sOp (.store 32 (.const a0) (.const g0)) 0) h0 fun _ i0=>
 (LoadV Tryz.prog 32 a0 i0 fun r0=>R (.returned r0) i0)
theorem lh {p0 p1:Value} {w:World} {R:Ending->World->Prop} (h:gO p0 p1 w R):Calls Tryz.prog 106 #[p0,p1] w R:=
  calls_sh .leaf [p0,p1] aB Tryz.func106 (by kernel_rfl) (by kernel_rfl) h


/- (*loop.example/prologserver/spec.l18Rd).of : function 109 -/
def hZ (p0 p1:Value) (w:World) (R:Ending->World->Prop):Prop:=
 RR (sBuiltin .len #[82] 3 [false] [p1]) w fun a0 b0=>
 RR (sCall (Value.func (.func 61) #[] #[]) [p0,a0]) b0 fun c0 d0=>
 RR (sOp (.indexAddr 82 (.const p1) (.const c0)) 0) d0 fun e0 f0=>
 RR (sOp (.load 9 (.const e0)) 9) f0 fun g0 h0=>
 R (.returned g0) h0
theorem kZ {p0 p1:Value} {w:World} {R:Ending->World->Prop} (h:hZ p0 p1 w R):Calls Tryz.prog 109 #[p0,p1] w R:=
  calls_sh .leaf [p0,p1] aB Tryz.func109 (by kernel_rfl) (by kernel_rfl) h


/- loop.example/prologserver/spec.l1Draw : function 110 -/
def lN (p0 p1:Value) (w:World) (R:Ending->World->Prop):Prop:=
 RR (sOp (.alloc 32) 0) w fun a0 b0=>
 (∃ c0:Value->World->Prop,(
 RR (sBin .lss 3 false true p1 (Value.int .i64 2)) b0 fun d0 e0=>
 GuardV d0 false (
 RR (sCall (Value.func (.func 61) #[] #[]) [p0,(Value.int .i64 4)]) e0 fun f0 g0=>
 RR (sBin .eql 3 false true f0 (Value.int .i64 0)) g0 fun h0 i0=>
 RR (sOp (.pick (.const d0) (.const (Value.bool true)) (.const h0)) 4) i0 fun j0 k0=>
 c0 j0 k0) (
 RR (sOp (.pick (.const d0) (.const (Value.bool true)) (.const undef)) 4) e0 fun l0 m0=>
 c0 l0 m0))/\
 ∀ n0 _ _ _ _ _ _:Value,∀ o0:World,c0 n0 o0->
 CondV n0 (
 RR (sCall (Value.func (.func 61) #[] #[]) [p0,(Value.int .i64 4)]) o0 fun q0 s0=>
 RR (sBin .eql 3 false true q0 (Value.int .i64 0)) s0 fun t0 u0=>
 CondV t0 (
 RR (sCall (Value.func (.func 61) #[] #[]) [p0,(Value.int .i64 4)]) u0 fun v0 w0=>
 RR (sCall (Value.func (.func 148) #[] #[]) [v0]) w0 fun x0 y0=>
 RR (sOp (.store 32 (.const a0) (.const x0)) 0) y0 fun _u z0=>
 (LoadV Tryz.prog 32 a0 z0 fun r0=>R (.returned r0) z0)) (
 RR (sBin .eql 3 false true q0 (Value.int .i64 1)) u0 fun A0 B0=>
 CondV A0 (
 RR (sBuildSlice 63 6 [(0,(Value.int .i64 0)),(1,(Value.int .i64 1)),(2,(Value.int .i64 7)),(3,(Value.int .i64 (-3))),(4,(Value.int .i64 999)),(5,(Value.int .i64 (-999)))]) B0 fun C0 D0=>
 RR (sCall (Value.func (.func 140) #[] #[]) [p0,C0]) D0 fun E0 F0=>
 RR (sCall (Value.func (.func 149) #[] #[]) [E0]) F0 fun G0 H0=>
 RR (sOp (.store 32 (.const a0) (.const G0)) 0) H0 fun _u I0=>
 (LoadV Tryz.prog 32 a0 I0 fun r0=>R (.returned r0) I0)) (
 RR (sBuildSlice 82 6 [(0,(Value.string ⟨#[97]⟩)),(1,(Value.string ⟨#[98]⟩)),(2,(Value.string ⟨#[110,105,108]⟩)),(3,(Value.string ⟨#[91,93]⟩)),(4,(Value.string ⟨#[102,111,111]⟩)),(5,(Value.string ⟨#[43]⟩))]) B0 fun J0 K0=>
 RR (sCall (Value.func (.func 109) #[] #[]) [p0,J0]) K0 fun L0 M0=>
 RR (sCall (Value.func (.func 106) #[] #[]) [L0,(Value.slice none 0 0)]) M0 fun N0 O0=>
 RR (sOp (.store 32 (.const a0) (.const N0)) 0) O0 fun _u P0=>
 (LoadV Tryz.prog 32 a0 P0 fun r0=>R (.returned r0) P0)))) (
 RR (sCall (Value.func (.func 61) #[] #[]) [p0,(Value.int .i64 3)]) o0 fun Q0 S0=>
 RR (sBin .eql 3 false true Q0 (Value.int .i64 0)) S0 fun T0 U0=>
 CondV T0 (
 RR (sBin .sub 3 false true p1 (Value.int .i64 1)) U0 fun V0 W0=>
 RR (sCall (Value.func (.func 110) #[] #[]) [p0,V0]) W0 fun X0 Y0=>
 RR (sBin .sub 3 false true p1 (Value.int .i64 1)) Y0 fun Z0 a1=>
 RR (sCall (Value.func (.func 110) #[] #[]) [p0,Z0]) a1 fun b1 c1=>
 RR (sBuildSlice 30 2 [(0,X0),(1,b1)]) c1 fun d1 e1=>
 RR (sCall (Value.func (.func 106) #[] #[]) [(Value.string ⟨#[46]⟩),d1]) e1 fun f1 g1=>
 RR (sOp (.store 32 (.const a0) (.const f1)) 0) g1 fun _u h1=>
 (LoadV Tryz.prog 32 a0 h1 fun r0=>R (.returned r0) h1)) (
 RR (sBuildSlice 82 7 [(0,(Value.string ⟨#[102]⟩)),(1,(Value.string ⟨#[103]⟩)),(2,(Value.string ⟨#[115]⟩)),(3,(Value.string ⟨#[43]⟩)),(4,(Value.string ⟨#[61]⟩)),(5,(Value.string ⟨#[105,115]⟩)),(6,(Value.string ⟨#[102,111,111]⟩))]) U0 fun i1 j1=>
 RR (sCall (Value.func (.func 109) #[] #[]) [p0,i1]) j1 fun k1 l1=>
 RR (sCall (Value.func (.func 106) #[] #[]) [k1,(Value.slice none 0 0)]) l1 fun m1 n1=>
 RR (sOp (.alloc 32) 0) n1 fun o1 q1=>
 RR (sOp (.store 32 (.const o1) (.const m1)) 0) q1 fun _u s1=>
 RR (sBuildSlice 63 4 [(0,(Value.int .i64 2)),(1,(Value.int .i64 1)),(2,(Value.int .i64 3)),(3,(Value.int .i64 2))]) s1 fun t1 u1=>
 RR (sCall (Value.func (.func 140) #[] #[]) [p0,t1]) u1 fun v1 w1=>
 (∃ (x1:Value->World->Prop) (y1:Value->World->Nat),x1 v1 w1/\
 ∀ z1 _ _ A1 B1 C1 D1 E1 F1 G1 H1 I1 _ _:Value,∀ J1:World,x1 z1 J1->
 RR (sBin .gtr 3 false true z1 (Value.int .i64 0)) J1 fun K1 L1=>
 CondV K1 (
 (∃ M1:(Nat->Bool)->Value->Value->Value->Value->Value->Value->Value->Value->Value->World->Prop,M1 (fun _=>false) A1 B1 C1 D1 E1 F1 G1 H1 I1 { L1 with drawn:=L1.drawn+1 }/\(
 (∀ N1:Nat->Bool,N1 0=false->∀ O1 P1 Q1 S1 T1 U1 V1 W1 X1 Y1,M1 N1 O1 P1 Q1 S1 T1 U1 V1 W1 X1 Y1->
 RR (sOp (.fieldAddr 32 (.const o1) 3) 0) Y1 fun Z1 a2=>
 M1 (setD N1 0) O1 P1 Q1 S1 T1 U1 V1 W1 Z1 a2)/\
 (∀ N1:Nat->Bool,N1 1=false->N1 0=true->∀ O1 P1 Q1 S1 T1 U1 V1 W1 X1 b2,M1 N1 O1 P1 Q1 S1 T1 U1 V1 W1 X1 b2->
 RR (sOp (.load 30 (.const X1)) 30) b2 fun c2 d2=>
 M1 (setD N1 1) O1 P1 Q1 S1 T1 U1 V1 c2 X1 d2)/\
 (∀ N1:Nat->Bool,N1 2=false->∀ O1 P1 Q1 S1 T1 U1 V1 W1 X1 e2,M1 N1 O1 P1 Q1 S1 T1 U1 V1 W1 X1 e2->
 M1 (setD N1 2) O1 P1 Q1 S1 T1 U1 p0 W1 X1 e2)/\
 (∀ N1:Nat->Bool,N1 3=false->∀ O1 P1 Q1 S1 T1 U1 V1 W1 X1 f2,M1 N1 O1 P1 Q1 S1 T1 U1 V1 W1 X1 f2->
 M1 (setD N1 3) O1 P1 Q1 S1 T1 p1 V1 W1 X1 f2)/\
 (∀ N1:Nat->Bool,N1 4=false->N1 3=true->∀ O1 P1 Q1 S1 T1 U1 V1 W1 X1 g2,M1 N1 O1 P1 Q1 S1 T1 U1 V1 W1 X1 g2->
 RR (sBin .sub 3 false true U1 (Value.int .i64 1)) g2 fun h2 i2=>
 M1 (setD N1 4) O1 P1 Q1 S1 h2 U1 V1 W1 X1 i2)/\
 (∀ N1:Nat->Bool,N1 5=false->N1 2=true->N1 4=true->∀ O1 P1 Q1 S1 T1 U1 V1 W1 X1 j2,M1 N1 O1 P1 Q1 S1 T1 U1 V1 W1 X1 j2->
 RR (sCall (Value.func (.func 110) #[] #[]) [V1,T1]) j2 fun k2 l2=>
 M1 (setD N1 5) O1 P1 Q1 k2 T1 U1 V1 W1 X1 l2)/\
 (∀ N1:Nat->Bool,N1 6=false->N1 5=true->∀ O1 P1 Q1 S1 T1 U1 V1 W1 X1 m2,M1 N1 O1 P1 Q1 S1 T1 U1 V1 W1 X1 m2->
 RR (sBuildSlice 30 1 [(0,S1)]) m2 fun n2 o2=>
 M1 (setD N1 6) O1 P1 n2 S1 T1 U1 V1 W1 X1 o2)/\
 (∀ N1:Nat->Bool,N1 7=false->N1 1=true->N1 6=true->N1 5=true->∀ O1 P1 Q1 S1 T1 U1 V1 W1 X1 q2,M1 N1 O1 P1 Q1 S1 T1 U1 V1 W1 X1 q2->
 RR (sBuiltin .append #[30,30] 30 [false,false] [W1,Q1]) q2 fun s2 t2=>
 M1 (setD N1 7) O1 s2 Q1 S1 T1 U1 V1 W1 X1 t2)/\
 (∀ N1:Nat->Bool,N1 8=false->N1 0=true->N1 1=true->N1 2=true->N1 3=true->N1 4=true->N1 5=true->N1 6=true->N1 7=true->∀ O1 P1 Q1 S1 T1 U1 V1 W1 X1 u2,M1 N1 O1 P1 Q1 S1 T1 U1 V1 W1 X1 u2->
 RR (sOp (.fieldAddr 32 (.const o1) 3) 0) u2 fun v2 w2=>
 M1 (setD N1 8) v2 P1 Q1 S1 T1 U1 V1 W1 X1 w2)/\
 (∀ N1:Nat->Bool,N1 9=false->N1 8=true->N1 7=true->N1 7=true->N1 0=true->N1 1=true->N1 2=true->N1 3=true->N1 4=true->N1 5=true->N1 6=true->N1 7=true->∀ O1 P1 Q1 S1 T1 U1 V1 W1 X1 x2,M1 N1 O1 P1 Q1 S1 T1 U1 V1 W1 X1 x2->
 RR (sOp (.store 30 (.const O1) (.const P1)) 0) x2 fun _u y2=>
 M1 (setD N1 9) O1 P1 Q1 S1 T1 U1 V1 W1 X1 y2)/\
 True)/\
 ∀ N1:Nat->Bool,N1 9=true->N1 8=true->N1 7=true->N1 6=true->N1 5=true->N1 4=true->N1 3=true->N1 2=true->N1 1=true->N1 0=true->∀ O1 P1 Q1 S1 T1 U1 V1 W1 X1 z2,M1 N1 O1 P1 Q1 S1 T1 U1 V1 W1 X1 z2->
 RR (sBin .sub 3 false true z1 (Value.int .i64 1)) z2 fun A2 B2=>
 x1 A2 B2/\y1 A2 B2<y1 z1 J1)) (
 RR (sOp (.load 32 (.const o1)) 32) L1 fun C2 D2=>
 RR (sOp (.store 32 (.const a0) (.const C2)) 0) D2 fun _ E2=>
 (LoadV Tryz.prog 32 a0 E2 fun r0=>R (.returned r0) E2))))))
theorem nF {p0 p1:Value} {w:World} {R:Ending->World->Prop} (h:lN p0 p1 w R):Calls Tryz.prog 110 #[p0,p1] w R:=
  calls_sh (.seq none .leaf (.seq none (.seq (some [13]) .leaf .leaf) (.seq none .leaf (.seq none .leaf (.seq none (.seq none .leaf (.one (.loop [6] .leaf))) .leaf))))) [p0,p1] aB Tryz.func110 (by kernel_rfl) (by kernel_rfl) h


/- loop.example/prologserver/spec.l4Copy : function 111 -/
def fM (p0:Value) (w:World) (R:Ending->World->Prop):Prop:=
 RR (sOp (.box 34 (.const p0)) 0) w fun a0 b0=>
 RR (sOp (.alloc 34) 0) b0 fun c0 d0=>
 RR (sOp (.fieldAddr 34 (.const a0) 0) 0) d0 fun e0 f0=>
 RR (sOp (.load 32 (.const e0)) 32) f0 fun g0 h0=>
 RR (sCall (Value.func (.func 150) #[] #[]) [g0]) h0 fun i0 j0=>
 RR (sBuild 34 [(0,i0)]) j0 fun k0 l0=>
 RR (sOp (.alloc 34) 0) l0 fun m0 n0=>
 RR (sOp (.store 34 (.const m0) (.const k0)) 0) n0 fun _u o0=>
 (∃ (q0:Value->World->Prop) (s0:Value->World->Nat),q0 (Value.int .i64 0) o0/\
 ∀ t0 _ _ u0 v0 w0 x0 y0 z0 A0 B0 C0 D0 E0 _ _ _ _ _:Value,∀ F0:World,q0 t0 F0->
 RR (sOp (.fieldAddr 34 (.const a0) 1) 0) F0 fun G0 H0=>
 RR (sOp (.load 30 (.const G0)) 30) H0 fun I0 J0=>
 RR (sBuiltin .len #[30] 3 [false] [I0]) J0 fun K0 L0=>
 RR (sBin .lss 3 false false t0 K0) L0 fun M0 N0=>
 CondV M0 (
 (∃ O0:(Nat->Bool)->Value->Value->Value->Value->Value->Value->Value->Value->Value->Value->Value->World->Prop,O0 (fun _=>false) u0 v0 w0 x0 y0 z0 A0 B0 C0 D0 E0 { N0 with drawn:=N0.drawn+1 }/\(
 (∀ P0:Nat->Bool,P0 0=false->∀ Q0 S0 T0 U0 V0 W0 X0 Y0 Z0 a1 b1 c1,O0 P0 Q0 S0 T0 U0 V0 W0 X0 Y0 Z0 a1 b1 c1->
 RR (sOp (.fieldAddr 34 (.const m0) 1) 0) c1 fun d1 e1=>
 O0 (setD P0 0) Q0 S0 T0 U0 V0 W0 X0 Y0 Z0 a1 d1 e1)/\
 (∀ P0:Nat->Bool,P0 1=false->P0 0=true->∀ Q0 S0 T0 U0 V0 W0 X0 Y0 Z0 a1 b1 f1,O0 P0 Q0 S0 T0 U0 V0 W0 X0 Y0 Z0 a1 b1 f1->
 RR (sOp (.load 30 (.const b1)) 30) f1 fun g1 h1=>
 O0 (setD P0 1) Q0 S0 T0 U0 V0 W0 X0 Y0 Z0 g1 b1 h1)/\
 (∀ P0:Nat->Bool,P0 2=false->∀ Q0 S0 T0 U0 V0 W0 X0 Y0 Z0 a1 b1 i1,O0 P0 Q0 S0 T0 U0 V0 W0 X0 Y0 Z0 a1 b1 i1->
 RR (sOp (.fieldAddr 34 (.const a0) 1) 0) i1 fun j1 k1=>
 O0 (setD P0 2) Q0 S0 T0 U0 V0 W0 X0 Y0 j1 a1 b1 k1)/\
 (∀ P0:Nat->Bool,P0 3=false->P0 2=true->∀ Q0 S0 T0 U0 V0 W0 X0 Y0 Z0 a1 b1 l1,O0 P0 Q0 S0 T0 U0 V0 W0 X0 Y0 Z0 a1 b1 l1->
 RR (sOp (.load 30 (.const Z0)) 30) l1 fun m1 n1=>
 O0 (setD P0 3) Q0 S0 T0 U0 V0 W0 X0 m1 Z0 a1 b1 n1)/\
 (∀ P0:Nat->Bool,P0 4=false->∀ Q0 S0 T0 U0 V0 W0 X0 Y0 Z0 a1 b1 o1,O0 P0 Q0 S0 T0 U0 V0 W0 X0 Y0 Z0 a1 b1 o1->
 O0 (setD P0 4) Q0 S0 T0 U0 V0 W0 t0 Y0 Z0 a1 b1 o1)/\
 (∀ P0:Nat->Bool,P0 5=false->P0 3=true->P0 4=true->∀ Q0 S0 T0 U0 V0 W0 X0 Y0 Z0 a1 b1 q1,O0 P0 Q0 S0 T0 U0 V0 W0 X0 Y0 Z0 a1 b1 q1->
 RR (sOp (.indexAddr 30 (.const Y0) (.const X0)) 0) q1 fun s1 t1=>
 O0 (setD P0 5) Q0 S0 T0 U0 V0 s1 X0 Y0 Z0 a1 b1 t1)/\
 (∀ P0:Nat->Bool,P0 6=false->P0 5=true->∀ Q0 S0 T0 U0 V0 W0 X0 Y0 Z0 a1 b1 u1,O0 P0 Q0 S0 T0 U0 V0 W0 X0 Y0 Z0 a1 b1 u1->
 RR (sOp (.load 32 (.const W0)) 32) u1 fun v1 w1=>
 O0 (setD P0 6) Q0 S0 T0 U0 v1 W0 X0 Y0 Z0 a1 b1 w1)/\
 (∀ P0:Nat->Bool,P0 7=false->P0 6=true->∀ Q0 S0 T0 U0 V0 W0 X0 Y0 Z0 a1 b1 x1,O0 P0 Q0 S0 T0 U0 V0 W0 X0 Y0 Z0 a1 b1 x1->
 RR (sCall (Value.func (.func 150) #[] #[]) [V0]) x1 fun y1 z1=>
 O0 (setD P0 7) Q0 S0 T0 y1 V0 W0 X0 Y0 Z0 a1 b1 z1)/\
 (∀ P0:Nat->Bool,P0 8=false->P0 7=true->∀ Q0 S0 T0 U0 V0 W0 X0 Y0 Z0 a1 b1 A1,O0 P0 Q0 S0 T0 U0 V0 W0 X0 Y0 Z0 a1 b1 A1->
 RR (sBuildSlice 30 1 [(0,U0)]) A1 fun B1 C1=>
 O0 (setD P0 8) Q0 S0 B1 U0 V0 W0 X0 Y0 Z0 a1 b1 C1)/\
 (∀ P0:Nat->Bool,P0 9=false->P0 1=true->P0 8=true->P0 7=true->∀ Q0 S0 T0 U0 V0 W0 X0 Y0 Z0 a1 b1 D1,O0 P0 Q0 S0 T0 U0 V0 W0 X0 Y0 Z0 a1 b1 D1->
 RR (sBuiltin .append #[30,30] 30 [false,false] [a1,T0]) D1 fun E1 F1=>
 O0 (setD P0 9) Q0 E1 T0 U0 V0 W0 X0 Y0 Z0 a1 b1 F1)/\
 (∀ P0:Nat->Bool,P0 10=false->P0 0=true->P0 1=true->P0 2=true->P0 3=true->P0 4=true->P0 5=true->P0 6=true->P0 7=true->P0 8=true->P0 9=true->∀ Q0 S0 T0 U0 V0 W0 X0 Y0 Z0 a1 b1 G1,O0 P0 Q0 S0 T0 U0 V0 W0 X0 Y0 Z0 a1 b1 G1->
 RR (sOp (.fieldAddr 34 (.const m0) 1) 0) G1 fun H1 I1=>
 O0 (setD P0 10) H1 S0 T0 U0 V0 W0 X0 Y0 Z0 a1 b1 I1)/\
 (∀ P0:Nat->Bool,P0 11=false->P0 10=true->P0 9=true->P0 9=true->P0 0=true->P0 1=true->P0 2=true->P0 3=true->P0 4=true->P0 5=true->P0 6=true->P0 7=true->P0 8=true->P0 9=true->∀ Q0 S0 T0 U0 V0 W0 X0 Y0 Z0 a1 b1 J1,O0 P0 Q0 S0 T0 U0 V0 W0 X0 Y0 Z0 a1 b1 J1->
 RR (sOp (.store 30 (.const Q0) (.const S0)) 0) J1 fun _u K1=>
 O0 (setD P0 11) Q0 S0 T0 U0 V0 W0 X0 Y0 Z0 a1 b1 K1)/\
 True)/\
 ∀ P0:Nat->Bool,P0 11=true->P0 10=true->P0 9=true->P0 8=true->P0 7=true->P0 6=true->P0 5=true->P0 4=true->P0 3=true->P0 2=true->P0 1=true->P0 0=true->∀ Q0 S0 T0 U0 V0 W0 X0 Y0 Z0 a1 b1 L1,O0 P0 Q0 S0 T0 U0 V0 W0 X0 Y0 Z0 a1 b1 L1->
 RR (sBin .add 3 false true t0 (Value.int .i64 1)) L1 fun M1 N1=>
 q0 M1 N1/\s0 M1 N1<s0 t0 F0)) (
 RR (sOp (.load 34 (.const m0)) 34) N0 fun O1 P1=>
 RR (sOp (.store 34 (.const c0) (.const O1)) 0) P1 fun _ Q1=>
 (LoadV Tryz.prog 34 c0 Q1 fun r0=>R (.returned r0) Q1)))
theorem ff {p0:Value} {w:World} {R:Ending->World->Prop} (h:fM p0 w R):Calls Tryz.prog 111 #[p0] w R:=
  calls_sh (.seq none .leaf (.seq none .leaf (.seq none (.seq none .leaf (.one (.loop [4] .leaf))) .leaf))) [p0] aB Tryz.func111 (by kernel_rfl) (by kernel_rfl) h


/- loop.example/prologserver/spec.l1Mutate : function 112 -/
def gQ (p0 p1:Value) (w:World) (R:Ending->World->Prop):Prop:=
 RR (sOp (.box 32 (.const p1)) 0) w fun a0 b0=>
 RR (sOp (.alloc 32) 0) b0 fun c0 d0=>
 RR (sOp (.load 32 (.const a0)) 32) d0 fun e0 f0=>
 RR (sCall (Value.func (.func 150) #[] #[]) [e0]) f0 fun g0 h0=>
 RR (sOp (.alloc 32) 0) h0 fun i0 j0=>
 RR (sOp (.store 32 (.const i0) (.const g0)) 0) j0 fun _u k0=>
 (∃ l0:World->Prop,(
 RR (sCall (Value.func (.func 61) #[] #[]) [p0,(Value.int .i64 50)]) k0 fun m0 n0=>
 RR (sBin .eql 3 false true m0 (Value.int .i64 0)) n0 fun o0 q0=>
 CondV o0 (
 RR (sBuildSlice 63 5 [(0,(Value.int .i64 0)),(1,(Value.int .i64 4)),(2,(Value.int .i64 1)),(3,(Value.int .i64 2)),(4,(Value.int .i64 3))]) q0 fun s0 t0=>
 RR (sCall (Value.func (.func 140) #[] #[]) [p0,s0]) t0 fun u0 v0=>
 RR (sOp (.fieldAddr 32 (.const i0) 0) 0) v0 fun w0 x0=>
 RR (sOp (.store 3 (.const w0) (.const u0)) 0) x0 fun _u y0=>
 l0 y0) (
 RR (sBin .eql 3 false true m0 (Value.int .i64 1)) q0 fun z0 A0=>
 CondV z0 (
 RR (sBuildSlice 63 5 [(0,(Value.int .i64 26)),(1,(Value.int .i64 1000)),(2,(Value.int .i64 (-1000))),(3,(Value.int .i64 (-1))),(4,(Value.int .i64 1))]) A0 fun B0 C0=>
 RR (sCall (Value.func (.func 140) #[] #[]) [p0,B0]) C0 fun D0 E0=>
 RR (sOp (.fieldAddr 32 (.const i0) 1) 0) E0 fun F0 G0=>
 RR (sOp (.store 3 (.const F0) (.const D0)) 0) G0 fun _u H0=>
 l0 H0) (
 RR (sBin .eql 3 false true m0 (Value.int .i64 2)) A0 fun I0 J0=>
 CondV I0 (
 RR (sBuildSlice 82 5 [(0,(Value.string ⟨#[]⟩)),(1,(Value.string ⟨#[88]⟩)),(2,(Value.string ⟨#[116,111,111,108,111,110,103]⟩)),(3,(Value.string ⟨#[195,169]⟩)),(4,(Value.string ⟨#[97]⟩))]) J0 fun K0 L0=>
 RR (sCall (Value.func (.func 109) #[] #[]) [p0,K0]) L0 fun M0 N0=>
 RR (sOp (.fieldAddr 32 (.const i0) 2) 0) N0 fun O0 P0=>
 RR (sOp (.store 9 (.const O0) (.const M0)) 0) P0 fun _u Q0=>
 l0 Q0) (
 RR (sBin .eql 3 false true m0 (Value.int .i64 3)) J0 fun S0 T0=>
 CondV S0 (
 (∃ (U0:World->Prop) (V0:World->Nat),U0 T0/\
 ∀ W0 X0 Y0 Z0 a1 b1 _ _ _ _:Value,∀ c1:World,U0 c1->
 RR (sOp (.fieldAddr 32 (.const i0) 3) 0) c1 fun d1 e1=>
 RR (sOp (.load 30 (.const d1)) 30) e1 fun f1 g1=>
 RR (sBuiltin .len #[30] 3 [false] [f1]) g1 fun h1 i1=>
 RR (sBin .leq 3 false true h1 (Value.int .i64 4)) i1 fun j1 k1=>
 CondV j1 (
 (∃ l1:(Nat->Bool)->Value->Value->Value->Value->Value->Value->World->Prop,l1 (fun _=>false) W0 X0 Y0 Z0 a1 b1 { k1 with drawn:=k1.drawn+1 }/\(
 (∀ m1:Nat->Bool,m1 0=false->∀ n1 o1 q1 s1 t1 u1 v1,l1 m1 n1 o1 q1 s1 t1 u1 v1->
 RR (sOp (.fieldAddr 32 (.const i0) 3) 0) v1 fun w1 x1=>
 l1 (setD m1 0) n1 o1 q1 s1 t1 w1 x1)/\
 (∀ m1:Nat->Bool,m1 1=false->m1 0=true->∀ n1 o1 q1 s1 t1 u1 y1,l1 m1 n1 o1 q1 s1 t1 u1 y1->
 RR (sOp (.load 30 (.const u1)) 30) y1 fun z1 A1=>
 l1 (setD m1 1) n1 o1 q1 s1 z1 u1 A1)/\
 (∀ m1:Nat->Bool,m1 2=false->∀ n1 o1 q1 s1 t1 u1 B1,l1 m1 n1 o1 q1 s1 t1 u1 B1->
 RR (sCall (Value.func (.func 149) #[] #[]) [(Value.int .i64 1)]) B1 fun C1 D1=>
 l1 (setD m1 2) n1 o1 q1 C1 t1 u1 D1)/\
 (∀ m1:Nat->Bool,m1 3=false->m1 2=true->∀ n1 o1 q1 s1 t1 u1 E1,l1 m1 n1 o1 q1 s1 t1 u1 E1->
 RR (sBuildSlice 30 1 [(0,s1)]) E1 fun F1 G1=>
 l1 (setD m1 3) n1 o1 F1 s1 t1 u1 G1)/\
 (∀ m1:Nat->Bool,m1 4=false->m1 1=true->m1 3=true->m1 2=true->∀ n1 o1 q1 s1 t1 u1 H1,l1 m1 n1 o1 q1 s1 t1 u1 H1->
 RR (sBuiltin .append #[30,30] 30 [false,false] [t1,q1]) H1 fun I1 J1=>
 l1 (setD m1 4) n1 I1 q1 s1 t1 u1 J1)/\
 (∀ m1:Nat->Bool,m1 5=false->m1 0=true->m1 1=true->m1 2=true->m1 3=true->m1 4=true->∀ n1 o1 q1 s1 t1 u1 K1,l1 m1 n1 o1 q1 s1 t1 u1 K1->
 RR (sOp (.fieldAddr 32 (.const i0) 3) 0) K1 fun L1 M1=>
 l1 (setD m1 5) L1 o1 q1 s1 t1 u1 M1)/\
 (∀ m1:Nat->Bool,m1 6=false->m1 5=true->m1 4=true->m1 4=true->m1 0=true->m1 1=true->m1 2=true->m1 3=true->m1 4=true->∀ n1 o1 q1 s1 t1 u1 N1,l1 m1 n1 o1 q1 s1 t1 u1 N1->
 RR (sOp (.store 30 (.const n1) (.const o1)) 0) N1 fun _u O1=>
 l1 (setD m1 6) n1 o1 q1 s1 t1 u1 O1)/\
 True)/\
 ∀ m1:Nat->Bool,m1 6=true->m1 5=true->m1 4=true->m1 3=true->m1 2=true->m1 1=true->m1 0=true->∀ n1 o1 q1 s1 t1 u1 P1,l1 m1 n1 o1 q1 s1 t1 u1 P1->
 U0 P1/\V0 P1<V0 c1)) (
 l0 k1))) (
 RR (sBin .eql 3 false true m0 (Value.int .i64 4)) T0 fun Q1 S1=>
 CondV Q1 (
 (∃ (T1:Value->World->Prop) (U1:Value->World->Nat),T1 (Value.int .i64 0) S1/\
 ∀ V1 _ _ _ _ _ _ _:Value,∀ W1:World,T1 V1 W1->
 RR (sBin .lss 3 false true V1 (Value.int .i64 30)) W1 fun X1 Y1=>
 CondV X1 (
 RR (sOp (.load 32 (.const i0)) 32) Y1 fun Z1 a2=>
 RR (sBuildSlice 30 1 [(0,Z1)]) a2 fun b2 c2=>
 RR (sCall (Value.func (.func 106) #[] #[]) [(Value.string ⟨#[115]⟩),b2]) c2 fun d2 e2=>
 RR (sOp (.store 32 (.const i0) (.const d2)) 0) e2 fun _u f2=>
 RR (sBin .add 3 false true V1 (Value.int .i64 1)) f2 fun g2 h2=>
 T1 g2 h2/\U1 g2 h2<U1 V1 W1) (
 l0 Y1))) (
 l0 S1))))))/\
 ∀ _ _ _ _ _ _ _ _ _ _ _ _ _ _ _ _ _ _ _ _ _ _ _ _ _ _ _ _ _ _ _ _ _ _ _ _ _ _ _ _ _ _:Value,∀ i2:World,l0 i2->
 RR (sOp (.load 32 (.const i0)) 32) i2 fun j2 k2=>
 RR (sOp (.store 32 (.const c0) (.const j2)) 0) k2 fun _ l2=>
 (LoadV Tryz.prog 32 c0 l2 fun r0=>R (.returned r0) l2))
theorem kX {p0 p1:Value} {w:World} {R:Ending->World->Prop} (h:gQ p0 p1 w R):Calls Tryz.prog 112 #[p0,p1] w R:=
  calls_sh (.seq none .leaf (.seq none .leaf (.seq (some []) (.seq none .leaf (.one (.seq none .leaf (.two .leaf (.seq none .leaf (.two .leaf (.seq none .leaf (.two .leaf (.seq none .leaf (.two (.one (.loop [] .leaf)) (.seq none .leaf (.two (.seq none .leaf (.one (.loop [6] .leaf))) .leaf)))))))))))) .leaf))) [p0,p1] aB Tryz.func112 (by kernel_rfl) (by kernel_rfl) h


/- loop.example/prologserver/spec.l1Some : function 113 -/
def lU (p0:Value) (w:World) (R:Ending->World->Prop):Prop:=
 RR (sOp (.alloc 32) 0) w fun a0 b0=>
 RR (sBuildSlice 63 4 [(0,(Value.int .i64 3)),(1,(Value.int .i64 2)),(2,(Value.int .i64 4)),(3,(Value.int .i64 1))]) b0 fun c0 d0=>
 RR (sCall (Value.func (.func 140) #[] #[]) [p0,c0]) d0 fun e0 f0=>
 RR (sCall (Value.func (.func 110) #[] #[]) [p0,e0]) f0 fun g0 h0=>
 RR (sOp (.store 32 (.const a0) (.const g0)) 0) h0 fun _ i0=>
 (LoadV Tryz.prog 32 a0 i0 fun r0=>R (.returned r0) i0)
theorem nL {p0:Value} {w:World} {R:Ending->World->Prop} (h:lU p0 w R):Calls Tryz.prog 113 #[p0] w R:=
  calls_sh .leaf [p0] aB Tryz.func113 (by kernel_rfl) (by kernel_rfl) h


/- loop.example/prologserver/spec.GoalValid : function 114 -/
def fD (p0:Value) (w:World) (R:Ending->World->Prop):Prop:=
 RR (sOp (.box 32 (.const p0)) 0) w fun a0 b0=>
 RR (sOp (.load 32 (.const a0)) 32) b0 fun c0 d0=>
 RR (sCall (Value.func (.func 115) #[] #[]) [c0]) d0 fun e0 f0=>
 GuardV e0 true (
 RR (sOp (.load 32 (.const a0)) 32) f0 fun g0 h0=>
 RR (sCall (Value.func (.func 151) #[] #[]) [g0]) h0 fun i0 j0=>
 RR (sOp (.pick (.const e0) (.const i0) (.const (Value.bool false))) 4) j0 fun k0 l0=>
 R (.returned k0) l0) (
 RR (sOp (.pick (.const e0) (.const undef) (.const (Value.bool false))) 4) f0 fun m0 n0=>
 R (.returned m0) n0)
theorem jV {p0:Value} {w:World} {R:Ending->World->Prop} (h:fD p0 w R):Calls Tryz.prog 114 #[p0] w R:=
  calls_sh .leaf [p0] aB Tryz.func114 (by kernel_rfl) (by kernel_rfl) h


/- loop.example/prologserver/spec.TermValid : function 115 -/
def fI (p0:Value) (w:World) (R:Ending->World->Prop):Prop:=
 RR (sOp (.box 32 (.const p0)) 0) w fun a0 b0=>
 RR (sOp (.load 32 (.const a0)) 32) b0 fun c0 d0=>
 RR (sCall (Value.func (.func 152) #[] #[]) [c0,(Value.int .i64 30)]) d0 fun e0 f0=>
 GuardV e0 true (
 RR (sOp (.load 32 (.const a0)) 32) f0 fun g0 h0=>
 RR (sCall (Value.func (.func 153) #[] #[]) [g0,(Value.int .i64 120)]) h0 fun i0 j0=>
 RR (sBin .leq 3 false true i0 (Value.int .i64 120)) j0 fun k0 l0=>
 RR (sOp (.pick (.const e0) (.const k0) (.const (Value.bool false))) 4) l0 fun m0 n0=>
 R (.returned m0) n0) (
 RR (sOp (.pick (.const e0) (.const undef) (.const (Value.bool false))) 4) f0 fun o0 q0=>
 R (.returned o0) q0)
theorem jF {p0:Value} {w:World} {R:Ending->World->Prop} (h:fI p0 w R):Calls Tryz.prog 115 #[p0] w R:=
  calls_sh .leaf [p0] aB Tryz.func115 (by kernel_rfl) (by kernel_rfl) h


/- loop.example/prologserver/spec.l4Plain : function 116 -/
def ko (p0:Value) (w:World) (R:Ending->World->Prop):Prop:=
 RR (sOp (.box 32 (.const p0)) 0) w fun a0 b0=>
 RR (sOp (.fieldAddr 32 (.const a0) 0) 0) b0 fun c0 d0=>
 RR (sOp (.load 3 (.const c0)) 3) d0 fun e0 f0=>
 RR (sBin .eql 3 false true e0 (Value.int .i64 3)) f0 fun g0 h0=>
 GuardV g0 true (
 RR (sOp (.fieldAddr 32 (.const a0) 2) 0) h0 fun i0 j0=>
 RR (sOp (.load 9 (.const i0)) 9) j0 fun k0 l0=>
 RR (sCall (Value.func (.func 154) #[] #[]) [k0]) l0 fun m0 n0=>
 RR (sOp (.pick (.const g0) (.const m0) (.const (Value.bool false))) 4) n0 fun o0 q0=>
 GuardV o0 true (
 RR (sOp (.fieldAddr 32 (.const a0) 2) 0) q0 fun s0 t0=>
 RR (sOp (.load 9 (.const s0)) 9) t0 fun u0 v0=>
 RR (sOp (.fieldAddr 32 (.const a0) 3) 0) v0 fun w0 x0=>
 RR (sOp (.load 30 (.const w0)) 30) x0 fun y0 z0=>
 RR (sBuiltin .len #[30] 3 [false] [y0]) z0 fun A0 B0=>
 RR (sCall (Value.func (.func 155) #[] #[]) [u0,A0]) B0 fun C0 D0=>
 RR (sOp (.unOp .not 4 (.const C0)) 4) D0 fun E0 F0=>
 RR (sOp (.pick (.const o0) (.const E0) (.const (Value.bool false))) 4) F0 fun G0 H0=>
 GuardV G0 true (
 RR (sOp (.fieldAddr 32 (.const a0) 2) 0) H0 fun I0 J0=>
 RR (sOp (.load 9 (.const I0)) 9) J0 fun K0 L0=>
 RR (sCall (Value.func (.func 156) #[] #[]) [K0]) L0 fun M0 N0=>
 RR (sBin .eql 3 false true M0 (Value.int .i64 0)) N0 fun O0 P0=>
 RR (sOp (.pick (.const G0) (.const O0) (.const (Value.bool false))) 4) P0 fun Q0 S0=>
 R (.returned Q0) S0) (
 RR (sOp (.pick (.const G0) (.const undef) (.const (Value.bool false))) 4) H0 fun T0 U0=>
 R (.returned T0) U0)) (
 RR (sOp (.pick (.const o0) (.const undef) (.const (Value.bool false))) 4) q0 fun V0 W0=>
 GuardV V0 true (
 RR (sOp (.fieldAddr 32 (.const a0) 2) 0) W0 fun X0 Y0=>
 RR (sOp (.load 9 (.const X0)) 9) Y0 fun Z0 a1=>
 RR (sCall (Value.func (.func 156) #[] #[]) [Z0]) a1 fun b1 c1=>
 RR (sBin .eql 3 false true b1 (Value.int .i64 0)) c1 fun d1 e1=>
 RR (sOp (.pick (.const V0) (.const d1) (.const (Value.bool false))) 4) e1 fun f1 g1=>
 R (.returned f1) g1) (
 RR (sOp (.pick (.const V0) (.const undef) (.const (Value.bool false))) 4) W0 fun h1 i1=>
 R (.returned h1) i1))) (
 RR (sOp (.pick (.const g0) (.const undef) (.const (Value.bool false))) 4) h0 fun j1 k1=>
 GuardV j1 true (
 RR (sOp (.fieldAddr 32 (.const a0) 2) 0) k1 fun l1 m1=>
 RR (sOp (.load 9 (.const l1)) 9) m1 fun n1 o1=>
 RR (sOp (.fieldAddr 32 (.const a0) 3) 0) o1 fun q1 s1=>
 RR (sOp (.load 30 (.const q1)) 30) s1 fun t1 u1=>
 RR (sBuiltin .len #[30] 3 [false] [t1]) u1 fun v1 w1=>
 RR (sCall (Value.func (.func 155) #[] #[]) [n1,v1]) w1 fun x1 y1=>
 RR (sOp (.unOp .not 4 (.const x1)) 4) y1 fun z1 A1=>
 RR (sOp (.pick (.const j1) (.const z1) (.const (Value.bool false))) 4) A1 fun B1 C1=>
 GuardV B1 true (
 RR (sOp (.fieldAddr 32 (.const a0) 2) 0) C1 fun D1 E1=>
 RR (sOp (.load 9 (.const D1)) 9) E1 fun F1 G1=>
 RR (sCall (Value.func (.func 156) #[] #[]) [F1]) G1 fun H1 I1=>
 RR (sBin .eql 3 false true H1 (Value.int .i64 0)) I1 fun J1 K1=>
 RR (sOp (.pick (.const B1) (.const J1) (.const (Value.bool false))) 4) K1 fun L1 M1=>
 R (.returned L1) M1) (
 RR (sOp (.pick (.const B1) (.const undef) (.const (Value.bool false))) 4) C1 fun N1 O1=>
 R (.returned N1) O1)) (
 RR (sOp (.pick (.const j1) (.const undef) (.const (Value.bool false))) 4) k1 fun P1 Q1=>
 GuardV P1 true (
 RR (sOp (.fieldAddr 32 (.const a0) 2) 0) Q1 fun S1 T1=>
 RR (sOp (.load 9 (.const S1)) 9) T1 fun U1 V1=>
 RR (sCall (Value.func (.func 156) #[] #[]) [U1]) V1 fun W1 X1=>
 RR (sBin .eql 3 false true W1 (Value.int .i64 0)) X1 fun Y1 Z1=>
 RR (sOp (.pick (.const P1) (.const Y1) (.const (Value.bool false))) 4) Z1 fun a2 b2=>
 R (.returned a2) b2) (
 RR (sOp (.pick (.const P1) (.const undef) (.const (Value.bool false))) 4) Q1 fun c2 d2=>
 R (.returned c2) d2)))
theorem mG {p0:Value} {w:World} {R:Ending->World->Prop} (h:ko p0 w R):Calls Tryz.prog 116 #[p0] w R:=
  calls_sh .leaf [p0] aB Tryz.func116 (by kernel_rfl) (by kernel_rfl) h


/- loop.example/prologserver/spec.TermSame : function 117 -/
def hY (p0 p1:Value) (w:World) (R:Ending->World->Prop):Prop:=
 RR (sOp (.box 32 (.const p0)) 0) w fun a0 b0=>
 RR (sOp (.box 32 (.const p1)) 0) b0 fun c0 d0=>
 (∃ e0:Value->World->Prop,(
 RR (sOp (.fieldAddr 32 (.const a0) 0) 0) d0 fun f0 g0=>
 RR (sOp (.load 3 (.const f0)) 3) g0 fun h0 i0=>
 RR (sOp (.fieldAddr 32 (.const c0) 0) 0) i0 fun j0 k0=>
 RR (sOp (.load 3 (.const j0)) 3) k0 fun l0 m0=>
 RR (sBin .neq 3 false false h0 l0) m0 fun n0 o0=>
 GuardV n0 false (
 RR (sOp (.fieldAddr 32 (.const a0) 1) 0) o0 fun q0 s0=>
 RR (sOp (.load 3 (.const q0)) 3) s0 fun t0 u0=>
 RR (sOp (.fieldAddr 32 (.const c0) 1) 0) u0 fun v0 w0=>
 RR (sOp (.load 3 (.const v0)) 3) w0 fun x0 y0=>
 RR (sBin .neq 3 false false t0 x0) y0 fun z0 A0=>
 RR (sOp (.pick (.const n0) (.const (Value.bool true)) (.const z0)) 4) A0 fun B0 C0=>
 GuardV B0 false (
 RR (sOp (.fieldAddr 32 (.const a0) 2) 0) C0 fun D0 E0=>
 RR (sOp (.load 9 (.const D0)) 9) E0 fun F0 G0=>
 RR (sOp (.fieldAddr 32 (.const c0) 2) 0) G0 fun H0 I0=>
 RR (sOp (.load 9 (.const H0)) 9) I0 fun J0 K0=>
 RR (sBin .neq 9 false false F0 J0) K0 fun L0 M0=>
 RR (sOp (.pick (.const B0) (.const (Value.bool true)) (.const L0)) 4) M0 fun N0 O0=>
 GuardV N0 false (
 RR (sOp (.fieldAddr 32 (.const a0) 3) 0) O0 fun P0 Q0=>
 RR (sOp (.load 30 (.const P0)) 30) Q0 fun S0 T0=>
 RR (sBuiltin .len #[30] 3 [false] [S0]) T0 fun U0 V0=>
 RR (sOp (.fieldAddr 32 (.const c0) 3) 0) V0 fun W0 X0=>
 RR (sOp (.load 30 (.const W0)) 30) X0 fun Y0 Z0=>
 RR (sBuiltin .len #[30] 3 [false] [Y0]) Z0 fun a1 b1=>
 RR (sBin .neq 3 false false U0 a1) b1 fun c1 d1=>
 RR (sOp (.pick (.const N0) (.const (Value.bool true)) (.const c1)) 4) d1 fun e1 f1=>
 e0 e1 f1) (
 RR (sOp (.pick (.const N0) (.const (Value.bool true)) (.const undef)) 4) O0 fun g1 h1=>
 e0 g1 h1)) (
 RR (sOp (.pick (.const B0) (.const (Value.bool true)) (.const undef)) 4) C0 fun i1 j1=>
 GuardV i1 false (
 RR (sOp (.fieldAddr 32 (.const a0) 3) 0) j1 fun k1 l1=>
 RR (sOp (.load 30 (.const k1)) 30) l1 fun m1 n1=>
 RR (sBuiltin .len #[30] 3 [false] [m1]) n1 fun o1 q1=>
 RR (sOp (.fieldAddr 32 (.const c0) 3) 0) q1 fun s1 t1=>
 RR (sOp (.load 30 (.const s1)) 30) t1 fun u1 v1=>
 RR (sBuiltin .len #[30] 3 [false] [u1]) v1 fun w1 x1=>
 RR (sBin .neq 3 false false o1 w1) x1 fun y1 z1=>
 RR (sOp (.pick (.const i1) (.const (Value.bool true)) (.const y1)) 4) z1 fun A1 B1=>
 e0 A1 B1) (
 RR (sOp (.pick (.const i1) (.const (Value.bool true)) (.const undef)) 4) j1 fun C1 D1=>
 e0 C1 D1))) (
 RR (sOp (.pick (.const n0) (.const (Value.bool true)) (.const undef)) 4) o0 fun E1 F1=>
 GuardV E1 false (
 RR (sOp (.fieldAddr 32 (.const a0) 2) 0) F1 fun G1 H1=>
 RR (sOp (.load 9 (.const G1)) 9) H1 fun I1 J1=>
 RR (sOp (.fieldAddr 32 (.const c0) 2) 0) J1 fun K1 L1=>
 RR (sOp (.load 9 (.const K1)) 9) L1 fun M1 N1=>
 RR (sBin .neq 9 false false I1 M1) N1 fun O1 P1=>
 RR (sOp (.pick (.const E1) (.const (Value.bool true)) (.const O1)) 4) P1 fun Q1 S1=>
 GuardV Q1 false (
 RR (sOp (.fieldAddr 32 (.const a0) 3) 0) S1 fun T1 U1=>
 RR (sOp (.load 30 (.const T1)) 30) U1 fun V1 W1=>
 RR (sBuiltin .len #[30] 3 [false] [V1]) W1 fun X1 Y1=>
 RR (sOp (.fieldAddr 32 (.const c0) 3) 0) Y1 fun Z1 a2=>
 RR (sOp (.load 30 (.const Z1)) 30) a2 fun b2 c2=>
 RR (sBuiltin .len #[30] 3 [false] [b2]) c2 fun d2 e2=>
 RR (sBin .neq 3 false false X1 d2) e2 fun f2 g2=>
 RR (sOp (.pick (.const Q1) (.const (Value.bool true)) (.const f2)) 4) g2 fun h2 i2=>
 e0 h2 i2) (
 RR (sOp (.pick (.const Q1) (.const (Value.bool true)) (.const undef)) 4) S1 fun j2 k2=>
 e0 j2 k2)) (
 RR (sOp (.pick (.const E1) (.const (Value.bool true)) (.const undef)) 4) F1 fun l2 m2=>
 GuardV l2 false (
 RR (sOp (.fieldAddr 32 (.const a0) 3) 0) m2 fun n2 o2=>
 RR (sOp (.load 30 (.const n2)) 30) o2 fun q2 s2=>
 RR (sBuiltin .len #[30] 3 [false] [q2]) s2 fun t2 u2=>
 RR (sOp (.fieldAddr 32 (.const c0) 3) 0) u2 fun v2 w2=>
 RR (sOp (.load 30 (.const v2)) 30) w2 fun x2 y2=>
 RR (sBuiltin .len #[30] 3 [false] [x2]) y2 fun z2 A2=>
 RR (sBin .neq 3 false false t2 z2) A2 fun B2 C2=>
 RR (sOp (.pick (.const l2) (.const (Value.bool true)) (.const B2)) 4) C2 fun D2 E2=>
 e0 D2 E2) (
 RR (sOp (.pick (.const l2) (.const (Value.bool true)) (.const undef)) 4) m2 fun F2 G2=>
 e0 F2 G2))))/\
 ∀ H2 _ _ _ _ _ _ _ _ _ _ _ _ _ _ _ _ _ _ _ _ _ _ _ _ _ _ _:Value,∀ I2:World,e0 H2 I2->
 CondV H2 (
 R (.returned (Value.bool false)) I2) (
 (∃ (J2:Value->World->Prop) (K2:Value->World->Nat),J2 (Value.int .i64 0) I2/\
 ∀ L2 _ _ _ M2 N2 O2 P2 Q2 S2 T2 U2 V2 W2 X2 Y2 _ _ _ _ _:Value,∀ Z2:World,J2 L2 Z2->
 RR (sOp (.fieldAddr 32 (.const a0) 3) 0) Z2 fun a3 b3=>
 RR (sOp (.load 30 (.const a3)) 30) b3 fun c3 d3=>
 RR (sBuiltin .len #[30] 3 [false] [c3]) d3 fun e3 f3=>
 RR (sBin .lss 3 false false L2 e3) f3 fun g3 h3=>
 CondV g3 (
 (∃ i3:(Nat->Bool)->Value->Value->Value->Value->Value->Value->Value->Value->Value->Value->Value->Value->World->Prop,i3 (fun _=>false) M2 N2 O2 P2 Q2 S2 T2 U2 V2 W2 X2 Y2 { h3 with drawn:=h3.drawn+1 }/\(
 (∀ j3:Nat->Bool,j3 0=false->∀ k3 l3 m3 n3 o3 q3 s3 t3 u3 v3 w3 x3 y3,i3 j3 k3 l3 m3 n3 o3 q3 s3 t3 u3 v3 w3 x3 y3->
 RR (sOp (.fieldAddr 32 (.const a0) 3) 0) y3 fun z3 A3=>
 i3 (setD j3 0) k3 l3 m3 n3 o3 q3 s3 t3 u3 v3 w3 z3 A3)/\
 (∀ j3:Nat->Bool,j3 1=false->j3 0=true->∀ k3 l3 m3 n3 o3 q3 s3 t3 u3 v3 w3 x3 B3,i3 j3 k3 l3 m3 n3 o3 q3 s3 t3 u3 v3 w3 x3 B3->
 RR (sOp (.load 30 (.const x3)) 30) B3 fun C3 D3=>
 i3 (setD j3 1) k3 l3 m3 n3 o3 q3 s3 t3 u3 v3 C3 x3 D3)/\
 (∀ j3:Nat->Bool,j3 2=false->∀ k3 l3 m3 n3 o3 q3 s3 t3 u3 v3 w3 x3 E3,i3 j3 k3 l3 m3 n3 o3 q3 s3 t3 u3 v3 w3 x3 E3->
 i3 (setD j3 2) k3 l3 m3 n3 o3 q3 s3 t3 u3 L2 w3 x3 E3)/\
 (∀ j3:Nat->Bool,j3 3=false->j3 1=true->j3 2=true->∀ k3 l3 m3 n3 o3 q3 s3 t3 u3 v3 w3 x3 F3,i3 j3 k3 l3 m3 n3 o3 q3 s3 t3 u3 v3 w3 x3 F3->
 RR (sOp (.indexAddr 30 (.const w3) (.const v3)) 0) F3 fun G3 H3=>
 i3 (setD j3 3) k3 l3 m3 n3 o3 q3 s3 t3 G3 v3 w3 x3 H3)/\
 (∀ j3:Nat->Bool,j3 4=false->j3 3=true->∀ k3 l3 m3 n3 o3 q3 s3 t3 u3 v3 w3 x3 I3,i3 j3 k3 l3 m3 n3 o3 q3 s3 t3 u3 v3 w3 x3 I3->
 RR (sOp (.load 32 (.const u3)) 32) I3 fun J3 K3=>
 i3 (setD j3 4) k3 l3 m3 n3 o3 q3 s3 J3 u3 v3 w3 x3 K3)/\
 (∀ j3:Nat->Bool,j3 5=false->∀ k3 l3 m3 n3 o3 q3 s3 t3 u3 v3 w3 x3 L3,i3 j3 k3 l3 m3 n3 o3 q3 s3 t3 u3 v3 w3 x3 L3->
 RR (sOp (.fieldAddr 32 (.const c0) 3) 0) L3 fun M3 N3=>
 i3 (setD j3 5) k3 l3 m3 n3 o3 q3 M3 t3 u3 v3 w3 x3 N3)/\
 (∀ j3:Nat->Bool,j3 6=false->j3 5=true->∀ k3 l3 m3 n3 o3 q3 s3 t3 u3 v3 w3 x3 O3,i3 j3 k3 l3 m3 n3 o3 q3 s3 t3 u3 v3 w3 x3 O3->
 RR (sOp (.load 30 (.const s3)) 30) O3 fun P3 Q3=>
 i3 (setD j3 6) k3 l3 m3 n3 o3 P3 s3 t3 u3 v3 w3 x3 Q3)/\
 (∀ j3:Nat->Bool,j3 7=false->∀ k3 l3 m3 n3 o3 q3 s3 t3 u3 v3 w3 x3 S3,i3 j3 k3 l3 m3 n3 o3 q3 s3 t3 u3 v3 w3 x3 S3->
 i3 (setD j3 7) k3 l3 m3 n3 L2 q3 s3 t3 u3 v3 w3 x3 S3)/\
 (∀ j3:Nat->Bool,j3 8=false->j3 6=true->j3 7=true->∀ k3 l3 m3 n3 o3 q3 s3 t3 u3 v3 w3 x3 T3,i3 j3 k3 l3 m3 n3 o3 q3 s3 t3 u3 v3 w3 x3 T3->
 RR (sOp (.indexAddr 30 (.const q3) (.const o3)) 0) T3 fun U3 V3=>
 i3 (setD j3 8) k3 l3 m3 U3 o3 q3 s3 t3 u3 v3 w3 x3 V3)/\
 (∀ j3:Nat->Bool,j3 9=false->j3 8=true->∀ k3 l3 m3 n3 o3 q3 s3 t3 u3 v3 w3 x3 W3,i3 j3 k3 l3 m3 n3 o3 q3 s3 t3 u3 v3 w3 x3 W3->
 RR (sOp (.load 32 (.const n3)) 32) W3 fun X3 Y3=>
 i3 (setD j3 9) k3 l3 X3 n3 o3 q3 s3 t3 u3 v3 w3 x3 Y3)/\
 (∀ j3:Nat->Bool,j3 10=false->j3 4=true->j3 9=true->∀ k3 l3 m3 n3 o3 q3 s3 t3 u3 v3 w3 x3 Z3,i3 j3 k3 l3 m3 n3 o3 q3 s3 t3 u3 v3 w3 x3 Z3->
 RR (sCall (Value.func (.func 117) #[] #[]) [t3,m3]) Z3 fun a4 b4=>
 i3 (setD j3 10) k3 a4 m3 n3 o3 q3 s3 t3 u3 v3 w3 x3 b4)/\
 (∀ j3:Nat->Bool,j3 11=false->j3 10=true->∀ k3 l3 m3 n3 o3 q3 s3 t3 u3 v3 w3 x3 c4,i3 j3 k3 l3 m3 n3 o3 q3 s3 t3 u3 v3 w3 x3 c4->
 RR (sOp (.unOp .not 4 (.const l3)) 4) c4 fun d4 e4=>
 i3 (setD j3 11) d4 l3 m3 n3 o3 q3 s3 t3 u3 v3 w3 x3 e4)/\
 True)/\
 ∀ j3:Nat->Bool,j3 11=true->j3 10=true->j3 9=true->j3 8=true->j3 7=true->j3 6=true->j3 5=true->j3 4=true->j3 3=true->j3 2=true->j3 1=true->j3 0=true->∀ k3 l3 m3 n3 o3 q3 s3 t3 u3 v3 w3 x3 f4,i3 j3 k3 l3 m3 n3 o3 q3 s3 t3 u3 v3 w3 x3 f4->
 CondV k3 (
 R (.returned (Value.bool false)) f4) (
 RR (sBin .add 3 false true L2 (Value.int .i64 1)) f4 fun g4 h4=>
 J2 g4 h4/\K2 g4 h4<K2 L2 Z2))) (
 R (.returned (Value.bool true)) h3))))
theorem la {p0 p1:Value} {w:World} {R:Ending->World->Prop} (h:hY p0 p1 w R):Calls Tryz.prog 117 #[p0,p1] w R:=
  calls_sh (.seq none .leaf (.seq none (.seq (some [33]) .leaf .leaf) (.seq none (.seq none .leaf (.one (.loop [5] .leaf))) .leaf))) [p0,p1] aB Tryz.func117 (by kernel_rfl) (by kernel_rfl) h


/- loop.example/prologserver/impl.scan : function 118 -/
def pE (p0 p1 p2:Value) (w:World) (R:Ending->World->Prop):Prop:=
 RR (sOp (.box 32 (.const p0)) 0) w fun a0 b0=>
 RR (sOp (.box 3 (.const p1)) 0) b0 fun c0 d0=>
 RR (sOp (.box 111 (.const p2)) 0) d0 fun e0 f0=>
 RR (sOp (.load 111 (.const e0)) 111) f0 fun g0 h0=>
 RR (sOp (.nilCheck (.const g0)) 0) h0 fun i0 j0=>
 RR (sOp (.load 3 (.const i0)) 3) j0 fun k0 l0=>
 RR (sBin .add 3 false true k0 (Value.int .i64 1)) l0 fun m0 n0=>
 RR (sOp (.nilCheck (.const g0)) 0) n0 fun o0 q0=>
 RR (sOp (.store 3 (.const o0) (.const m0)) 0) q0 fun _ s0=>
 (∃ t0:Value->World->Prop,(
 RR (sOp (.load 111 (.const e0)) 111) s0 fun u0 v0=>
 RR (sOp (.nilCheck (.const u0)) 0) v0 fun w0 x0=>
 RR (sOp (.load 3 (.const w0)) 3) x0 fun y0 z0=>
 RR (sBin .gtr 3 false true y0 (Value.int .i64 120)) z0 fun A0 B0=>
 GuardV A0 false (
 RR (sOp (.load 3 (.const c0)) 3) B0 fun C0 D0=>
 RR (sBin .gtr 3 false true C0 (Value.int .i64 30)) D0 fun E0 F0=>
 RR (sOp (.pick (.const A0) (.const (Value.bool true)) (.const E0)) 4) F0 fun G0 H0=>
 t0 G0 H0) (
 RR (sOp (.pick (.const A0) (.const (Value.bool true)) (.const undef)) 4) B0 fun I0 J0=>
 t0 I0 J0))/\
 ∀ K0 _ _ _ _ _ _ _:Value,∀ L0:World,t0 K0 L0->
 CondV K0 (
 R (.returned (Value.bool false)) L0) (
 RR (sOp (.fieldAddr 32 (.const a0) 0) 0) L0 fun M0 N0=>
 RR (sOp (.load 3 (.const M0)) 3) N0 fun O0 P0=>
 RR (sBin .eql 3 false true O0 (Value.int .i64 1)) P0 fun Q0 S0=>
 CondV Q0 (
 RR (sOp (.fieldAddr 32 (.const a0) 1) 0) S0 fun T0 U0=>
 RR (sOp (.load 3 (.const T0)) 3) U0 fun V0 W0=>
 RR (sCall (Value.func (.func 96) #[] #[]) [V0,(Value.int .i64 0),(Value.int .i64 25)]) W0 fun X0 Y0=>
 GuardV X0 true (
 RR (sOp (.fieldAddr 32 (.const a0) 2) 0) Y0 fun Z0 a1=>
 RR (sOp (.load 9 (.const Z0)) 9) a1 fun b1 c1=>
 RR (sBin .eql 9 false true b1 (Value.string ⟨#[]⟩)) c1 fun d1 e1=>
 RR (sOp (.pick (.const X0) (.const d1) (.const (Value.bool false))) 4) e1 fun f1 g1=>
 GuardV f1 true (
 RR (sOp (.fieldAddr 32 (.const a0) 3) 0) g1 fun h1 i1=>
 RR (sOp (.load 30 (.const h1)) 30) i1 fun j1 k1=>
 RR (sBuiltin .len #[30] 3 [false] [j1]) k1 fun l1 m1=>
 RR (sBin .eql 3 false true l1 (Value.int .i64 0)) m1 fun n1 o1=>
 RR (sOp (.pick (.const f1) (.const n1) (.const (Value.bool false))) 4) o1 fun q1 s1=>
 R (.returned q1) s1) (
 RR (sOp (.pick (.const f1) (.const undef) (.const (Value.bool false))) 4) g1 fun t1 u1=>
 R (.returned t1) u1)) (
 RR (sOp (.pick (.const X0) (.const undef) (.const (Value.bool false))) 4) Y0 fun v1 w1=>
 GuardV v1 true (
 RR (sOp (.fieldAddr 32 (.const a0) 3) 0) w1 fun x1 y1=>
 RR (sOp (.load 30 (.const x1)) 30) y1 fun z1 A1=>
 RR (sBuiltin .len #[30] 3 [false] [z1]) A1 fun B1 C1=>
 RR (sBin .eql 3 false true B1 (Value.int .i64 0)) C1 fun D1 E1=>
 RR (sOp (.pick (.const v1) (.const D1) (.const (Value.bool false))) 4) E1 fun F1 G1=>
 R (.returned F1) G1) (
 RR (sOp (.pick (.const v1) (.const undef) (.const (Value.bool false))) 4) w1 fun H1 I1=>
 R (.returned H1) I1))) (
 RR (sBin .eql 3 false true O0 (Value.int .i64 2)) S0 fun J1 K1=>
 CondV J1 (
 RR (sOp (.fieldAddr 32 (.const a0) 1) 0) K1 fun L1 M1=>
 RR (sOp (.load 3 (.const L1)) 3) M1 fun N1 O1=>
 RR (sCall (Value.func (.func 96) #[] #[]) [N1,(Value.int .i64 (-999)),(Value.int .i64 999)]) O1 fun P1 Q1=>
 GuardV P1 true (
 RR (sOp (.fieldAddr 32 (.const a0) 2) 0) Q1 fun S1 T1=>
 RR (sOp (.load 9 (.const S1)) 9) T1 fun U1 V1=>
 RR (sBin .eql 9 false true U1 (Value.string ⟨#[]⟩)) V1 fun W1 X1=>
 RR (sOp (.pick (.const P1) (.const W1) (.const (Value.bool false))) 4) X1 fun Y1 Z1=>
 GuardV Y1 true (
 RR (sOp (.fieldAddr 32 (.const a0) 3) 0) Z1 fun a2 b2=>
 RR (sOp (.load 30 (.const a2)) 30) b2 fun c2 d2=>
 RR (sBuiltin .len #[30] 3 [false] [c2]) d2 fun e2 f2=>
 RR (sBin .eql 3 false true e2 (Value.int .i64 0)) f2 fun g2 h2=>
 RR (sOp (.pick (.const Y1) (.const g2) (.const (Value.bool false))) 4) h2 fun i2 j2=>
 R (.returned i2) j2) (
 RR (sOp (.pick (.const Y1) (.const undef) (.const (Value.bool false))) 4) Z1 fun k2 l2=>
 R (.returned k2) l2)) (
 RR (sOp (.pick (.const P1) (.const undef) (.const (Value.bool false))) 4) Q1 fun m2 n2=>
 GuardV m2 true (
 RR (sOp (.fieldAddr 32 (.const a0) 3) 0) n2 fun o2 q2=>
 RR (sOp (.load 30 (.const o2)) 30) q2 fun s2 t2=>
 RR (sBuiltin .len #[30] 3 [false] [s2]) t2 fun u2 v2=>
 RR (sBin .eql 3 false true u2 (Value.int .i64 0)) v2 fun w2 x2=>
 RR (sOp (.pick (.const m2) (.const w2) (.const (Value.bool false))) 4) x2 fun y2 z2=>
 R (.returned y2) z2) (
 RR (sOp (.pick (.const m2) (.const undef) (.const (Value.bool false))) 4) n2 fun A2 B2=>
 R (.returned A2) B2))) (
 RR (sBin .eql 3 false true O0 (Value.int .i64 3)) K1 fun C2 D2=>
 CondV C2 (
 (∃ E2:Value->World->Prop,(
 RR (sOp (.fieldAddr 32 (.const a0) 1) 0) D2 fun F2 G2=>
 RR (sOp (.load 3 (.const F2)) 3) G2 fun H2 I2=>
 RR (sBin .neq 3 false true H2 (Value.int .i64 0)) I2 fun J2 K2=>
 GuardV J2 false (
 RR (sOp (.fieldAddr 32 (.const a0) 2) 0) K2 fun L2 M2=>
 RR (sOp (.load 9 (.const L2)) 9) M2 fun N2 O2=>
 RR (sCall (Value.func (.func 157) #[] #[]) [N2]) O2 fun P2 Q2=>
 RR (sOp (.unOp .not 4 (.const P2)) 4) Q2 fun S2 T2=>
 RR (sOp (.pick (.const J2) (.const (Value.bool true)) (.const S2)) 4) T2 fun U2 V2=>
 GuardV U2 false (
 RR (sOp (.fieldAddr 32 (.const a0) 3) 0) V2 fun W2 X2=>
 RR (sOp (.load 30 (.const W2)) 30) X2 fun Y2 Z2=>
 RR (sBuiltin .len #[30] 3 [false] [Y2]) Z2 fun a3 b3=>
 RR (sBin .gtr 3 false true a3 (Value.int .i64 4)) b3 fun c3 d3=>
 RR (sOp (.pick (.const U2) (.const (Value.bool true)) (.const c3)) 4) d3 fun e3 f3=>
 E2 e3 f3) (
 RR (sOp (.pick (.const U2) (.const (Value.bool true)) (.const undef)) 4) V2 fun g3 h3=>
 E2 g3 h3)) (
 RR (sOp (.pick (.const J2) (.const (Value.bool true)) (.const undef)) 4) K2 fun i3 j3=>
 GuardV i3 false (
 RR (sOp (.fieldAddr 32 (.const a0) 3) 0) j3 fun k3 l3=>
 RR (sOp (.load 30 (.const k3)) 30) l3 fun m3 n3=>
 RR (sBuiltin .len #[30] 3 [false] [m3]) n3 fun o3 q3=>
 RR (sBin .gtr 3 false true o3 (Value.int .i64 4)) q3 fun s3 t3=>
 RR (sOp (.pick (.const i3) (.const (Value.bool true)) (.const s3)) 4) t3 fun u3 v3=>
 E2 u3 v3) (
 RR (sOp (.pick (.const i3) (.const (Value.bool true)) (.const undef)) 4) j3 fun w3 x3=>
 E2 w3 x3)))/\
 ∀ y3 _ _ _ _ _ _ _ _ _ _ _ _ _ _:Value,∀ z3:World,E2 y3 z3->
 CondV y3 (
 R (.returned (Value.bool false)) z3) (
 RR (sOp (.fieldAddr 32 (.const a0) 3) 0) z3 fun A3 B3=>
 RR (sOp (.load 30 (.const A3)) 30) B3 fun C3 D3=>
 RR (sMakeFunc (.func 158) [] [c0,e0]) D3 fun E3 F3=>
 RR (sCall (Value.func (.func 122) #[] #[]) [C3,E3]) F3 fun G3 H3=>
 RR (sOp (.unOp .not 4 (.const G3)) 4) H3 fun I3 J3=>
 R (.returned I3) J3))) (
 R (.returned (Value.bool false)) D2)))))
theorem qw {p0 p1 p2:Value} {w:World} {R:Ending->World->Prop} (h:pE p0 p1 p2 w R):Calls Tryz.prog 118 #[p0,p1,p2] w R:=
  calls_sh (.seq none .leaf (.seq none .leaf (.seq none (.seq (some [19]) .leaf .leaf) (.seq none (.seq none .leaf (.one (.seq none .leaf (.two .leaf (.seq none .leaf (.two .leaf (.seq none .leaf (.two (.seq none (.seq (some [70]) .leaf .leaf) .leaf) .leaf)))))))) .leaf)))) [p0,p1,p2] aB Tryz.func118 (by kernel_rfl) (by kernel_rfl) h


/- loop.example/prologserver/impl.isLetters : function 119 -/
def fC (p0:Value) (w:World) (R:Ending->World->Prop):Prop:=
 RR (sBuiltin .len #[9] 3 [false] [p0]) w fun a0 b0=>
 (∃ (c0:Value->World->Prop) (d0:Value->World->Nat),c0 (Value.int .i64 0) b0/\
 ∀ e0 _ _ _ _ _ _ _ _ _ _ _ _ _ _ _:Value,∀ f0:World,c0 e0 f0->
 RR (sBin .lss 3 false false e0 a0) f0 fun g0 h0=>
 CondV g0 (
 (∃ i0:Value->World->Prop,(
 RR (sOp (.index 9 (.const p0) (.const e0)) 5) h0 fun j0 k0=>
 RR (sBin .lss 5 false true j0 (Value.int .u8 97)) k0 fun l0 m0=>
 GuardV l0 false (
 RR (sOp (.index 9 (.const p0) (.const e0)) 5) m0 fun n0 o0=>
 RR (sBin .gtr 5 false true n0 (Value.int .u8 122)) o0 fun q0 s0=>
 RR (sOp (.pick (.const l0) (.const (Value.bool true)) (.const q0)) 4) s0 fun t0 u0=>
 i0 t0 u0) (
 RR (sOp (.pick (.const l0) (.const (Value.bool true)) (.const undef)) 4) m0 fun v0 w0=>
 i0 v0 w0))/\
 ∀ x0 _ _ _ _ _ _ _ _ _:Value,∀ y0:World,i0 x0 y0->
 CondV x0 (
 R (.returned (Value.bool false)) y0) (
 RR (sBin .add 3 false true e0 (Value.int .i64 1)) y0 fun z0 A0=>
 c0 z0 A0/\d0 z0 A0<d0 e0 f0))) (
 RR (sBuiltin .len #[9] 3 [false] [p0]) h0 fun B0 C0=>
 RR (sCall (Value.func (.func 96) #[] #[]) [B0,(Value.int .i64 1),(Value.int .i64 6)]) C0 fun D0 E0=>
 R (.returned D0) E0))
theorem iM {p0:Value} {w:World} {R:Ending->World->Prop} (h:fC p0 w R):Calls Tryz.prog 119 #[p0] w R:=
  calls_sh (.seq none .leaf (.seq none (.seq none .leaf (.one (.loop [6] (.seq none .leaf (.seq none .leaf (.seq none (.one (.seq none .leaf (.seq (some [18]) .leaf .leaf))) .leaf)))))) .leaf)) [p0] aB Tryz.func119 (by kernel_rfl) (by kernel_rfl) h


/- loop.example/prologserver/impl.isOp : function 120 -/
def pB (p0:Value) (w:World) (R:Ending->World->Prop):Prop:=
 RR (sCall (Value.func (.func 159) #[] #[]) [p0]) w fun a0 b0=>
 RR (sOp (.extract (.const a0) 0) 3) b0 fun c0 d0=>
 RR (sOp (.extract (.const a0) 1) 4) d0 fun _ e0=>
 RR (sBin .gtr 3 false true c0 (Value.int .i64 0)) e0 fun f0 g0=>
 R (.returned f0) g0
theorem qT {p0:Value} {w:World} {R:Ending->World->Prop} (h:pB p0 w R):Calls Tryz.prog 120 #[p0] w R:=
  calls_sh .leaf [p0] aB Tryz.func120 (by kernel_rfl) (by kernel_rfl) h


/- loop.example/prologserver/impl.isBuilt : function 121 -/
def jB (p0:Value) (w:World) (R:Ending->World->Prop):Prop:=
 RR (sOp (.box 32 (.const p0)) 0) w fun a0 b0=>
 RR (sOp (.fieldAddr 32 (.const a0) 0) 0) b0 fun c0 d0=>
 RR (sOp (.load 3 (.const c0)) 3) d0 fun e0 f0=>
 RR (sBin .eql 3 false true e0 (Value.int .i64 3)) f0 fun g0 h0=>
 GuardV g0 true (
 RR (sOp (.fieldAddr 32 (.const a0) 2) 0) h0 fun i0 j0=>
 RR (sOp (.load 9 (.const i0)) 9) j0 fun k0 l0=>
 RR (sOp (.fieldAddr 32 (.const a0) 3) 0) l0 fun m0 n0=>
 RR (sOp (.load 30 (.const m0)) 30) n0 fun o0 q0=>
 RR (sBuiltin .len #[30] 3 [false] [o0]) q0 fun s0 t0=>
 RR (sCall (Value.func (.func 160) #[] #[]) [k0,s0]) t0 fun u0 v0=>
 RR (sOp (.pick (.const g0) (.const u0) (.const (Value.bool false))) 4) v0 fun w0 x0=>
 R (.returned w0) x0) (
 RR (sOp (.pick (.const g0) (.const undef) (.const (Value.bool false))) 4) h0 fun y0 z0=>
 R (.returned y0) z0)
theorem mH {p0:Value} {w:World} {R:Ending->World->Prop} (h:jB p0 w R):Calls Tryz.prog 121 #[p0] w R:=
  calls_sh .leaf [p0] aB Tryz.func121 (by kernel_rfl) (by kernel_rfl) h


/- slices.ContainsFunc[[]loop.example/prologserver/impl.Term,loop.example/prologserver/impl.Term] : function 122 -/
def cA (p0 p1:Value) (w:World) (R:Ending->World->Prop):Prop:=
 RR (sCall (Value.func (.func 161) #[] #[]) [p0,p1]) w fun a0 b0=>
 RR (sBin .geq 3 false true a0 (Value.int .i64 0)) b0 fun c0 d0=>
 R (.returned c0) d0
theorem dC {p0 p1:Value} {w:World} {R:Ending->World->Prop} (h:cA p0 p1 w R):Calls Tryz.prog 122 #[p0,p1] w R:=
  calls_sh .leaf [p0,p1] aB Tryz.func122 (by kernel_rfl) (by kernel_rfl) h


/- loop.example/prologserver/impl.goalsValid$1 : function 123 -/
def dJ (p0:Value) (w:World) (R:Ending->World->Prop):Prop:=
 RR (sOp (.box 32 (.const p0)) 0) w fun a0 b0=>
 RR (sOp (.load 32 (.const a0)) 32) b0 fun c0 d0=>
 RR (sCall (Value.func (.func 124) #[] #[]) [c0]) d0 fun e0 f0=>
 RR (sOp (.unOp .not 4 (.const e0)) 4) f0 fun g0 h0=>
 R (.returned g0) h0
theorem gf {p0:Value} {w:World} {R:Ending->World->Prop} (h:dJ p0 w R):Calls Tryz.prog 123 #[p0] w R:=
  calls_sh .leaf [p0] aB Tryz.func123 (by kernel_rfl) (by kernel_rfl) h


/- loop.example/prologserver/impl.GoalValid : function 124 -/
def fx (p0:Value) (w:World) (R:Ending->World->Prop):Prop:=
 RR (sOp (.box 32 (.const p0)) 0) w fun a0 b0=>
 RR (sOp (.load 32 (.const a0)) 32) b0 fun c0 d0=>
 RR (sCall (Value.func (.func 66) #[] #[]) [c0]) d0 fun e0 f0=>
 GuardV e0 true (
 RR (sOp (.load 32 (.const a0)) 32) f0 fun g0 h0=>
 RR (sCall (Value.func (.func 67) #[] #[]) [g0]) h0 fun i0 j0=>
 GuardV i0 false (
 RR (sOp (.load 32 (.const a0)) 32) j0 fun k0 l0=>
 RR (sCall (Value.func (.func 121) #[] #[]) [k0]) l0 fun m0 n0=>
 GuardV e0 true (
 RR (sOp (.pick (.const i0) (.const (Value.bool true)) (.const m0)) 4) n0 fun o0 q0=>
 GuardV o0 false (
 RR (sOp (.load 32 (.const a0)) 32) q0 fun s0 t0=>
 RR (sCall (Value.func (.func 141) #[] #[]) [s0]) t0 fun u0 v0=>
 GuardV e0 true (
 RR (sOp (.pick (.const o0) (.const (Value.bool true)) (.const u0)) 4) v0 fun w0 x0=>
 RR (sOp (.pick (.const e0) (.const w0) (.const (Value.bool false))) 4) x0 fun y0 z0=>
 R (.returned y0) z0) (
 RR (sOp (.pick (.const e0) (.const undef) (.const (Value.bool false))) 4) v0 fun A0 B0=>
 R (.returned A0) B0)) (
 GuardV e0 true (
 RR (sOp (.pick (.const o0) (.const (Value.bool true)) (.const undef)) 4) q0 fun C0 D0=>
 RR (sOp (.pick (.const e0) (.const C0) (.const (Value.bool false))) 4) D0 fun E0 F0=>
 R (.returned E0) F0) (
 RR (sOp (.pick (.const e0) (.const undef) (.const (Value.bool false))) 4) q0 fun G0 H0=>
 R (.returned G0) H0))) (
 GuardV undef false (
 RR (sOp (.load 32 (.const a0)) 32) n0 fun I0 J0=>
 RR (sCall (Value.func (.func 141) #[] #[]) [I0]) J0 fun K0 L0=>
 GuardV e0 true (
 RR (sOp (.pick (.const undef) (.const (Value.bool true)) (.const K0)) 4) L0 fun M0 N0=>
 RR (sOp (.pick (.const e0) (.const M0) (.const (Value.bool false))) 4) N0 fun O0 P0=>
 R (.returned O0) P0) (
 RR (sOp (.pick (.const e0) (.const undef) (.const (Value.bool false))) 4) L0 fun Q0 S0=>
 R (.returned Q0) S0)) (
 GuardV e0 true (
 RR (sOp (.pick (.const undef) (.const (Value.bool true)) (.const undef)) 4) n0 fun T0 U0=>
 RR (sOp (.pick (.const e0) (.const T0) (.const (Value.bool false))) 4) U0 fun V0 W0=>
 R (.returned V0) W0) (
 RR (sOp (.pick (.const e0) (.const undef) (.const (Value.bool false))) 4) n0 fun X0 Y0=>
 R (.returned X0) Y0)))) (
 GuardV e0 true (
 RR (sOp (.pick (.const i0) (.const (Value.bool true)) (.const undef)) 4) j0 fun Z0 a1=>
 GuardV Z0 false (
 RR (sOp (.load 32 (.const a0)) 32) a1 fun b1 c1=>
 RR (sCall (Value.func (.func 141) #[] #[]) [b1]) c1 fun d1 e1=>
 GuardV e0 true (
 RR (sOp (.pick (.const Z0) (.const (Value.bool true)) (.const d1)) 4) e1 fun f1 g1=>
 RR (sOp (.pick (.const e0) (.const f1) (.const (Value.bool false))) 4) g1 fun h1 i1=>
 R (.returned h1) i1) (
 RR (sOp (.pick (.const e0) (.const undef) (.const (Value.bool false))) 4) e1 fun j1 k1=>
 R (.returned j1) k1)) (
 GuardV e0 true (
 RR (sOp (.pick (.const Z0) (.const (Value.bool true)) (.const undef)) 4) a1 fun l1 m1=>
 RR (sOp (.pick (.const e0) (.const l1) (.const (Value.bool false))) 4) m1 fun n1 o1=>
 R (.returned n1) o1) (
 RR (sOp (.pick (.const e0) (.const undef) (.const (Value.bool false))) 4) a1 fun q1 s1=>
 R (.returned q1) s1))) (
 GuardV undef false (
 RR (sOp (.load 32 (.const a0)) 32) j0 fun t1 u1=>
 RR (sCall (Value.func (.func 141) #[] #[]) [t1]) u1 fun v1 w1=>
 GuardV e0 true (
 RR (sOp (.pick (.const undef) (.const (Value.bool true)) (.const v1)) 4) w1 fun x1 y1=>
 RR (sOp (.pick (.const e0) (.const x1) (.const (Value.bool false))) 4) y1 fun z1 A1=>
 R (.returned z1) A1) (
 RR (sOp (.pick (.const e0) (.const undef) (.const (Value.bool false))) 4) w1 fun B1 C1=>
 R (.returned B1) C1)) (
 GuardV e0 true (
 RR (sOp (.pick (.const undef) (.const (Value.bool true)) (.const undef)) 4) j0 fun D1 E1=>
 RR (sOp (.pick (.const e0) (.const D1) (.const (Value.bool false))) 4) E1 fun F1 G1=>
 R (.returned F1) G1) (
 RR (sOp (.pick (.const e0) (.const undef) (.const (Value.bool false))) 4) j0 fun H1 I1=>
 R (.returned H1) I1))))) (
 GuardV undef false (
 RR (sOp (.load 32 (.const a0)) 32) f0 fun J1 K1=>
 RR (sCall (Value.func (.func 121) #[] #[]) [J1]) K1 fun L1 M1=>
 GuardV e0 true (
 RR (sOp (.pick (.const undef) (.const (Value.bool true)) (.const L1)) 4) M1 fun N1 O1=>
 GuardV N1 false (
 RR (sOp (.load 32 (.const a0)) 32) O1 fun P1 Q1=>
 RR (sCall (Value.func (.func 141) #[] #[]) [P1]) Q1 fun S1 T1=>
 GuardV e0 true (
 RR (sOp (.pick (.const N1) (.const (Value.bool true)) (.const S1)) 4) T1 fun U1 V1=>
 RR (sOp (.pick (.const e0) (.const U1) (.const (Value.bool false))) 4) V1 fun W1 X1=>
 R (.returned W1) X1) (
 RR (sOp (.pick (.const e0) (.const undef) (.const (Value.bool false))) 4) T1 fun Y1 Z1=>
 R (.returned Y1) Z1)) (
 GuardV e0 true (
 RR (sOp (.pick (.const N1) (.const (Value.bool true)) (.const undef)) 4) O1 fun a2 b2=>
 RR (sOp (.pick (.const e0) (.const a2) (.const (Value.bool false))) 4) b2 fun c2 d2=>
 R (.returned c2) d2) (
 RR (sOp (.pick (.const e0) (.const undef) (.const (Value.bool false))) 4) O1 fun e2 f2=>
 R (.returned e2) f2))) (
 GuardV undef false (
 RR (sOp (.load 32 (.const a0)) 32) M1 fun g2 h2=>
 RR (sCall (Value.func (.func 141) #[] #[]) [g2]) h2 fun i2 j2=>
 GuardV e0 true (
 RR (sOp (.pick (.const undef) (.const (Value.bool true)) (.const i2)) 4) j2 fun k2 l2=>
 RR (sOp (.pick (.const e0) (.const k2) (.const (Value.bool false))) 4) l2 fun m2 n2=>
 R (.returned m2) n2) (
 RR (sOp (.pick (.const e0) (.const undef) (.const (Value.bool false))) 4) j2 fun o2 q2=>
 R (.returned o2) q2)) (
 GuardV e0 true (
 RR (sOp (.pick (.const undef) (.const (Value.bool true)) (.const undef)) 4) M1 fun s2 t2=>
 RR (sOp (.pick (.const e0) (.const s2) (.const (Value.bool false))) 4) t2 fun u2 v2=>
 R (.returned u2) v2) (
 RR (sOp (.pick (.const e0) (.const undef) (.const (Value.bool false))) 4) M1 fun w2 x2=>
 R (.returned w2) x2)))) (
 GuardV e0 true (
 RR (sOp (.pick (.const undef) (.const (Value.bool true)) (.const undef)) 4) f0 fun y2 z2=>
 GuardV y2 false (
 RR (sOp (.load 32 (.const a0)) 32) z2 fun A2 B2=>
 RR (sCall (Value.func (.func 141) #[] #[]) [A2]) B2 fun C2 D2=>
 GuardV e0 true (
 RR (sOp (.pick (.const y2) (.const (Value.bool true)) (.const C2)) 4) D2 fun E2 F2=>
 RR (sOp (.pick (.const e0) (.const E2) (.const (Value.bool false))) 4) F2 fun G2 H2=>
 R (.returned G2) H2) (
 RR (sOp (.pick (.const e0) (.const undef) (.const (Value.bool false))) 4) D2 fun I2 J2=>
 R (.returned I2) J2)) (
 GuardV e0 true (
 RR (sOp (.pick (.const y2) (.const (Value.bool true)) (.const undef)) 4) z2 fun K2 L2=>
 RR (sOp (.pick (.const e0) (.const K2) (.const (Value.bool false))) 4) L2 fun M2 N2=>
 R (.returned M2) N2) (
 RR (sOp (.pick (.const e0) (.const undef) (.const (Value.bool false))) 4) z2 fun O2 P2=>
 R (.returned O2) P2))) (
 GuardV undef false (
 RR (sOp (.load 32 (.const a0)) 32) f0 fun Q2 S2=>
 RR (sCall (Value.func (.func 141) #[] #[]) [Q2]) S2 fun T2 U2=>
 GuardV e0 true (
 RR (sOp (.pick (.const undef) (.const (Value.bool true)) (.const T2)) 4) U2 fun V2 W2=>
 RR (sOp (.pick (.const e0) (.const V2) (.const (Value.bool false))) 4) W2 fun X2 Y2=>
 R (.returned X2) Y2) (
 RR (sOp (.pick (.const e0) (.const undef) (.const (Value.bool false))) 4) U2 fun Z2 a3=>
 R (.returned Z2) a3)) (
 GuardV e0 true (
 RR (sOp (.pick (.const undef) (.const (Value.bool true)) (.const undef)) 4) f0 fun b3 c3=>
 RR (sOp (.pick (.const e0) (.const b3) (.const (Value.bool false))) 4) c3 fun d3 e3=>
 R (.returned d3) e3) (
 RR (sOp (.pick (.const e0) (.const undef) (.const (Value.bool false))) 4) f0 fun f3 g3=>
 R (.returned f3) g3)))))
theorem jD {p0:Value} {w:World} {R:Ending->World->Prop} (h:fx p0 w R):Calls Tryz.prog 124 #[p0] w R:=
  calls_sh .leaf [p0] aB Tryz.func124 (by kernel_rfl) (by kernel_rfl) h


/- loop.example/prologserver/spec.l18Cut : function 125 -/
def mm (p0 p1:Value) (w:World) (R:Ending->World->Prop):Prop:=
 RR (sBuildSlice 82 0 []) w fun a0 b0=>
 (∃ (c0:Value->Value->Value->World->Prop) (d0:Value->Value->Value->World->Nat),c0 (Value.int .i64 0) (Value.int .i64 0) a0 b0/\
 ∀ e0 _ _ f0 _ _ g0 _ _ _ _ _ _ _ _ _ _ _ _ _ _ _ _ _ _ _ _ _ _:Value,∀ h0:World,c0 e0 f0 g0 h0->
 RR (sBuiltin .len #[9] 3 [false] [p0]) h0 fun i0 j0=>
 RR (sBin .leq 3 false false e0 i0) j0 fun k0 l0=>
 CondV k0 (
 (∃ m0:Value->Value->World->Prop,(
 (∃ n0:Value->World->Prop,(
 RR (sBuiltin .len #[9] 3 [false] [p0]) l0 fun o0 q0=>
 RR (sBin .eql 3 false false e0 o0) q0 fun s0 t0=>
 GuardV s0 false (
 RR (sOp (.index 9 (.const p0) (.const e0)) 5) t0 fun u0 v0=>
 RR (sBin .eql 5 false false u0 p1) v0 fun w0 x0=>
 RR (sOp (.pick (.const s0) (.const (Value.bool true)) (.const w0)) 4) x0 fun y0 z0=>
 n0 y0 z0) (
 RR (sOp (.pick (.const s0) (.const (Value.bool true)) (.const undef)) 4) t0 fun A0 B0=>
 n0 A0 B0))/\
 ∀ C0 _ _ _ _ _ _ _ _ _ _:Value,∀ D0:World,n0 C0 D0->
 CondV C0 (
 RR (sOp (.slice 9 (.const p0) (some (.const f0)) (some (.const e0)) none) 9) D0 fun E0 F0=>
 RR (sBuildSlice 82 1 [(0,E0)]) F0 fun G0 H0=>
 RR (sBuiltin .append #[82,82] 82 [false,false] [g0,G0]) H0 fun I0 J0=>
 RR (sBin .add 3 false true e0 (Value.int .i64 1)) J0 fun K0 L0=>
 m0 K0 I0 L0) (
 m0 f0 g0 D0)))/\
 ∀ M0 _ _ N0 _ _ _ _ _ _ _ _ _ _ _ _ _ _ _ _ _ _:Value,∀ O0:World,m0 M0 N0 O0->
 RR (sBin .add 3 false true e0 (Value.int .i64 1)) O0 fun P0 Q0=>
 c0 P0 M0 N0 Q0/\d0 P0 M0 N0 Q0<d0 e0 f0 g0 h0)) (
 R (.returned g0) l0))
theorem ng {p0 p1:Value} {w:World} {R:Ending->World->Prop} (h:mm p0 p1 w R):Calls Tryz.prog 125 #[p0,p1] w R:=
  calls_sh (.seq none .leaf (.seq none .leaf (.seq none .leaf (.seq none (.seq none .leaf (.one (.loop [7,6,5] (.seq none .leaf (.seq (some [6,5]) (.one (.seq (some [25]) .leaf .leaf)) .leaf))))) .leaf)))) [p0,p1] aB Tryz.func125 (by kernel_rfl) (by kernel_rfl) h


/- loop.example/prologserver/spec.ParseClause : function 126 -/
def ec (p0:Value) (w:World) (R:Ending->World->Prop):Prop:=
 RR (sOp (.alloc 34) 0) w fun a0 b0=>
 RR (sBuiltin .len #[9] 3 [false] [p0]) b0 fun c0 d0=>
 RR (sBin .gtr 3 false true c0 (Value.int .i64 1000)) d0 fun e0 f0=>
 CondV e0 (
 RR (sBuild 34 []) f0 fun g0 h0=>
 RR (sOp (.store 34 (.const a0) (.const g0)) 0) h0 fun _u i0=>
 (LoadV Tryz.prog 34 a0 i0 fun r0=>R (.returned (.tuple #[r0,(Value.bool false)])) i0)) (
 RR (sCall (Value.func (.func 162) #[] #[]) [p0,(Value.int .i64 0),(Value.int .i64 30),(Value.int .i64 3)]) f0 fun j0 k0=>
 RR (sOp (.extract (.const j0) 0) 32) k0 fun l0 m0=>
 RR (sOp (.extract (.const j0) 1) 3) m0 fun n0 o0=>
 RR (sOp (.alloc 32) 0) o0 fun q0 s0=>
 RR (sOp (.store 32 (.const q0) (.const l0)) 0) s0 fun _u t0=>
 RR (sBin .lss 3 false true n0 (Value.int .i64 0)) t0 fun u0 v0=>
 CondV u0 (
 RR (sBuild 34 []) v0 fun w0 x0=>
 RR (sOp (.store 34 (.const a0) (.const w0)) 0) x0 fun _u y0=>
 (LoadV Tryz.prog 34 a0 y0 fun r0=>R (.returned (.tuple #[r0,(Value.bool false)])) y0)) (
 RR (sOp (.load 32 (.const q0)) 32) v0 fun z0 A0=>
 RR (sBuild 34 [(0,z0)]) A0 fun B0 C0=>
 RR (sOp (.alloc 34) 0) C0 fun D0 E0=>
 RR (sOp (.store 34 (.const D0) (.const B0)) 0) E0 fun _u F0=>
 (∃ G0:Value->World->Prop,(
 (∃ H0:Value->World->Prop,(
 RR (sCall (Value.func (.func 163) #[] #[]) [p0,n0,(Value.int .u8 58)]) F0 fun I0 J0=>
 GuardV I0 true (
 RR (sBin .add 3 false true n0 (Value.int .i64 1)) J0 fun K0 L0=>
 RR (sCall (Value.func (.func 163) #[] #[]) [p0,K0,(Value.int .u8 45)]) L0 fun M0 N0=>
 RR (sOp (.pick (.const I0) (.const M0) (.const (Value.bool false))) 4) N0 fun O0 P0=>
 H0 O0 P0) (
 RR (sOp (.pick (.const I0) (.const undef) (.const (Value.bool false))) 4) J0 fun Q0 S0=>
 H0 Q0 S0))/\
 ∀ T0 _ _ _ _ _ _ _ _:Value,∀ U0:World,H0 T0 U0->
 CondV T0 (
 RR (sBin .add 3 false true n0 (Value.int .i64 2)) U0 fun V0 W0=>
 RR (sCall (Value.func (.func 164) #[] #[]) [p0,V0]) W0 fun X0 Y0=>
 RR (sOp (.extract (.const X0) 0) 30) Y0 fun Z0 a1=>
 RR (sOp (.extract (.const X0) 1) 3) a1 fun b1 c1=>
 RR (sOp (.fieldAddr 34 (.const D0) 1) 0) c1 fun d1 e1=>
 RR (sOp (.store 30 (.const d1) (.const Z0)) 0) e1 fun _u f1=>
 G0 b1 f1) (
 G0 n0 U0)))/\
 ∀ g1 _ _ _ _ _ _ _ _ _ _ _ _ _ _ _ _ _:Value,∀ h1:World,G0 g1 h1->
 (∃ i1:Value->World->Prop,(
 RR (sBuiltin .len #[9] 3 [false] [p0]) h1 fun j1 k1=>
 RR (sBin .sub 3 false true j1 (Value.int .i64 1)) k1 fun l1 m1=>
 RR (sBin .neq 3 false false g1 l1) m1 fun n1 o1=>
 GuardV n1 false (
 RR (sCall (Value.func (.func 163) #[] #[]) [p0,g1,(Value.int .u8 46)]) o1 fun q1 s1=>
 RR (sOp (.unOp .not 4 (.const q1)) 4) s1 fun t1 u1=>
 RR (sOp (.pick (.const n1) (.const (Value.bool true)) (.const t1)) 4) u1 fun v1 w1=>
 GuardV v1 false (
 RR (sOp (.load 34 (.const D0)) 34) w1 fun x1 y1=>
 RR (sCall (Value.func (.func 165) #[] #[]) [x1]) y1 fun z1 A1=>
 RR (sBin .neq 9 false false z1 p0) A1 fun B1 C1=>
 RR (sOp (.pick (.const v1) (.const (Value.bool true)) (.const B1)) 4) C1 fun D1 E1=>
 i1 D1 E1) (
 RR (sOp (.pick (.const v1) (.const (Value.bool true)) (.const undef)) 4) w1 fun F1 G1=>
 i1 F1 G1)) (
 RR (sOp (.pick (.const n1) (.const (Value.bool true)) (.const undef)) 4) o1 fun H1 I1=>
 GuardV H1 false (
 RR (sOp (.load 34 (.const D0)) 34) I1 fun J1 K1=>
 RR (sCall (Value.func (.func 165) #[] #[]) [J1]) K1 fun L1 M1=>
 RR (sBin .neq 9 false false L1 p0) M1 fun N1 O1=>
 RR (sOp (.pick (.const H1) (.const (Value.bool true)) (.const N1)) 4) O1 fun P1 Q1=>
 i1 P1 Q1) (
 RR (sOp (.pick (.const H1) (.const (Value.bool true)) (.const undef)) 4) I1 fun S1 T1=>
 i1 S1 T1)))/\
 ∀ U1 _ _ _ _ _ _ _ _ _ _ _ _ _ _ _ _:Value,∀ V1:World,i1 U1 V1->
 CondV U1 (
 RR (sBuild 34 []) V1 fun W1 X1=>
 RR (sOp (.store 34 (.const a0) (.const W1)) 0) X1 fun _u Y1=>
 (LoadV Tryz.prog 34 a0 Y1 fun r0=>R (.returned (.tuple #[r0,(Value.bool false)])) Y1)) (
 RR (sOp (.load 34 (.const D0)) 34) V1 fun Z1 a2=>
 RR (sCall (Value.func (.func 111) #[] #[]) [Z1]) a2 fun b2 c2=>
 RR (sOp (.store 34 (.const a0) (.const b2)) 0) c2 fun _ d2=>
 (LoadV Tryz.prog 34 a0 d2 fun r0=>R (.returned (.tuple #[r0,(Value.bool true)])) d2))))))
theorem gA {p0:Value} {w:World} {R:Ending->World->Prop} (h:ec p0 w R):Calls Tryz.prog 126 #[p0] w R:=
  calls_sh (.seq none .leaf (.seq none .leaf (.seq none .leaf (.seq none .leaf (.seq none .leaf (.seq (some [5]) (.seq (some [29]) .leaf .leaf) (.seq none (.seq (some [54]) .leaf .leaf) .leaf))))))) [p0] aB Tryz.func126 (by kernel_rfl) (by kernel_rfl) h


/- loop.example/prologserver/spec.l4Texts : function 136 -/
def ji (w:World) (R:Ending->World->Prop):Prop:=
 RR (sBuildSlice 82 11 [(0,(Value.string ⟨#[97,112,112,40,91,93,44,65,44,65,41,46,10,97,112,112,40,91,65,124,66,93,44,67,44,91,65,124,68,93,41,58,45,97,112,112,40,66,44,67,44,68,41,46,10]⟩)),(1,(Value.string ⟨#[109,101,109,40,65,44,91,65,124,66,93,41,46,10,109,101,109,40,65,44,91,66,124,67,93,41,58,45,109,101,109,40,65,44,67,41,46,10]⟩)),(2,(Value.string ⟨#[112,40,49,41,46,10,112,40,50,41,46,10,112,40,51,41,46,10,113,40,65,41,58,45,112,40,65,41,44,65,62,49,44,33,46,10,114,40,65,44,66,41,58,45,112,40,65,41,44,112,40,66,41,46,10]⟩)),(3,(Value.string ⟨#[108,101,110,40,91,93,44,48,41,46,10,108,101,110,40,91,65,124,66,93,44,67,41,58,45,108,101,110,40,66,44,68,41,44,67,32,105,115,32,68,43,49,46,10]⟩)),(4,(Value.string ⟨#[109,97,120,40,65,44,66,44,65,41,58,45,65,62,61,66,44,33,46,10,109,97,120,40,65,44,66,44,66,41,46,10]⟩)),(5,(Value.string ⟨#[101,40,97,44,98,41,46,10,101,40,98,44,99,41,46,10,101,40,99,44,100,41,46,10,116,40,65,44,66,41,58,45,101,40,65,44,66,41,46,10,116,40,65,44,66,41,58,45,101,40,65,44,67,41,44,116,40,67,44,66,41,46,10]⟩)),(6,(Value.string ⟨#[108,111,111,112,58,45,108,111,111,112,46,10,111,107,46,10]⟩)),(7,(Value.string ⟨#[102,97,99,40,48,44,49,41,58,45,33,46,10,102,97,99,40,65,44,66,41,58,45,65,62,48,44,67,32,105,115,32,65,45,49,44,102,97,99,40,67,44,68,41,44,66,32,105,115,32,65,42,68,46,10]⟩)),(8,(Value.string ⟨#[115,40,65,41,58,45,65,61,102,40,66,41,44,97,114,103,40,49,44,65,44,66,41,44,66,61,49,46,10,115,40,65,41,58,45,118,97,114,40,65,41,44,65,61,110,111,110,101,46,10]⟩)),(9,(Value.string ⟨#[114,101,118,40,91,93,44,65,44,65,41,46,10,114,101,118,40,91,65,124,66,93,44,67,44,68,41,58,45,114,101,118,40,66,44,91,65,124,67,93,44,68,41,46,10]⟩)),(10,(Value.string ⟨#[98,97,100,40,65,41,58,45,66,32,105,115,32,65,43,102,111,111,44,67,61,66,46,10,98,105,103,40,65,41,58,45,65,32,105,115,32,57,57,57,43,49,46,10,117,110,40,65,41,58,45,110,111,115,117,99,104,40,65,41,46,10]⟩))]) w fun a0 b0=>
 R (.returned a0) b0
theorem mQ {w:World} {R:Ending->World->Prop} (h:ji w R):Calls Tryz.prog 136 #[] w R:=
  calls_sh .leaf [] aB Tryz.func136 (by kernel_rfl) (by kernel_rfl) h


/- (*loop.example/prologserver/spec.l18Rd).num : function 140 -/
def gg (p0 p1:Value) (w:World) (R:Ending->World->Prop):Prop:=
 RR (sBuiltin .len #[63] 3 [false] [p1]) w fun a0 b0=>
 RR (sCall (Value.func (.func 61) #[] #[]) [p0,a0]) b0 fun c0 d0=>
 RR (sOp (.indexAddr 63 (.const p1) (.const c0)) 0) d0 fun e0 f0=>
 RR (sOp (.load 3 (.const e0)) 3) f0 fun g0 h0=>
 R (.returned g0) h0
theorem jr {p0 p1:Value} {w:World} {R:Ending->World->Prop} (h:gg p0 p1 w R):Calls Tryz.prog 140 #[p0,p1] w R:=
  calls_sh .leaf [p0,p1] aB Tryz.func140 (by kernel_rfl) (by kernel_rfl) h


/- loop.example/prologserver/impl.isCut : function 141 -/
def nt (p0:Value) (w:World) (R:Ending->World->Prop):Prop:=
 RR (sOp (.box 32 (.const p0)) 0) w fun a0 b0=>
 RR (sOp (.load 32 (.const a0)) 32) b0 fun c0 d0=>
 RR (sCall (Value.func (.func 172) #[] #[]) [c0]) d0 fun e0 f0=>
 GuardV e0 true (
 RR (sOp (.fieldAddr 32 (.const a0) 2) 0) f0 fun g0 h0=>
 RR (sOp (.load 9 (.const g0)) 9) h0 fun i0 j0=>
 RR (sBin .eql 9 false true i0 (Value.string ⟨#[33]⟩)) j0 fun k0 l0=>
 RR (sOp (.pick (.const e0) (.const k0) (.const (Value.bool false))) 4) l0 fun m0 n0=>
 R (.returned m0) n0) (
 RR (sOp (.pick (.const e0) (.const undef) (.const (Value.bool false))) 4) f0 fun o0 q0=>
 R (.returned o0) q0)
theorem pr {p0:Value} {w:World} {R:Ending->World->Prop} (h:nt p0 w R):Calls Tryz.prog 141 #[p0] w R:=
  calls_sh .leaf [p0] aB Tryz.func141 (by kernel_rfl) (by kernel_rfl) h


/- loop.example/prologserver/spec.l4Cut : function 147 -/
def nc (p0:Value) (w:World) (R:Ending->World->Prop):Prop:=
 RR (sOp (.box 32 (.const p0)) 0) w fun a0 b0=>
 RR (sOp (.fieldAddr 32 (.const a0) 0) 0) b0 fun c0 d0=>
 RR (sOp (.load 3 (.const c0)) 3) d0 fun e0 f0=>
 RR (sBin .eql 3 false true e0 (Value.int .i64 3)) f0 fun g0 h0=>
 GuardV g0 true (
 RR (sOp (.fieldAddr 32 (.const a0) 2) 0) h0 fun i0 j0=>
 RR (sOp (.load 9 (.const i0)) 9) j0 fun k0 l0=>
 RR (sBin .eql 9 false true k0 (Value.string ⟨#[33]⟩)) l0 fun m0 n0=>
 RR (sOp (.pick (.const g0) (.const m0) (.const (Value.bool false))) 4) n0 fun o0 q0=>
 GuardV o0 true (
 RR (sOp (.fieldAddr 32 (.const a0) 3) 0) q0 fun s0 t0=>
 RR (sOp (.load 30 (.const s0)) 30) t0 fun u0 v0=>
 RR (sBuiltin .len #[30] 3 [false] [u0]) v0 fun w0 x0=>
 RR (sBin .eql 3 false true w0 (Value.int .i64 0)) x0 fun y0 z0=>
 RR (sOp (.pick (.const o0) (.const y0) (.const (Value.bool false))) 4) z0 fun A0 B0=>
 R (.returned A0) B0) (
 RR (sOp (.pick (.const o0) (.const undef) (.const (Value.bool false))) 4) q0 fun C0 D0=>
 R (.returned C0) D0)) (
 RR (sOp (.pick (.const g0) (.const undef) (.const (Value.bool false))) 4) h0 fun E0 F0=>
 GuardV E0 true (
 RR (sOp (.fieldAddr 32 (.const a0) 3) 0) F0 fun G0 H0=>
 RR (sOp (.load 30 (.const G0)) 30) H0 fun I0 J0=>
 RR (sBuiltin .len #[30] 3 [false] [I0]) J0 fun K0 L0=>
 RR (sBin .eql 3 false true K0 (Value.int .i64 0)) L0 fun M0 N0=>
 RR (sOp (.pick (.const E0) (.const M0) (.const (Value.bool false))) 4) N0 fun O0 P0=>
 R (.returned O0) P0) (
 RR (sOp (.pick (.const E0) (.const undef) (.const (Value.bool false))) 4) F0 fun Q0 S0=>
 R (.returned Q0) S0))
theorem po {p0:Value} {w:World} {R:Ending->World->Prop} (h:nc p0 w R):Calls Tryz.prog 147 #[p0] w R:=
  calls_sh .leaf [p0] aB Tryz.func147 (by kernel_rfl) (by kernel_rfl) h


/- loop.example/prologserver/spec.l1Var : function 148 -/
def nE (p0:Value) (w:World) (R:Ending->World->Prop):Prop:=
 RR (sOp (.alloc 32) 0) w fun a0 b0=>
 RR (sBuild 32 [(0,(Value.int .i64 1)),(1,p0)]) b0 fun c0 d0=>
 RR (sOp (.store 32 (.const a0) (.const c0)) 0) d0 fun _ e0=>
 (LoadV Tryz.prog 32 a0 e0 fun r0=>R (.returned r0) e0)
theorem pl {p0:Value} {w:World} {R:Ending->World->Prop} (h:nE p0 w R):Calls Tryz.prog 148 #[p0] w R:=
  calls_sh .leaf [p0] aB Tryz.func148 (by kernel_rfl) (by kernel_rfl) h


/- loop.example/prologserver/spec.l1Int : function 149 -/
def mW (p0:Value) (w:World) (R:Ending->World->Prop):Prop:=
 RR (sOp (.alloc 32) 0) w fun a0 b0=>
 RR (sBuild 32 [(0,(Value.int .i64 2)),(1,p0)]) b0 fun c0 d0=>
 RR (sOp (.store 32 (.const a0) (.const c0)) 0) d0 fun _ e0=>
 (LoadV Tryz.prog 32 a0 e0 fun r0=>R (.returned r0) e0)
theorem oT {p0:Value} {w:World} {R:Ending->World->Prop} (h:mW p0 w R):Calls Tryz.prog 149 #[p0] w R:=
  calls_sh .leaf [p0] aB Tryz.func149 (by kernel_rfl) (by kernel_rfl) h

end Go.Proofs.YtmnnpgdeecnfpaaGreat

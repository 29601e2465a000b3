/- A predicate that comes in: its size, its copy, its reading. -/
import Derived.Test.YtnoieadimkgjcaaSzC
import Derived.Test.YtnoieadimkgjcaaPreds
namespace Go.Proofs.Ytnoieadimkgjcaa
open Go Go.ChangeShapes Go.WideShapes Go.ChangeAt Go.RowKit
section
attribute [local irreducible] Run CondV GuardV LoadV
def szPd (x : Pd) (left : Int) : Int := if left - x.name.size < 0 then -1 else left - x.name.size
theorem szPd_le (x : Pd) (left : Int) (h : 0 ≤ left) : -1 ≤ szPd x left ∧ szPd x left ≤ left := by
  unfold szPd
  split <;> omega
theorem szPred_calls {x : Pd} {S : Store} {left : Int} (hs : x.name.size ≤ maxLen) (h0 : 0 ≤ left) (h1 : left ≤ 4611686018427387904) : Pure Try.prog n_l_szPred [.agg x.cells.toArray, .int .i64 left] S (.int .i64 (szPd x left)) := by
  intro w hI
  simp only [maxLen] at hs
  refine calls_l_szPred ?_
  unfold sh_l_szPred
  refine r_box hI fun b1 w' hI => ?_
  refine r_fieldL hI 0 rfl fo_lPred_0 sc_string rfl ?_
  refine r_lenStr un_string ?_
  refine r_sub (by omega) ?_
  refine r_lss ?_
  exact condP (fun hlt => done hI (by rw [szPd, if_pos hlt])) (fun hlt => done hI (by rw [szPd, if_neg hlt]))
theorem toPred_calls {x : Pd} {S : Store} : Pure Try.prog n_l_toPred [.agg x.cells.toArray] S (.agg x.cells.toArray) := by
  intro w hI
  obtain ⟨xs, xn⟩ := x
  refine calls_l_toPred ?_
  unfold sh_l_toPred
  refine r_box hI fun b1 w' hI => ?_
  refine r_alloc hI zo_iPred fun b2 w' hI => ?_
  refine r_alloc hI zo_iPred fun b3 w' hI => ?_
  refine r_fieldL hI 0 rfl fo_lPred_0 sc_string rfl ?_
  refine r_fieldSt hI 2 rfl fo_iPred_0 sc_string rfl rfl rfl fun w' hI => ?_
  refine r_fieldL hI 0 rfl fo_lPred_1 sc_int rfl ?_
  refine r_fieldSt hI 2 rfl fo_iPred_1 sc_int rfl rfl rfl fun w' hI => ?_
  refine r_loadW hI 2 ag_iPred rfl rfl ?_
  refine r_storeW hI 1 rfl ag_iPred rfl rfl ?_ fun w' hI => ?_
  · intro u hu
    have hu' : u ∈ ([.string xs, .int .i64 xn] : List Value) := hu
    simp at hu'
    rcases hu' with rfl | rfl <;> rfl
  refine loadV_W hI 1 ag_iPred rfl rfl ?_
  exact done hI rfl
end
theorem two {cs : List Value} (h : cs.length = 2) : ∃ a b, cs = [a, b] := by
  match cs, h with
  | [a, b], _ => exact ⟨a, b, rfl⟩
theorem trod_pred {H : Type} {enc : TypeId × Value → H} {W : World} {sp : Nat → Bool} {held : Bool} {fuel : Nat} {cs : List Value} {x : DataW H × List MemPlace} (h : DataW.trod enc Try.prog W 0 sp held fuel t_lPred cs = some x) :
    ∃ y : Pd, cs = y.cells ∧ y.name.size ≤ maxLen := by
  obtain ⟨n, hn, hl, hf⟩ := trod_flds fl_lPred h
  rw [co_lPred] at hl
  obtain ⟨c0, c1, rfl⟩ := two hl
  obtain ⟨y0, h0⟩ := hf 0 _ _ rfl
  obtain ⟨y1, h1⟩ := hf 1 _ _ rfl
  rw [co_string] at h0
  rw [co_int] at h1
  obtain ⟨s, rfl, hs⟩ := trod_str un_string h0
  obtain ⟨k, rfl, _⟩ := trod_int un_int h1
  exact ⟨⟨s, k⟩, rfl, hs⟩

end Go.Proofs.Ytnoieadimkgjcaa

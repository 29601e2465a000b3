/- The laws' marks: laws.markText. -/
import Derived.Test.YtnoieadimkgjcaaSzC
import Derived.Laws.BytesArg
namespace Go.Proofs.Ytnoieadimkgjcaa
open Go Go.RowKit
section
variable {P : Program} {w w0 : World} {X : List Nat} {L : List Item} {S : Store} {K : Value → World → Prop}
attribute [local irreducible] Run CondV GuardV LoadV
theorem r_rem {T : TypeId} {cx cy : Bool} {a b : Int} (hb : b ≠ 0) (hk : K (.int .i64 (a.tmod b)) w) : Run P (sBin .rem T cx cy (.int .i64 a) (.int .i64 b)) w K :=
  Run.of (by simp [sBin, eqGuard_int, binOp, Op.intDiv, hb]) hk
theorem r_quo {T : TypeId} {cx cy : Bool} {a b : Int} (hb : b ≠ 0) (hr : -9223372036854775808 ≤ a.tdiv b ∧ a.tdiv b ≤ 9223372036854775807) (hk : K (.int .i64 (a.tdiv b)) w) : Run P (sBin .quo T cx cy (.int .i64 a) (.int .i64 b)) w K :=
  Run.of (by simp [sBin, eqGuard_int, binOp, Op.intDiv, hb, IntWalk.i64_in _ hr]) hk
theorem r_cat {T : TypeId} {cx cy : Bool} {a b : ByteArray} (hr : a.size + b.size ≤ 9223372036854775807) (hk : K (.string (a ++ b)) w) : Run P (sBin .add T cx cy (.string a) (.string b)) w K := by
  refine Run.of ?_ hk
  have h1 : ¬ (((a.size + b.size : Nat) : Int) > IntKind.i64.max) := by
    have e : IntKind.i64.max = 9223372036854775807 := by decide
    rw [e]
    omega
  simp only [sBin, binOp, Op.stringOp, Sem.run_bind, eqGuard_str, Result.andThen_ok, if_neg h1, Sem.run_pure]
theorem r_toInt {T U ty : TypeId} {k k' : IntKind} {n : Int} (hT : P.underlying T = some (.int k')) (hU : P.underlying U = some (.int k)) (hk : K (.int k (k.wrap n)) w) : Run P (sOp (.convert T U (.const (.int k' n))) ty) w K :=
  Run.of (by simp [sOp, execOp, ev0, evE, convert, Conv.intToInt, run_underlying hT, run_underlying hU]) hk
theorem slice_parts' {T e : TypeId} {k : Nat} (h : sliceOf P T = some (e, k)) : P.underlying T = some (.slice e) := by
  unfold sliceOf at h
  split at h
  · rename_i e1 he
    rw [Option.map_eq_some_iff] at h
    obtain ⟨i, hi, hx⟩ := h
    simp only [Prod.mk.injEq] at hx
    rw [he, hx.1]
  · cases h
theorem r_byteStr (h : Inv w0 X L S w) {T U ty e E : TypeId} {b cap : Nat} {n : Int} (i : Nat) (hT : P.underlying T = some (.slice e)) (he : P.underlying e = some (.int .u8)) (hU : P.underlying U = some .string)
    (hi : L[i]? = some (.blk b (.cells #[.int .u8 n] E))) (hk : K (.string (strOfNums [n])) w) : Run P (sOp (.convert T U (.const (.slice (some ⟨b, 0, none⟩) 1 cap))) ty) w K := by
  refine Run.of ?_ hk
  have := run_convert_bytes_arg w T e hT he b 0 1 cap [n] rfl (fun i hi' => by
    rw [h.cellL hi]
    have : i = 0 := by omega
    subst this
    rfl) U hU
  simp [sOp, execOp, ev0, evE, this]
end

def mtF : Nat → Int → ByteArray → ByteArray
  | 0, _, s => s
  | n + 1, k, s => if 0 < k then mtF n (k.tdiv 10) (strOfNums [IntKind.u8.wrap (48 + k.tmod 10)] ++ s) else s
def markS (k : Int) : ByteArray := if k ≤ 0 then ⟨#[109, 48]⟩ else ⟨#[109]⟩ ++ mtF k.toNat k ⟨#[]⟩
theorem tdiv_lt {k : Int} (h : 0 < k) : 0 ≤ k.tdiv 10 ∧ k.tdiv 10 ≤ k - 1 := by
  rw [Int.tdiv_eq_ediv_of_nonneg (by omega)]
  omega
theorem cat_size (a b : ByteArray) : (a ++ b).size = a.size + b.size := by simp [ByteArray.size_append]
theorem mtF_size : ∀ (n : Nat) (k : Int) (s : ByteArray), 0 ≤ k → ((mtF n k s).size : Int) ≤ s.size + k
  | 0, k, s, h => by simp only [mtF]; omega
  | n + 1, k, s, h => by
    rw [mtF]
    split
    · rename_i hk
      have h1 := tdiv_lt hk
      have := mtF_size n (k.tdiv 10) (strOfNums [IntKind.u8.wrap (48 + k.tmod 10)] ++ s) h1.1
      rw [cat_size, strOfNums_size] at this
      simp at this
      omega
    · omega
theorem markS_size (k : Int) (hk : k ≤ 4611686018427387904) : (markS k).size ≤ maxLen := by
  unfold markS
  simp only [maxLen]
  split
  · exact Nat.le_of_lt (by decide)
  · rw [cat_size]
    have := mtF_size k.toNat k ⟨#[]⟩ (by omega)
    have e1 : (⟨#[109]⟩ : ByteArray).size = 1 := rfl
    have e2 : (⟨#[]⟩ : ByteArray).size = 0 := rfl
    rw [e2] at this
    rw [e1]
    omega
section
attribute [local irreducible] Run CondV GuardV LoadV
theorem markText_calls (k : Int) (S : Store) (hk : k ≤ 4611686018427387904) : Pure Try.prog n_l_markText [.int .i64 k] S (.string (markS k)) := by
  intro w hI
  refine calls_l_markText ?_
  unfold sh_l_markText
  refine r_leq ?_
  refine condP (fun h0 => done hI (by rw [markS, if_pos h0])) (fun h0 => ?_)
  refine ⟨fun a b w' => ∃ (n : Nat) (j : Int) (s : ByteArray), a = .int .i64 j ∧ b = .string s ∧ 0 ≤ j ∧ j ≤ n ∧ mtF n j s = mtF k.toNat k ⟨#[]⟩ ∧ (s.size : Int) + j ≤ k ∧ Inv w [] [] S w', fun a _ _ => (intOf a).toNat,
    ⟨k.toNat, k, _, rfl, rfl, by omega, by omega, rfl, by rw [show (⟨#[]⟩ : ByteArray).size = 0 from rfl]; omega, hI⟩, ?_⟩
  intro t0 _ _ t3 _ _ _ _ _ _ _ _ _ _ w'
  rintro ⟨n, j, s, rfl, rfl, hj0, hjn, hrel, hsz, hI⟩
  refine r_gtr ?_
  refine condP (fun hj => ?_) (fun hj => ?_)
  · obtain ⟨m, rfl⟩ : ∃ m, n = m + 1 := ⟨n - 1, by omega⟩
    have h1 := tdiv_lt hj
    rw [mtF, if_pos hj] at hrel
    refine r_rem (by decide) ?_
    have hm : 0 ≤ j.tmod 10 ∧ j.tmod 10 < 10 := by
      rw [Int.tmod_eq_emod_of_nonneg hj0]
      omega
    refine r_add (by omega) ?_
    refine r_toInt un_int un_uint8 ?_
    refine r_slice1 hI mk_Suint8 rfl (by omega) (by omega) fun b w' hI => ?_
    refine r_byteStr hI 0 (slice_parts' sl_Suint8) un_uint8 un_string rfl ?_
    refine r_cat ?_ ?_
    · rw [strOfNums_size]
      simp
      omega
    refine r_quo (by decide) (by omega) ?_
    refine ⟨⟨m, _, _, rfl, rfl, h1.1, by omega, hrel, ?_, hI.nil⟩, by simp [intOf]; omega⟩
    rw [cat_size, strOfNums_size]
    simp
    omega
  · refine r_cat ?_ ?_
    · rw [show (⟨#[109]⟩ : ByteArray).size = 1 from rfl]
      omega
    refine done hI ?_
    rw [markS, if_neg h0, ← hrel]
    cases n with
    | zero => rfl
    | succ n => rw [mtF, if_neg hj]
end

end Go.Proofs.Ytnoieadimkgjcaa

/- The sizes: laws.szTerm and its kin. -/
import Derived.Test.YtnoieadimkgjcaaData
import Derived.Test.YtnoieadimkgjcaaFacts
import Derived.Test.YtnoieadimkgjcaaSh0
namespace Go.Proofs.Ytnoieadimkgjcaa
open Go Go.RowKit
attribute [local irreducible] Run CondV GuardV LoadV

mutual
def szT : T → Int → Int
  | .mk _ _ s ks, left => if left - s.size < 0 then -1 else if left - s.size - ks.length < 0 then -1 else szL ks (left - s.size - ks.length)
def szL : List T → Int → Int
  | [], left => left
  | t :: ts, left => if szT t left < 0 then -1 else szL ts (szT t left)
end
def szTs (ts : List T) (left : Int) : Int := if left - ts.length < 0 then -1 else szL ts (left - ts.length)

mutual
theorem szT_le : ∀ (t : T) (left : Int), 0 ≤ left → -1 ≤ szT t left ∧ szT t left ≤ left
  | .mk k n s ks, left, h => by
    simp only [szT]
    split
    · omega
    · split
      · omega
      · have := szL_le ks (left - s.size - ks.length) (by omega)
        omega
theorem szL_le : ∀ (ts : List T) (left : Int), 0 ≤ left → -1 ≤ szL ts left ∧ szL ts left ≤ left
  | [], left, h => by simp only [szL]; omega
  | t :: ts, left, h => by
    simp only [szL]
    have h1 := szT_le t left h
    split
    · omega
    · have h2 := szL_le ts (szT t left) (by omega)
      omega
end

theorem szTermS_of {ts : List T} (ih : ∀ t ∈ ts, ∀ (S : Store) (cs : List Value) (left : Int), RdT S cs t → 0 ≤ left → left ≤ 4611686018427387904 → Pure Try.prog n_l_szTerm [.agg cs.toArray, .int .i64 left] S (.int .i64 (szT t left)))
    {S : Store} {v : Value} {left : Int} (h : RdSl S 4 (RdT S) v ts) (h0 : 0 ≤ left) (h1 : left ≤ 4611686018427387904) : Pure Try.prog n_l_szTermS [v, .int .i64 left] S (.int .i64 (szTs ts left)) := by
  intro w hI
  have hlen : (ts.length : Int) ≤ 9223372036854775807 := by have := h.le; simp only [maxLen] at this; omega
  refine calls_l_szTermS ?_
  unfold sh_l_szTermS
  refine r_lenSl h sl_SlTerm ?_
  refine r_sub (by omega) ?_
  refine r_lss ?_
  refine condP (fun hlt => ?_) (fun hlt => ?_)
  · exact done hI (by rw [szTs, if_pos hlt])
  refine ⟨fun i l w' => ∃ (k : Nat) (l' : Int), k ≤ ts.length ∧ i = .int .i64 k ∧ l = .int .i64 l' ∧ 0 ≤ l' ∧ l' ≤ left ∧ szL (ts.drop k) l' = szL ts (left - ts.length) ∧ Inv w [] [] S w',
    fun i _ _ => ts.length - (intOf i).toNat, ⟨0, _, Nat.zero_le _, rfl, rfl, by omega, by omega, rfl, hI⟩, ?_⟩
  intro t5 _ _ _ _ _ t1 _ _ _ _ _ _ _ _ _ _ w'
  rintro ⟨k, l', hk, rfl, rfl, hl0, hl1, hrel, hI⟩
  refine r_lenSl h sl_SlTerm ?_
  refine r_lss ?_
  refine condP (fun hki => ?_) (fun hki => ?_)
  · have hk' : k < ts.length := by omega
    refine r_elem hI h sl_SlTerm ag_lTerm hk' (fun _ _ => RdT.length) fun cs hcs => ?_
    have hb := szT_le ts[k] l' hl0
    refine Run.callPure fn_l_szTerm nm_l_szTerm hI (ih _ (List.getElem_mem _) S cs l' hcs hl0 (by omega)) fun w' hI => ?_
    have hstep : szL (ts.drop k) l' = if szT ts[k] l' < 0 then -1 else szL (ts.drop (k + 1)) (szT ts[k] l') := by
      rw [List.drop_eq_getElem_cons hk', szL]
    refine r_lss ?_
    refine condP (fun hneg => ?_) (fun hneg => ?_)
    · exact done hI (by rw [szTs, if_neg hlt, ← hrel, hstep, if_pos hneg])
    · refine r_add (by omega) ?_
      refine ⟨⟨k + 1, _, hk', rfl, rfl, by omega, by omega, ?_, hI⟩, by simp [intOf]; omega⟩
      rw [← hrel, hstep, if_neg hneg]
  · have : k = ts.length := by omega
    subst this
    exact done hI (by rw [szTs, if_neg hlt, ← hrel, List.drop_length, szL])

theorem szTerm_calls : ∀ (t : T) (S : Store) (cs : List Value) (left : Int), RdT S cs t → 0 ≤ left → left ≤ 4611686018427387904 →
    Pure Try.prog n_l_szTerm [.agg cs.toArray, .int .i64 left] S (.int .i64 (szT t left)) := by
  refine T.ind fun k n s ks ih S cs left h h0 h1 => ?_
  intro w hI
  obtain ⟨kv, rfl, _, _, hs, hks⟩ := RdT.iff.1 h
  simp only [T.name, T.kids, T.kind, T.n] at hs hks ⊢
  simp only [maxLen] at hs
  have hlen : (ks.length : Int) ≤ 9223372036854775807 := by have := hks.le; simp only [maxLen] at this; omega
  refine calls_l_szTerm ?_
  unfold sh_l_szTerm
  refine r_box hI fun b w' hI => ?_
  refine r_fieldL hI 0 rfl fo_lTerm_2 sc_string rfl ?_
  refine r_lenStr un_string ?_
  refine r_sub (by omega) ?_
  refine r_lss ?_
  refine condP (fun hlt => ?_) (fun hlt => ?_)
  · exact done hI (by rw [szT, if_pos hlt])
  refine r_fieldL hI 0 rfl fo_lTerm_3 sc_SlTerm rfl ?_
  refine Run.callPure fn_l_szTermS nm_l_szTermS hI (szTermS_of ih hks (by omega) (by omega)) fun w' hI => ?_
  refine r_lss ?_
  refine condP (fun hneg => ?_) (fun hneg => ?_)
  · refine done hI ?_
    rw [szT, if_neg hlt]
    unfold szTs at hneg
    split
    · rfl
    · rename_i h3
      rw [if_neg h3] at hneg
      have := szL_le ks (left - s.size - ks.length) (by omega)
      congr 1; omega
  · refine done hI ?_
    rw [szT, if_neg hlt]
    rfl
theorem szTermS_calls {ts : List T} {S : Store} {v : Value} {left : Int} (h : RdSl S 4 (RdT S) v ts) (h0 : 0 ≤ left) (h1 : left ≤ 4611686018427387904) :
    Pure Try.prog n_l_szTermS [v, .int .i64 left] S (.int .i64 (szTs ts left)) := szTermS_of (fun t _ => szTerm_calls t) h h0 h1

end Go.Proofs.Ytnoieadimkgjcaa

/- The reference's TermValid and what it calls. -/
import Derived.Test.YtnoieadimkgjcaaLogic
import Derived.Test.YtnoieadimkgjcaaValid
import Derived.Test.YtnoieadimkgjcaaTo
import Derived.Test.YtnoieadimkgjcaaFacts
import Derived.Test.YtnoieadimkgjcaaSh0
import Derived.Test.YtnoieadimkgjcaaSh1
import Derived.Test.YtnoieadimkgjcaaSh2
namespace Go.Proofs.Ytnoieadimkgjcaa
open Go Go.RowKit
attribute [local irreducible] Run CondV GuardV LoadV

theorem all_drop {α : Type} (p : α → Bool) (l : List α) (k : Nat) (h : k < l.length) : (l.drop k).all p = (p l[k] && (l.drop (k + 1)).all p) := by
  rw [List.drop_eq_getElem_cons h, List.all_cons]
theorem any_drop {α : Type} (p : α → Bool) (l : List α) (k : Nat) (h : k < l.length) : (l.drop k).any p = (p l[k] || (l.drop (k + 1)).any p) := by
  rw [List.drop_eq_getElem_cons h, List.any_cons]
theorem size_data (s : ByteArray) : s.data.toList.length = s.size := by rw [Array.length_toList]; rfl
theorem get_data (s : ByteArray) (k : Nat) (h : k < s.size) : s.data.toList[k]'(by rw [size_data]; exact h) = s[k] := rfl

theorem l1Word_calls (s : ByteArray) (hs : s.size ≤ maxLen) (S : Store) : Pure Try.prog n_s_l1Word [.string s] S (.bool (wordB s)) := by
  intro w hI
  simp only [maxLen] at hs
  refine calls_s_l1Word ?_
  unfold sh_s_l1Word
  refine ⟨fun i w' => ∃ k : Nat, k ≤ s.size ∧ i = .int .i64 k ∧ (s.data.toList.drop k).all lower = lettersB s ∧ Inv w [] [] S w', fun i _ => s.size - (intOf i).toNat, ⟨0, Nat.zero_le _, rfl, rfl, hI⟩, ?_⟩
  intro t3 _ _ _ _ _ _ _ _ _ _ _ _ _ _ _ _ _ w'
  rintro ⟨k, hk, rfl, hrel, hI⟩
  refine r_lenStr un_string ?_
  refine r_lss ?_
  refine condP (fun hki => ?_) (fun hki => ?_)
  · have hk' : k < s.size := by omega
    have hstep := all_drop lower s.data.toList k (by rw [size_data]; exact hk')
    rw [get_data s k hk'] at hstep
    refine ⟨fun t w' => t = .bool (!lower s[k]) ∧ Inv w [] [] S w', ?_, ?_⟩
    · refine r_indexStr un_string hk' ?_
      refine r_lss ?_
      refine r_or (fun h => ⟨?_, hI⟩) (fun h => ?_)
      · have h := of_decide_eq_true h
        rw [lower, decide_eq_false (show ¬ 97 ≤ s[k].toNat by omega)]; rfl
      · refine r_indexStr un_string hk' ?_
        refine r_gtr ?_
        refine r_orF h ⟨?_, hI⟩
        have h := of_decide_eq_false h
        rw [lower, decide_eq_true (show 97 ≤ s[k].toNat by omega), Bool.true_and]
        by_cases h2 : s[k].toNat ≤ 122
        · rw [decide_eq_true h2, decide_eq_false (by omega)]; rfl
        · rw [decide_eq_false h2, decide_eq_true (by omega)]; rfl
    intro t _ _ _ _ _ _ _ _ _ w'
    rintro ⟨rfl, hI⟩
    refine condV (fun h => done hI ?_) (fun h => ?_)
    · simp at h
      rw [wordB, ← hrel, hstep, h]; rfl
    · simp at h
      refine r_add (by omega) ?_
      refine ⟨⟨k + 1, hk', rfl, by rw [← hrel, hstep, h]; rfl, hI⟩, by simp [intOf]; omega⟩
  · have : k = s.size := by omega
    subst this
    have hl : lettersB s = true := by rw [← hrel, ← size_data, List.drop_length]; rfl
    refine r_lenStr un_string ?_
    refine r_geq ?_
    refine r_and (fun h => ?_) (fun h => done hI ?_)
    · refine r_lenStr un_string ?_
      refine r_leq ?_
      refine r_andT h (done hI ?_)
      have h := of_decide_eq_true h
      rw [wordB, hl, decide_eq_true (show 1 ≤ s.size by omega)]
      by_cases h2 : s.size ≤ 6
      · rw [decide_eq_true h2, decide_eq_true (by omega)]; rfl
      · rw [decide_eq_false h2, decide_eq_false (by omega)]; rfl
    · have h := of_decide_eq_false h
      rw [wordB, hl, decide_eq_false (show ¬ 1 ≤ s.size by omega)]; rfl

def signCells : Array Value := (signs.map Value.string).toArray
theorem signs_rd {S : Store} {b : Nat} {E : TypeId} (hS : S b = some (.cells signCells E)) : RdSl S 1 RdStr (.slice (some ⟨b, 0, none⟩) 15 15) signs := by
  refine RdSl.ofCells hS rfl (by decide) ?_
  intro i hi
  have hi' : i < 15 := hi
  match i, hi' with
  | 0, _ | 1, _ | 2, _ | 3, _ | 4, _ | 5, _ | 6, _ | 7, _ | 8, _ | 9, _ | 10, _ | 11, _ | 12, _ | 13, _ | 14, _ => rfl
abbrev PostSigns (S : Store) : Value → List Item → Store → Prop := fun v I' S' => I' = [] ∧ Sle S S' ∧ RdSl S' 1 RdStr v signs
theorem addS_ext {S : Store} {b n : Nat} {o : Obj} (h : n ≤ b) (hs : Sle S (addS S b o)) : Ext n [] S (addS S b o) :=
  ⟨hs, fun c o' hc => by
    simp only [addS] at hc
    split at hc
    · rename_i e; subst e; exact .inr (.inr h)
    · exact .inl hc⟩
theorem l1Signs_calls (S : Store) : Tri Try.prog n_s_l1Signs [] [] S (PostSigns S) := by
  intro w hI
  refine calls_s_l1Signs ?_
  unfold sh_s_l1Signs
  refine r_made (v := fun b => .slice (some ⟨b, 0, none⟩) 15 15) (o := .cells signCells t_string) hI (by kernel_rfl) fun b w' hI => ?_
  have hnew : w.heap.size ≤ b := by
    rcases hI.new b (by simp [feet, Item.foot]) with h | h
    · simp [feet] at h
    · exact h
  obtain ⟨h1, h2⟩ := Inv.publishLast (L := []) hI
  exact ⟨_, _, _, rfl, h1, addS_ext hnew h2, rfl, h2, signs_rd (by simp [addS]; rfl)⟩
theorem l1Has_calls (s : ByteArray) {xs : List ByteArray} {S : Store} {v : Value} (h : RdSl S 1 RdStr v xs) : Pure Try.prog n_s_l1Has [v, .string s] S (.bool (xs.any fun x => decide (x = s))) := by
  intro w hI
  have hlen := h.le
  simp only [maxLen] at hlen
  refine calls_s_l1Has ?_
  unfold sh_s_l1Has
  refine ⟨fun i w' => ∃ k : Nat, k ≤ xs.length ∧ i = .int .i64 k ∧ (xs.drop k).any (fun x => decide (x = s)) = xs.any (fun x => decide (x = s)) ∧ Inv w [] [] S w', fun i _ => xs.length - (intOf i).toNat, ⟨0, Nat.zero_le _, rfl, rfl, hI⟩, ?_⟩
  intro t3 _ _ _ _ _ _ _ _ _ _ _ _ _ w'
  rintro ⟨k, hk, rfl, hrel, hI⟩
  refine r_lenSl h sl_Sstring ?_
  refine r_lss ?_
  refine condP (fun hki => ?_) (fun hki => ?_)
  · have hk' : k < xs.length := by omega
    have hstep := any_drop (fun x => decide (x = s)) xs k hk'
    refine r_elem1 hI h sl_Sstring sc_string hk' (fun cs hcs => hcs) ?_
    refine r_seql ?_
    refine condV (fun he => done hI ?_) (fun he => ?_)
    · rw [← hrel, hstep, he]; rfl
    · refine r_add (by omega) ?_
      exact ⟨⟨k + 1, hk', rfl, by rw [← hrel, hstep, he]; rfl, hI⟩, by simp [intOf]; omega⟩
  · have : k = xs.length := by omega
    subst this
    exact done hI (by rw [← hrel, List.drop_length]; rfl)
/- the end of a reading function that has published something for itself -/
theorem doneS {w w' : World} {L : List Item} {S S' : Store} {r r' : Value} (h : Inv w [] L S' w') (hs : Sle S S') (e : r' = r) : Ending.returned r' = .returned r ∧ Inv w [] [] S w' := ⟨by rw [e], h.nil.less hs⟩
theorem sNameValid_calls (s : ByteArray) (hs : s.size ≤ maxLen) (S : Store) : Pure Try.prog n_s_NameValid [.string s] S (.bool (nameB s)) := by
  intro w hI
  refine calls_s_NameValid ?_
  unfold sh_s_NameValid
  refine Run.callPure fn_s_l1Word nm_s_l1Word hI (l1Word_calls s hs S) fun w' hI => ?_
  refine r_or (fun h => done hI ?_) (fun h => ?_)
  · rw [nameB, h]; rfl
  · refine Run.call0 fn_s_l1Signs nm_s_l1Signs hI (l1Signs_calls S) fun v' I' S' w' => ?_
    rintro ⟨rfl, _, hr⟩ hle hI
    refine Run.callPure fn_s_l1Has nm_s_l1Has hI (l1Has_calls s hr) fun w' hI => ?_
    refine r_orF h (doneS hI hle ?_)
    rw [nameB, h]; rfl

theorem l1Own_calls {t : T} {S : Store} {cs : List Value} (h : RdT S cs t) : Pure Try.prog n_s_l1Own [.agg cs.toArray] S (.bool (ownB t)) := by
  intro w hI
  obtain ⟨kv, rfl, _, _, hs, hks⟩ := RdT.iff.1 h
  obtain ⟨k, n, s, ks⟩ := t
  simp only [T.name, T.kids, T.kind, T.n] at hs hks ⊢
  refine calls_s_l1Own ?_
  unfold sh_s_l1Own
  refine r_box hI fun b1 w' hI => ?_
  refine r_fieldL hI 0 rfl fo_iTerm_0 sc_int rfl ?_
  refine r_eql ?_
  refine condP (fun hk => ?_) (fun hk => ?_)
  · have ho : ownB (.mk k n s ks) = (decide (0 ≤ n) && (decide (n ≤ 25) && (decide (s = emptyB) && decide (ks.length = 0)))) := by
      rw [ownB]; exact if_pos hk
    refine r_fieldL hI 0 rfl fo_iTerm_1 sc_int rfl ?_
    refine r_geq ?_
    refine r_and (fun h1 => ?_) (fun h1 => ?_)
    · refine r_fieldL hI 0 rfl fo_iTerm_1 sc_int rfl ?_
      refine r_leq ?_
      refine r_andT h1 ?_
      refine r_and (fun h2 => ?_) (fun h2 => ?_)
      · refine r_fieldL hI 0 rfl fo_iTerm_2 sc_string rfl ?_
        refine r_seql ?_
        refine r_andT h2 ?_
        refine r_and (fun h3 => ?_) (fun h3 => done hI ?_)
        · refine r_fieldL hI 0 rfl fo_iTerm_3 sc_SiTerm rfl ?_
          refine r_lenSl hks sl_SiTerm ?_
          refine r_eql ?_
          refine r_andT h3 (done hI ?_)
          rw [ho, h1, h2, show decide (s = emptyB) = true from h3]
          simp
        · rw [ho, h1, h2, show decide (s = emptyB) = false from h3]; rfl
      · refine r_andF (done hI ?_)
        rw [ho, h1, h2]; rfl
    · refine r_andF (r_andF (done hI ?_))
      rw [ho, h1]; rfl
  refine r_eql ?_
  refine condP (fun hk2 => ?_) (fun hk2 => ?_)
  · have ho : ownB (.mk k n s ks) = (decide (-999 ≤ n) && (decide (n ≤ 999) && (decide (s = emptyB) && decide (ks.length = 0)))) := by
      rw [ownB]; exact (if_neg hk).trans (if_pos hk2)
    refine r_fieldL hI 0 rfl fo_iTerm_1 sc_int rfl ?_
    refine r_geq ?_
    refine r_and (fun h1 => ?_) (fun h1 => ?_)
    · refine r_fieldL hI 0 rfl fo_iTerm_1 sc_int rfl ?_
      refine r_leq ?_
      refine r_andT h1 ?_
      refine r_and (fun h2 => ?_) (fun h2 => ?_)
      · refine r_fieldL hI 0 rfl fo_iTerm_2 sc_string rfl ?_
        refine r_seql ?_
        refine r_andT h2 ?_
        refine r_and (fun h3 => ?_) (fun h3 => done hI ?_)
        · refine r_fieldL hI 0 rfl fo_iTerm_3 sc_SiTerm rfl ?_
          refine r_lenSl hks sl_SiTerm ?_
          refine r_eql ?_
          refine r_andT h3 (done hI ?_)
          rw [ho, h1, h2, show decide (s = emptyB) = true from h3]
          simp
        · rw [ho, h1, h2, show decide (s = emptyB) = false from h3]; rfl
      · refine r_andF (done hI ?_)
        rw [ho, h1, h2]; rfl
    · refine r_andF (r_andF (done hI ?_))
      rw [ho, h1]; rfl
  refine r_eql ?_
  refine condP (fun hk3 => ?_) (fun hk3 => done hI ?_)
  · have ho : ownB (.mk k n s ks) = (decide (n = 0) && (nameB s && decide (ks.length ≤ 4))) := by
      rw [ownB]; exact (if_neg hk).trans ((if_neg hk2).trans (if_pos hk3))
    refine r_fieldL hI 0 rfl fo_iTerm_1 sc_int rfl ?_
    refine r_eql ?_
    refine r_and (fun h1 => ?_) (fun h1 => ?_)
    · refine r_fieldL hI 0 rfl fo_iTerm_2 sc_string rfl ?_
      refine Run.callPure fn_s_NameValid nm_s_NameValid hI (sNameValid_calls s hs S) fun w' hI => ?_
      refine r_andT h1 ?_
      refine r_and (fun h2 => ?_) (fun h2 => done hI ?_)
      · refine r_fieldL hI 0 rfl fo_iTerm_3 sc_SiTerm rfl ?_
        refine r_lenSl hks sl_SiTerm ?_
        refine r_leq ?_
        refine r_andT h2 (done hI ?_)
        rw [ho, h1, h2]
        simp
        omega
      · rw [ho, h1, h2]; rfl
    · refine r_andF (done hI ?_)
      rw [ho, h1]; rfl
  · rw [ownB]
    exact congrArg Value.bool ((if_neg hk).trans ((if_neg hk2).trans (if_neg hk3))).symm

theorem l1Shape_calls : ∀ (t : T) (S : Store) (cs : List Value) (d : Int), RdT S cs t → -1 ≤ d → d ≤ 1000 → Pure Try.prog n_s_l1Shape [.agg cs.toArray, .int .i64 d] S (.bool (shapeT t d)) := by
  refine T.ind fun k n s ks ih S cs d h h0 h1 => ?_
  intro w hI
  have hcs := h
  obtain ⟨kv, rfl, _, _, hs, hks⟩ := RdT.iff.1 h
  simp only [T.name, T.kids, T.kind, T.n] at hs hks ⊢
  have hlen := hks.le
  simp only [maxLen] at hlen
  refine calls_s_l1Shape ?_
  unfold sh_s_l1Shape
  refine r_box hI fun b1 w' hI => ?_
  refine ⟨fun t w' => t = .bool (decide (d < 1) || !ownB (.mk k n s ks)) ∧ Inv w [] [.blk b1 (.cells #[.int .i64 k, .int .i64 n, .string s, kv] t_iTerm)] S w', ?_, ?_⟩
  · refine r_lss ?_
    refine r_or (fun h => ⟨by rw [h]; rfl, hI⟩) (fun h => ?_)
    refine r_loadW hI 0 ag_iTerm rfl rfl ?_
    refine Run.callPure fn_s_l1Own nm_s_l1Own hI (l1Own_calls hcs) fun w' hI => ?_
    refine r_not ?_
    exact r_orF h ⟨by rw [h]; rfl, hI⟩
  intro t _ _ _ _ _ _ w'
  rintro ⟨rfl, hI⟩
  refine condV (fun hb => done hI ?_) (fun hb => ?_)
  · rw [shapeT]
    by_cases hd : d < 1
    · rw [if_pos hd]
    · rw [if_neg hd]
      simp [hd] at hb
      rw [hb]; rfl
  have hd : ¬ d < 1 := fun h => by simp [h] at hb
  have ho : ownB (.mk k n s ks) = true := by simp [hd] at hb; exact hb
  refine ⟨fun i w' => ∃ j : Nat, j ≤ ks.length ∧ i = .int .i64 j ∧ shapeL (ks.drop j) (d - 1) = shapeL ks (d - 1) ∧ Inv w [] [.blk b1 (.cells #[.int .i64 k, .int .i64 n, .string s, kv] t_iTerm)] S w',
    fun i _ => ks.length - (intOf i).toNat, ⟨0, Nat.zero_le _, rfl, rfl, hI⟩, ?_⟩
  intro t5 _ _ _ _ _ _ _ _ _ _ _ _ _ _ _ _ _ w'
  rintro ⟨j, hj, rfl, hrel, hI⟩
  refine r_fieldL hI 0 rfl fo_iTerm_3 sc_SiTerm rfl ?_
  refine r_lenSl hks sl_SiTerm ?_
  refine r_lss ?_
  refine condP (fun hji => ?_) (fun hji => ?_)
  · have hj' : j < ks.length := by omega
    have hstep : shapeL (ks.drop j) (d - 1) = (shapeT ks[j] (d - 1) && shapeL (ks.drop (j + 1)) (d - 1)) := by
      rw [List.drop_eq_getElem_cons hj', shapeL]
    refine r_fieldL hI 0 rfl fo_iTerm_3 sc_SiTerm rfl ?_
    refine r_elem hI hks sl_SiTerm ag_iTerm hj' (fun _ _ => RdT.length) fun cs' hcs' => ?_
    refine r_sub (by omega) ?_
    refine Run.callPure fn_s_l1Shape nm_s_l1Shape hI (ih _ (List.getElem_mem hj') S cs' (d - 1) hcs' (by omega) (by omega)) fun w' hI => ?_
    refine r_not ?_
    refine condV (fun hne => done hI ?_) (fun he => ?_)
    · simp at hne
      rw [shapeT, if_neg hd, ho, ← hrel, hstep, hne]; rfl
    · simp at he
      refine r_add (by omega) ?_
      exact ⟨⟨j + 1, hj', rfl, by rw [← hrel, hstep, he]; rfl, hI⟩, by simp [intOf]; omega⟩
  · have : j = ks.length := by omega
    subst this
    refine done hI ?_
    rw [shapeT, if_neg hd, ho, ← hrel, List.drop_length, shapeL]; rfl

theorem cntL_split : ∀ (ts : List T) (j : Nat) (h : j < ts.length), cntL (ts.drop j) = cntT ts[j] + cntL (ts.drop (j + 1)) := by
  intro ts j h
  rw [List.drop_eq_getElem_cons h, cntL]
theorem l1Count_calls : ∀ (t : T) (S : Store) (cs : List Value) (most : Int), RdT S cs t → 0 ≤ most → most ≤ 1000 → cntT t ≤ 4611686018427387904 → Pure Try.prog n_s_l1Count [.agg cs.toArray, .int .i64 most] S (.int .i64 (countT t most)) := by
  refine T.ind fun k n s ks ih S cs most h h0 h1 hc => ?_
  intro w hI
  obtain ⟨kv, rfl, _, _, hs, hks⟩ := RdT.iff.1 h
  simp only [T.name, T.kids, T.kind, T.n] at hs hks ⊢
  have hlen := hks.le
  simp only [maxLen] at hlen
  rw [show cntT (T.mk k n s ks) = 1 + cntL ks from rfl] at hc
  refine calls_s_l1Count ?_
  unfold sh_s_l1Count
  refine r_box hI fun b1 w' hI => ?_
  refine ⟨fun i m w' => ∃ (j : Nat) (c : Int), j ≤ ks.length ∧ i = .int .i64 j ∧ m = .int .i64 c ∧ 1 ≤ c ∧ c + cntL (ks.drop j) ≤ 1 + cntL ks ∧ countL (ks.drop j) c most = countL ks 1 most ∧ Inv w [] [.blk b1 (.cells #[.int .i64 k, .int .i64 n, .string s, kv] t_iTerm)] S w',
    fun i _ _ => ks.length - (intOf i).toNat, ⟨0, 1, Nat.zero_le _, rfl, rfl, by omega, by rw [List.drop_zero]; omega, rfl, hI⟩, ?_⟩
  intro t6 _ _ t5 _ _ _ _ _ _ _ _ _ _ _ _ _ _ _ _ _ _ _ _ _ w'
  rintro ⟨j, c, hj, rfl, rfl, hc1, hc2, hrel, hI⟩
  refine ⟨fun t w' => t = .bool (decide (j < ks.length) && decide (c ≤ most)) ∧ Inv w [] [.blk b1 (.cells #[.int .i64 k, .int .i64 n, .string s, kv] t_iTerm)] S w', ?_, ?_⟩
  · refine r_fieldL hI 0 rfl fo_iTerm_3 sc_SiTerm rfl ?_
    refine r_lenSl hks sl_SiTerm ?_
    refine r_lss ?_
    refine r_and (fun h => ?_) (fun h => ⟨?_, hI⟩)
    · refine r_leq ?_
      refine r_andT h ⟨?_, hI⟩
      rw [decide_eq_true (show j < ks.length from by have := of_decide_eq_true h; omega)]; rfl
    · rw [decide_eq_false (show ¬ j < ks.length from by have := of_decide_eq_false h; omega)]; rfl
  intro t _ _ _ _ _ _ _ _ _ w'
  rintro ⟨rfl, hI⟩
  refine condV (fun hb => ?_) (fun hb => done hI ?_)
  · simp at hb
    obtain ⟨hj', hcm⟩ := hb
    have hsp := cntL_split ks j hj'
    have hstep : countL (ks.drop j) c most = countL (ks.drop (j + 1)) (c + countT ks[j] (most - c)) most := by
      rw [List.drop_eq_getElem_cons hj', countL, if_pos hcm]
    have hct := countT_eq ks[j] (most - c) (by omega)
    have hp := cntT_pos ks[j]
    have hlp := cntL_pos (ks.drop (j + 1))
    have hcle : 1 ≤ countT ks[j] (most - c) ∧ countT ks[j] (most - c) ≤ cntT ks[j] := by
      by_cases hq : cntT ks[j] ≤ most - c
      · rw [hct.1 hq]; omega
      · have := hct.2 (by omega); omega
    refine r_fieldL hI 0 rfl fo_iTerm_3 sc_SiTerm rfl ?_
    refine r_elem hI hks sl_SiTerm ag_iTerm hj' (fun _ _ => RdT.length) fun cs' hcs' => ?_
    refine r_sub (by omega) ?_
    refine Run.callPure fn_s_l1Count nm_s_l1Count hI (ih _ (List.getElem_mem hj') S cs' (most - c) hcs' (by omega) (by omega) (by omega)) fun w' hI => ?_
    refine r_add (by omega) ?_
    refine r_add (by omega) ?_
    exact ⟨⟨j + 1, _, hj', rfl, rfl, by omega, by omega, by rw [← hrel, hstep], hI⟩, by simp [intOf]; omega⟩
  · show Value.int .i64 c = Value.int .i64 (countL ks 1 most)
    rw [← hrel]
    by_cases hj' : j < ks.length
    · simp [hj'] at hb
      rw [List.drop_eq_getElem_cons hj', countL, if_neg (by omega)]
    · rw [List.drop_eq_nil_of_le (by omega), countL]

mutual
theorem cnt_wT : ∀ t : T, cntT t ≤ 1 + (wT t : Int)
  | .mk k n s ks => by
    rw [show cntT (T.mk k n s ks) = 1 + cntL ks from rfl, wT]
    have := cnt_wL ks
    omega
theorem cnt_wL : ∀ ts : List T, cntL ts ≤ ts.length + (wL ts : Int)
  | [] => by simp [cntL, wL]
  | t :: ts => by
    rw [show cntL (t :: ts) = cntT t + cntL ts from rfl, wL, List.length_cons]
    have := cnt_wT t; have := cnt_wL ts
    omega
end

theorem sTermValid_calls {t : T} {S : Store} {cs : List Value} (h : RdT S cs t) (hc : cntT t ≤ 4611686018427387904) : Pure Try.prog n_s_TermValid [.agg cs.toArray] S (.bool (validB t)) := by
  intro w hI
  have hl := h.length
  refine calls_s_TermValid ?_
  unfold sh_s_TermValid
  refine r_box hI fun b1 w' hI => ?_
  refine r_loadW hI 0 ag_iTerm rfl (by simpa [Value.cells] using hl) ?_
  refine Run.callPure fn_s_l1Shape nm_s_l1Shape hI (l1Shape_calls t S cs 30 h (by omega) (by omega)) fun w' hI => ?_
  refine r_and (fun h1 => ?_) (fun h1 => done hI ?_)
  · refine r_loadW hI 0 ag_iTerm rfl (by simpa [Value.cells] using hl) ?_
    refine Run.callPure fn_s_l1Count nm_s_l1Count hI (l1Count_calls t S cs 120 h (by omega) (by omega) hc) fun w' hI => ?_
    refine r_leq ?_
    refine r_andT h1 (done hI ?_)
    rw [validB, h1, countT_le]; rfl
  · rw [validB, h1]; rfl

end Go.Proofs.Ytnoieadimkgjcaa

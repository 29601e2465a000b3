/- The program's TermValid and what it calls. -/
import Derived.Test.YtnoieadimkgjcaaSpecV
import Derived.Test.YtnoieadimkgjcaaFuncs
namespace Go.Proofs.Ytnoieadimkgjcaa
open Go Go.RowKit
attribute [local irreducible] Run CondV GuardV LoadV

theorem within_calls (n low high : Int) (S : Store) : Pure Try.prog n_i_within [.int .i64 n, .int .i64 low, .int .i64 high] S (.bool (decide (low ≤ n) && decide (n ≤ high))) := by
  intro w hI
  refine calls_i_within ?_
  unfold sh_i_within
  refine r_leq ?_
  refine r_and (fun h => ?_) (fun h => done hI (by rw [h]; rfl))
  refine r_leq ?_
  exact r_andT h (done hI (by rw [h]; rfl))
theorem isLetters_calls (s : ByteArray) (hs : s.size ≤ maxLen) (S : Store) : Pure Try.prog n_i_isLetters [.string s] S (.bool (wordB s)) := by
  intro w hI
  simp only [maxLen] at hs
  refine calls_i_isLetters ?_
  unfold sh_i_isLetters
  refine r_lenStr un_string ?_
  refine ⟨fun i w' => ∃ k : Nat, k ≤ s.size ∧ i = .int .i64 k ∧ (s.data.toList.drop k).all lower = lettersB s ∧ Inv w [] [] S w', fun i _ => s.size - (intOf i).toNat, ⟨0, Nat.zero_le _, rfl, rfl, hI⟩, ?_⟩
  intro t6 _ _ _ _ _ _ _ _ _ _ _ _ _ _ _ w'
  rintro ⟨k, hk, rfl, hrel, hI⟩
  refine r_lss ?_
  refine condP (fun hki => ?_) (fun hki => ?_)
  · have hk' : k < s.size := by omega
    have hstep := all_drop lower s.data.toList k (by rw [size_data]; exact hk')
    rw [get_data s k hk'] at hstep
    refine ⟨fun t w' => t = .bool (!lower s[k]) ∧ Inv w [] [] S w', ?_, ?_⟩
    · refine r_indexStr un_string hk' ?_
      refine r_lss ?_
      refine r_or (fun h => ⟨?_, hI⟩) (fun h => ?_)
      · have h := of_decide_eq_true h
        rw [lower, decide_eq_false (show ¬ 97 ≤ s[k].toNat by omega)]; rfl
      · refine r_indexStr un_string hk' ?_
        refine r_gtr ?_
        refine r_orF h ⟨?_, hI⟩
        have h := of_decide_eq_false h
        rw [lower, decide_eq_true (show 97 ≤ s[k].toNat by omega), Bool.true_and]
        by_cases h2 : s[k].toNat ≤ 122
        · rw [decide_eq_true h2, decide_eq_false (by omega)]; rfl
        · rw [decide_eq_false h2, decide_eq_true (by omega)]; rfl
    intro t _ _ _ _ _ _ _ _ _ w'
    rintro ⟨rfl, hI⟩
    refine condV (fun h => done hI ?_) (fun h => ?_)
    · simp at h
      rw [wordB, ← hrel, hstep, h]; rfl
    · simp at h
      refine r_add (by omega) ?_
      refine ⟨⟨k + 1, hk', rfl, by rw [← hrel, hstep, h]; rfl, hI⟩, by simp [intOf]; omega⟩
  · have : k = s.size := by omega
    subst this
    have hl : lettersB s = true := by rw [← hrel, ← size_data, List.drop_length]; rfl
    refine r_lenStr un_string ?_
    refine Run.callPure fn_i_within nm_i_within hI (within_calls _ _ _ S) fun w' hI => done hI ?_
    rw [wordB, hl, Bool.true_and]
    congr 1
    rw [Bool.eq_iff_iff]
    simp
    omega
theorem symbols_calls (S : Store) : Tri Try.prog n_i_symbols [] [] S (PostSigns S) := by
  intro w hI
  refine calls_i_symbols ?_
  unfold sh_i_symbols
  refine r_made (v := fun b => .slice (some ⟨b, 0, none⟩) 15 15) (o := .cells signCells t_string) hI (by kernel_rfl) fun b w' hI => ?_
  have hnew : w.heap.size ≤ b := by
    rcases hI.new b (by simp [feet, Item.foot]) with h | h
    · simp [feet] at h
    · exact h
  obtain ⟨h1, h2⟩ := Inv.publishLast (L := []) hI
  exact ⟨_, _, _, rfl, h1, addS_ext hnew h2, rfl, h2, signs_rd (by simp [addS]; rfl)⟩
theorem Index_string_calls (s : ByteArray) {xs : List ByteArray} {S : Store} {v : Value} (h : RdSl S 1 RdStr v xs) :
    Pure Try.prog n_x_Index_string [v, .string s] S (.int .i64 (indexF (σ := Unit) (fun _ x => (decide (x = s), ())) () xs 0).1) := by
  intro w hI
  have hlen := h.le
  simp only [maxLen] at hlen
  refine calls_x_Index_string ?_
  unfold sh_x_Index_string
  refine r_lenSl h sl_Sstring ?_
  refine ⟨fun i w' => ∃ k : Nat, k ≤ xs.length ∧ i = .int .i64 k ∧ indexF (σ := Unit) (fun _ x => (decide (x = s), ())) () (xs.drop k) k = indexF (σ := Unit) (fun _ x => (decide (x = s), ())) () xs 0 ∧ Inv w [] [] S w',
    fun i _ => xs.length - (intOf i).toNat, ⟨0, Nat.zero_le _, rfl, rfl, hI⟩, ?_⟩
  intro t8 _ _ _ _ _ _ _ _ _ _ _ _ w'
  rintro ⟨k, hk, rfl, hrel, hI⟩
  refine r_lss ?_
  refine condP (fun hki => ?_) (fun hki => ?_)
  · have hk' : k < xs.length := by omega
    rw [List.drop_eq_getElem_cons hk', indexF] at hrel
    refine r_elem1 hI h sl_Sstring sc_string hk' (fun cs hcs => hcs) ?_
    refine r_seql ?_
    refine condP (fun he => done hI ?_) (fun he => ?_)
    · rw [← hrel, if_pos (by simpa using he.symm)]
    · refine r_add (by omega) ?_
      rw [if_neg (by simpa using fun e => he e.symm)] at hrel
      exact ⟨⟨k + 1, hk', rfl, hrel, hI⟩, by simp [intOf]; omega⟩
  · have : k = xs.length := by omega
    subst this
    rw [List.drop_length, indexF] at hrel
    exact done hI (by rw [← hrel])
theorem Contains_string_calls (s : ByteArray) {xs : List ByteArray} {S : Store} {v : Value} (h : RdSl S 1 RdStr v xs) :
    Pure Try.prog n_x_Contains_string [v, .string s] S (.bool (xs.any fun x => decide (x = s))) := by
  intro w hI
  refine calls_x_Contains_string ?_
  unfold sh_x_Contains_string
  refine Run.callPure fn_x_Index_string nm_x_Index_string hI (Index_string_calls s h) fun w' hI => ?_
  refine r_geq (done hI ?_)
  rw [(indexF_any _ xs () 0).1, anyF_pure]
theorem iNameValid_calls (s : ByteArray) (hs : s.size ≤ maxLen) (S : Store) : Pure Try.prog n_i_NameValid [.string s] S (.bool (nameB s)) := by
  intro w hI
  refine calls_i_NameValid ?_
  unfold sh_i_NameValid
  refine Run.callPure fn_i_isLetters nm_i_isLetters hI (isLetters_calls s hs S) fun w' hI => ?_
  refine r_or (fun h => done hI ?_) (fun h => ?_)
  · rw [nameB, h]; rfl
  · refine Run.call0 fn_i_symbols nm_i_symbols hI (symbols_calls S) fun v' I' S' w' => ?_
    rintro ⟨rfl, _, hr⟩ hle hI
    refine Run.callPure fn_x_Contains_string nm_x_Contains_string hI (Contains_string_calls s hr) fun w' hI => ?_
    refine r_orF h (doneS hI hle ?_)
    rw [nameB, h]; rfl

abbrev cntI (b : Nat) (c : Int) : Item := .blk b (.cells #[.int .i64 c] t_int)
abbrev PostScan (bc : Nat) (S : Store) (r : Bool × Int) : Value → List Item → Store → Prop := fun v I' S' => v = .bool r.1 ∧ I' = [cntI bc r.2] ∧ S' = S
theorem scanT_bound : ∀ (t : T) (deep c : Int), c ≤ 120 → (scanT t deep c).1 = true → c < (scanT t deep c).2 ∧ (scanT t deep c).2 ≤ 120 := by
  intro t deep c hc h
  have := scanT_eq t deep c
  rw [this.2 h]
  have h1 := this.1
  rw [h] at h1
  have h2 := h1.symm
  simp at h2
  have := cntT_pos t
  omega
theorem anyF_scan (deep : Int) : ∀ (ks : List T) (c : Int), anyF (fun c t => (!(scanT t deep c).1, (scanT t deep c).2)) c ks = (!(scanL ks deep c).1, (scanL ks deep c).2)
  | [], c => by simp [anyF, scanL]
  | t :: ts, c => by
    by_cases h : (scanT t deep c).1 = true
    · simp [anyF, scanL, h, anyF_scan deep ts]
    · simp [anyF, scanL, h]

theorem scan_calls : ∀ (t : T) (S : Store) (cs : List Value) (deep c : Int) (bc : Nat), RdT S cs t → 0 ≤ deep → deep ≤ 31 → 0 ≤ c → c ≤ 120 →
    Tri Try.prog n_i_scan [.agg cs.toArray, .int .i64 deep, .pointer (some ⟨bc, 0, none⟩)] [cntI bc c] S (PostScan bc S (scanT t deep c)) := by
  refine T.ind fun k n s ks ih S cs deep c bc h hd0 hd1 hc0 hc1 => ?_
  intro w hI
  obtain ⟨kv, rfl, _, _, hs, hks⟩ := RdT.iff.1 h
  simp only [T.name, T.kids, T.kind, T.n] at hs hks ⊢
  have hend : ∀ {L : List Item} {w' : World} {v : Value} (r : Bool × Int), Inv w (feet [cntI bc c]) (cntI bc r.2 :: L) S w' → v = .bool r.1 → r = scanT (.mk k n s ks) deep c →
      ∃ v' I' S', Ending.returned v = .returned v' ∧ Inv w (feet [cntI bc c]) I' S' w' ∧ Ext w.heap.size (feet [cntI bc c]) S S' ∧ PostScan bc S (scanT (.mk k n s ks) deep c) v' I' S' := by
    intro L w' v r h1 h2 h3
    subst h3
    exact ⟨_, _, _, rfl, h1.pick [true], Ext.refl _ _ _, h2, rfl, rfl⟩
  refine calls_i_scan ?_
  unfold sh_i_scan
  refine r_box hI fun b3 w' hI => ?_
  refine r_box hI fun b4 w' hI => ?_
  refine r_box hI fun b5 w' hI => ?_
  refine r_loadL hI 3 sc_Pint rfl rfl ?_
  refine r_nilCheck ?_
  refine r_loadL hI 0 sc_int rfl rfl ?_
  refine r_add (by omega) ?_
  refine r_nilCheck ?_
  refine r_store hI 0 (n := 1) rfl (by rw [sc_int]; rfl) rfl (Nat.le_of_ble_eq_true rfl) (by simp [Value.cells]; rfl) fun w' hI => ?_
  refine ⟨fun t w' => t = .bool (decide (120 < c + 1 ∨ 30 < deep)) ∧ Inv w (feet [cntI bc c]) [cntI bc (c + 1), .blk b3 (.cells #[.int .i64 k, .int .i64 n, .string s, kv] t_iTerm), .blk b4 (.cells #[.int .i64 deep] t_int), .blk b5 (.cells #[.pointer (some ⟨bc, 0, none⟩)] t_Pint)] S w', ?_, ?_⟩
  · refine r_loadL hI 3 sc_Pint rfl rfl ?_
    refine r_nilCheck ?_
    refine r_loadL hI 0 sc_int rfl rfl ?_
    refine r_gtr ?_
    refine r_or (fun h => ⟨?_, hI⟩) (fun h => ?_)
    · have h := of_decide_eq_true h
      rw [decide_eq_true (show 120 < c + 1 ∨ 30 < deep from .inl h)]
    · refine r_loadL hI 2 sc_int rfl rfl ?_
      refine r_gtr ?_
      refine r_orF h ⟨?_, hI⟩
      have h := of_decide_eq_false h
      congr 1
      rw [Bool.eq_iff_iff]
      simp
      omega
  intro t _ _ _ _ _ _ _ w'
  rintro ⟨rfl, hI⟩
  refine condP (fun hb => ?_) (fun hb => ?_)
  · exact hend (false, c + 1) hI rfl (by rw [scanT, if_pos hb])
  have hsc : ∀ r, (if k = 1 ∨ k = 2 then (ownB (.mk k n s ks), c + 1) else if k = 3 then (if ownB (.mk k n s ks) then scanL ks (deep + 1) (c + 1) else (false, c + 1)) else (false, c + 1)) = r → r = scanT (.mk k n s ks) deep c := by
    intro r hr
    rw [scanT, if_neg hb, hr]
  refine r_fieldL hI 1 rfl fo_iTerm_0 sc_int rfl ?_
  refine r_eql ?_
  refine condP (fun hk => ?_) (fun hk => ?_)
  · have ho : ownB (.mk k n s ks) = (decide (0 ≤ n) && (decide (n ≤ 25) && (decide (s = emptyB) && decide (ks.length = 0)))) := by
      rw [ownB]; exact if_pos hk
    have hfin : ∀ {w' : World} {b : Bool}, Inv w (feet [cntI bc c]) [cntI bc (c + 1), .blk b3 (.cells #[.int .i64 k, .int .i64 n, .string s, kv] t_iTerm), .blk b4 (.cells #[.int .i64 deep] t_int), .blk b5 (.cells #[.pointer (some ⟨bc, 0, none⟩)] t_Pint)] S w' →
        b = ownB (.mk k n s ks) → ∃ v' I' S', Ending.returned (.bool b) = .returned v' ∧ Inv w (feet [cntI bc c]) I' S' w' ∧ Ext w.heap.size (feet [cntI bc c]) S S' ∧ PostScan bc S (scanT (.mk k n s ks) deep c) v' I' S' :=
      fun hI hb => hend (_, c + 1) hI (by rw [hb]) (hsc _ (if_pos (.inl hk)))
    refine r_fieldL hI 1 rfl fo_iTerm_1 sc_int rfl ?_
    refine Run.callPure fn_i_within nm_i_within hI (within_calls _ _ _ S) fun w' hI => ?_
    refine r_and (fun h2 => ?_) (fun h2 => ?_)
    · have h2' := h2
      rw [Bool.and_eq_true] at h2'
      refine r_fieldL hI 1 rfl fo_iTerm_2 sc_string rfl ?_
      refine r_seql ?_
      refine r_andT h2 ?_
      refine r_and (fun h3 => ?_) (fun h3 => hfin hI ?_)
      · refine r_fieldL hI 1 rfl fo_iTerm_3 sc_SiTerm rfl ?_
        refine r_lenSl hks sl_SiTerm ?_
        refine r_eql ?_
        refine r_andT h3 (hfin hI ?_)
        rw [ho, h2'.1, h2'.2, show decide (s = emptyB) = true from h3]
        simp
      · rw [ho, h2'.1, h2'.2, show decide (s = emptyB) = false from h3]; rfl
    · refine r_andF (hfin hI ?_)
      rw [ho, ← Bool.and_assoc, h2]; rfl
  refine r_eql ?_
  refine condP (fun hk2 => ?_) (fun hk2 => ?_)
  · have ho : ownB (.mk k n s ks) = (decide (-999 ≤ n) && (decide (n ≤ 999) && (decide (s = emptyB) && decide (ks.length = 0)))) := by
      rw [ownB]; exact (if_neg hk).trans (if_pos hk2)
    have hfin : ∀ {w' : World} {b : Bool}, Inv w (feet [cntI bc c]) [cntI bc (c + 1), .blk b3 (.cells #[.int .i64 k, .int .i64 n, .string s, kv] t_iTerm), .blk b4 (.cells #[.int .i64 deep] t_int), .blk b5 (.cells #[.pointer (some ⟨bc, 0, none⟩)] t_Pint)] S w' →
        b = ownB (.mk k n s ks) → ∃ v' I' S', Ending.returned (.bool b) = .returned v' ∧ Inv w (feet [cntI bc c]) I' S' w' ∧ Ext w.heap.size (feet [cntI bc c]) S S' ∧ PostScan bc S (scanT (.mk k n s ks) deep c) v' I' S' :=
      fun hI hb => hend (_, c + 1) hI (by rw [hb]) (hsc _ (if_pos (.inr hk2)))
    refine r_fieldL hI 1 rfl fo_iTerm_1 sc_int rfl ?_
    refine Run.callPure fn_i_within nm_i_within hI (within_calls _ _ _ S) fun w' hI => ?_
    refine r_and (fun h2 => ?_) (fun h2 => ?_)
    · have h2' := h2
      rw [Bool.and_eq_true] at h2'
      refine r_fieldL hI 1 rfl fo_iTerm_2 sc_string rfl ?_
      refine r_seql ?_
      refine r_andT h2 ?_
      refine r_and (fun h3 => ?_) (fun h3 => hfin hI ?_)
      · refine r_fieldL hI 1 rfl fo_iTerm_3 sc_SiTerm rfl ?_
        refine r_lenSl hks sl_SiTerm ?_
        refine r_eql ?_
        refine r_andT h3 (hfin hI ?_)
        rw [ho, h2'.1, h2'.2, show decide (s = emptyB) = true from h3]
        simp
      · rw [ho, h2'.1, h2'.2, show decide (s = emptyB) = false from h3]; rfl
    · refine r_andF (hfin hI ?_)
      rw [ho, ← Bool.and_assoc, h2]; rfl
  refine r_eql ?_
  have hk12 : ¬ (k = 1 ∨ k = 2) := fun h => h.elim hk hk2
  refine condP (fun hk3 => ?_) (fun hk3 => ?_)
  · have ho : ownB (.mk k n s ks) = (decide (n = 0) && (nameB s && decide (ks.length ≤ 4))) := by
      rw [ownB]; exact (if_neg hk).trans ((if_neg hk2).trans (if_pos hk3))
    refine ⟨fun t w' => t = .bool (!ownB (.mk k n s ks)) ∧ Inv w (feet [cntI bc c]) [cntI bc (c + 1), .blk b3 (.cells #[.int .i64 k, .int .i64 n, .string s, kv] t_iTerm), .blk b4 (.cells #[.int .i64 deep] t_int), .blk b5 (.cells #[.pointer (some ⟨bc, 0, none⟩)] t_Pint)] S w', ?_, ?_⟩
    · refine r_fieldL hI 1 rfl fo_iTerm_1 sc_int rfl ?_
      refine r_neq ?_
      refine r_or (fun h1 => ?_) (fun h1 => ?_)
      · have h1' : decide (n = 0) = false := by simpa using h1
        refine r_orT ⟨?_, hI⟩
        rw [ho, h1']; rfl
      · have h1' : decide (n = 0) = true := by simpa using h1
        refine r_fieldL hI 1 rfl fo_iTerm_2 sc_string rfl ?_
        refine Run.callPure fn_i_NameValid nm_i_NameValid hI (iNameValid_calls s hs S) fun w' hI => ?_
        refine r_not ?_
        refine r_orF h1 ?_
        refine r_or (fun h2 => ⟨?_, hI⟩) (fun h2 => ?_)
        · have h2' : nameB s = false := by simpa using h2
          rw [ho, h1', h2']; rfl
        · have h2' : nameB s = true := by simpa using h2
          refine r_fieldL hI 1 rfl fo_iTerm_3 sc_SiTerm rfl ?_
          refine r_lenSl hks sl_SiTerm ?_
          refine r_gtr ?_
          refine r_orF h2 ⟨?_, hI⟩
          rw [ho, h1', h2', Bool.true_and, Bool.true_and]
          congr 1
          rw [Bool.eq_iff_iff]
          simp
          omega
    intro t _ _ _ _ _ _ _ _ _ _ _ _ _ _ w'
    rintro ⟨rfl, hI⟩
    refine condV (fun hb1 => ?_) (fun hb1 => ?_)
    · have hb1' : ownB (.mk k n s ks) = false := by simpa using hb1
      exact hend (false, c + 1) hI rfl (hsc _ (by rw [if_neg hk12, if_pos hk3, hb1']; rfl))
    · have hb1' : ownB (.mk k n s ks) = true := by simpa using hb1
      refine r_fieldL hI 1 rfl fo_iTerm_3 sc_SiTerm rfl ?_
      refine r_makeFunc ?_
      have hcb : Cb Try.prog n_i_scan_1 Try.f165 [.pointer (some ⟨b4, 0, none⟩), .pointer (some ⟨b5, 0, none⟩)] S
          (fun c : Int => [cntI bc c, .blk b4 (.cells #[.int .i64 deep] t_int), .blk b5 (.cells #[.pointer (some ⟨bc, 0, none⟩)] t_Pint)]) (fun c => 0 ≤ c ∧ c ≤ 120)
          (fun c t => (!(scanT t (deep + 1) c).1, (scanT t (deep + 1) c).2)) (fun v x => ∃ cs, v = .agg cs.toArray ∧ RdT S cs x) ks := by
        refine ⟨fn_i_scan_1, nm_i_scan_1, fun st x _ hst hf => ?_, fun st x v hx hst => ?_⟩
        · have := scanT_bound x (deep + 1) st hst.2 (by simpa using hf)
          omega
        · rintro ⟨cs, rfl, hcs⟩ w1 hI
          have hl := hcs.length
          refine calls_i_scan_1 ?_
          unfold sh_i_scan_1
          refine r_box hI fun b w' hI => ?_
          refine r_loadW hI 3 ag_iTerm rfl (by simpa [Value.cells] using hl) ?_
          refine r_loadL hI 1 sc_int rfl rfl ?_
          refine r_add (by omega) ?_
          refine r_loadL hI 2 sc_Pint rfl rfl ?_
          have hI := hI.perm (M := [.blk b4 (.cells #[.int .i64 deep] t_int), .blk b5 (.cells #[.pointer (some ⟨bc, 0, none⟩)] t_Pint), .blk b (.cells (Value.agg cs.toArray).cells t_iTerm)] ++ [cntI bc st])
            (List.perm_append_comm (l₁ := [_, _, _]) (l₂ := [cntI bc st]))
          refine Run.call fn_i_scan nm_i_scan hI (ih x hx S cs (deep + 1) st bc hcs (by omega) (by omega) hst.1 hst.2) fun v' I' S' w' => ?_
          rintro ⟨rfl, rfl, rfl⟩ _ hI
          refine r_not ?_
          have hI := (hI.perm (M := [cntI bc (scanT x (deep + 1) st).2] ++ [.blk b4 (.cells #[.int .i64 deep] t_int), .blk b5 (.cells #[.pointer (some ⟨bc, 0, none⟩)] t_Pint), .blk b (.cells (Value.agg cs.toArray).cells t_iTerm)])
            List.perm_append_comm).pick [true, true, true, false]
          exact ⟨_, _, _, rfl, hI, Ext.refl _ _ _, rfl, rfl, rfl⟩
      have hI := hI.perm (M := [.blk b3 (.cells #[.int .i64 k, .int .i64 n, .string s, kv] t_iTerm)] ++ [cntI bc (c + 1), .blk b4 (.cells #[.int .i64 deep] t_int), .blk b5 (.cells #[.pointer (some ⟨bc, 0, none⟩)] t_Pint)]) (List.Perm.swap _ _ _)
      refine Run.call fn_x_ContainsFunc_Term nm_x_ContainsFunc_Term hI (ContainsFunc_Term_of hcb hks ⟨by omega, by omega⟩) fun v' I' S' w' => ?_
      rintro ⟨rfl, rfl, rfl⟩ _ hI
      refine r_not ?_
      rw [anyF_scan] at hI ⊢
      have hI := hI.perm (M := [cntI bc (scanL ks (deep + 1) (c + 1)).2, .blk b3 (.cells #[.int .i64 k, .int .i64 n, .string s, kv] t_iTerm), .blk b4 (.cells #[.int .i64 deep] t_int), .blk b5 (.cells #[.pointer (some ⟨bc, 0, none⟩)] t_Pint)]) (List.Perm.swap _ _ _)
      refine hend (scanL ks (deep + 1) (c + 1)) hI (by simp) (hsc _ (by rw [if_neg hk12, if_pos hk3, hb1']; rfl))
  · exact hend (false, c + 1) hI rfl (hsc _ (by rw [if_neg hk12, if_neg hk3]))

theorem iTermValid_calls {t : T} {S : Store} {cs : List Value} (h : RdT S cs t) : Pure Try.prog n_i_TermValid [.agg cs.toArray] S (.bool (validB t)) := by
  intro w hI
  have hl := h.length
  refine calls_i_TermValid ?_
  unfold sh_i_TermValid
  refine r_box hI fun b1 w' hI => ?_
  refine r_alloc hI zo_int fun b2 w' hI => ?_
  refine r_store hI 1 (n := 1) rfl (by rw [sc_int]; rfl) rfl (Nat.le_of_ble_eq_true rfl) (by simp [Value.cells]; rfl) fun w' hI => ?_
  refine r_loadW hI 0 ag_iTerm rfl (by simpa [Value.cells] using hl) ?_
  refine Run.call (A := [_]) (I := [cntI b2 0]) fn_i_scan nm_i_scan hI (scan_calls t S cs 1 0 b2 h (by omega) (by omega) (by omega) (by omega)) fun v' I' S' w' => ?_
  rintro ⟨rfl, rfl, rfl⟩ _ hI
  exact done hI (by rw [scan_valid])

end Go.Proofs.Ytnoieadimkgjcaa

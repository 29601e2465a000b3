/- The laws' marks, read again. -/
import Derived.Test.YtnoieadimkgjcaaMarkC
namespace Go.Proofs.Ytnoieadimkgjcaa
open Go Go.RowKit

def HeldOk (ts : List T) : Prop := ∀ (S : Store) (v : Value) (k : Int), RdSl S 4 (RdT S) v (mkL ts k).1 → 0 ≤ k → k + 3 * cntL ts ≤ 4611686018427387904 →
  Pure Try.prog n_l_heldTermS [v, .int .i64 k] S (.int .i64 (mkL ts k).2)
section
attribute [local irreducible] Run CondV GuardV LoadV
theorem heldTermS_of {ts : List T} (ih : ∀ t ∈ ts, HeldOk t.kids) : HeldOk ts := by
  intro S v k h hk0 hk w hI
  have hlen := h.le
  have hml := mkL_len ts k
  simp only [maxLen] at hlen
  refine calls_l_heldTermS ?_
  unfold sh_l_heldTermS
  refine ⟨fun i m w' => ∃ (j : Nat) (m' : Int), j ≤ ts.length ∧ i = .int .i64 j ∧ m = .int .i64 m' ∧ (mkL ts k).1.drop j = (mkL (ts.drop j) m').1 ∧ (mkL (ts.drop j) m').2 = (mkL ts k).2 ∧ 0 ≤ m' ∧ m' + 3 * cntL (ts.drop j) ≤ 4611686018427387904 ∧ Inv w [] [] S w',
    fun i _ _ => ts.length - (intOf i).toNat, ⟨0, k, Nat.zero_le _, rfl, rfl, rfl, rfl, hk0, hk, hI⟩, ?_⟩
  intro t5 _ _ _ _ _ _ _ _ _ _ _ _ _ _ _ _ _ _ _ _ _ _ _ _ _ _ _ _ _ _ t1 _ _ _ _ _ _ _ _ _ _ _ _ _ _ w'
  rintro ⟨j, m, hj, rfl, rfl, hr1, hr2, hm0, hm, hI⟩
  refine r_lenSl h sl_SiTerm ?_
  refine r_lss ?_
  refine condP (fun hji => ?_) (fun hji => ?_)
  · have hj' : j < ts.length := by omega
    have hjm : j < (mkL ts k).1.length := by omega
    rw [mkL_drop ts m j hj'] at hr1 hr2
    rw [List.drop_eq_getElem_cons hjm, List.cons.injEq] at hr1
    obtain ⟨hel, hr1⟩ := hr1
    rw [mkT_eq] at hel hr1 hr2
    rw [cntL_split ts j hj'] at hm
    have hcn := cntL_pos (ts.drop (j + 1))
    have hcm : cntT ts[j] = 1 + cntL ts[j].kids := by
      cases ts[j]; rfl
    have hck := cntL_pos ts[j].kids
    have hke := mkL_end ts[j].kids (m + 3)
    obtain ⟨b, o, cap, c, E, fz, hv, hS, hR⟩ := h.at_ hjm
    rw [hel] at hR
    obtain ⟨kv, hcell, _, _, _, hkR⟩ := RdT.iff.1 hR
    subst hv
    have e0 : m + 1 + 1 = m + 2 := by omega
    have e1 : m + 2 + 1 = m + 3 := by omega
    refine r_indexAddr sl_SiTerm hjm ?_
    refine r_field fo_iTerm_0 ?_
    refine r_load sc_int (by rw [hI.cellS hS]; exact cellsAt_get hcell 0 _ rfl) ?_
    refine r_neq ?_
    refine condV (fun hb => by simp [T.kind] at hb) (fun _ => ?_)
    refine r_add (by omega) ?_
    refine r_indexAddr sl_SiTerm hjm ?_
    refine r_field fo_iTerm_1 ?_
    refine r_load sc_int (by rw [hI.cellS hS]; exact cellsAt_get hcell 1 _ rfl) ?_
    refine r_neq ?_
    refine condV (fun hb => by simp [T.n] at hb) (fun _ => ?_)
    refine r_add (by omega) ?_
    rw [e0]
    refine ⟨fun D x37 x36 x35 x34 x33 x32 x31 x30 w_ => (D 0 = true → x30 = .slice (some ⟨b, o, none⟩) (mkL ts k).1.length cap) ∧ (D 1 = true → x31 = .int .i64 j) ∧ (D 2 = true → x32 = .pointer (some ⟨b, o + j * 4, none⟩)) ∧ (D 3 = true → x33 = .pointer (some ⟨b, o + j * 4 + 2, none⟩)) ∧ (D 4 = true → x34 = .string (markS (m + 2))) ∧ (D 5 = true → x35 = .int .i64 (m + 2)) ∧ (D 6 = true → x36 = .string (markS (m + 2))) ∧ (D 7 = true → x37 = .bool false) ∧ Inv w [] [] S w_, ⟨fun h => Bool.noConfusion h, fun h => Bool.noConfusion h, fun h => Bool.noConfusion h, fun h => Bool.noConfusion h, fun h => Bool.noConfusion h, fun h => Bool.noConfusion h, fun h => Bool.noConfusion h, fun h => Bool.noConfusion h, hI.draw⟩, ⟨?_, ?_, ?_, ?_, ?_, ?_, ?_, ?_, trivial⟩, ?_⟩
    · intro D hD_  x37 x36 x35 x34 x33 x32 x31 x30 w_
      rintro ⟨h0_, h1_, h2_, h3_, h4_, h5_, h6_, h7_, hI⟩
      exact ⟨fun _ => rfl, h1_, h2_, h3_, h4_, h5_, h6_, h7_, hI⟩
    · intro D hD_  x37 x36 x35 x34 x33 x32 x31 x30 w_
      rintro ⟨h0_, h1_, h2_, h3_, h4_, h5_, h6_, h7_, hI⟩
      exact ⟨h0_, fun _ => rfl, h2_, h3_, h4_, h5_, h6_, h7_, hI⟩
    · intro D hD_ d0_0 d1_1 x37 x36 x35 x34 x33 x32 x31 x30 w_
      rintro ⟨h0_, h1_, h2_, h3_, h4_, h5_, h6_, h7_, hI⟩
      obtain rfl := h0_ d0_0
      obtain rfl := h1_ d1_1
      refine r_indexAddr sl_SiTerm hjm ?_
      exact ⟨h0_, h1_, fun _ => rfl, h3_, h4_, h5_, h6_, h7_, hI⟩
    · intro D hD_ d2_0 x37 x36 x35 x34 x33 x32 x31 x30 w_
      rintro ⟨h0_, h1_, h2_, h3_, h4_, h5_, h6_, h7_, hI⟩
      obtain rfl := h2_ d2_0
      refine r_field fo_iTerm_2 ?_
      exact ⟨h0_, h1_, h2_, fun _ => rfl, h4_, h5_, h6_, h7_, hI⟩
    · intro D hD_ d3_0 x37 x36 x35 x34 x33 x32 x31 x30 w_
      rintro ⟨h0_, h1_, h2_, h3_, h4_, h5_, h6_, h7_, hI⟩
      obtain rfl := h3_ d3_0
      refine r_load sc_string (by rw [hI.cellS hS]; exact cellsAt_get hcell 2 _ rfl) ?_
      exact ⟨h0_, h1_, h2_, h3_, fun _ => rfl, h5_, h6_, h7_, hI⟩
    · intro D hD_  x37 x36 x35 x34 x33 x32 x31 x30 w_
      rintro ⟨h0_, h1_, h2_, h3_, h4_, h5_, h6_, h7_, hI⟩
      exact ⟨h0_, h1_, h2_, h3_, h4_, fun _ => rfl, h6_, h7_, hI⟩
    · intro D hD_ d5_0 x37 x36 x35 x34 x33 x32 x31 x30 w_
      rintro ⟨h0_, h1_, h2_, h3_, h4_, h5_, h6_, h7_, hI⟩
      obtain rfl := h5_ d5_0
      refine Run.callPure fn_l_markText nm_l_markText hI (markText_calls _ S (by omega)) fun w_ hI => ?_
      exact ⟨h0_, h1_, h2_, h3_, h4_, h5_, fun _ => rfl, h7_, hI⟩
    · intro D hD_ d4_0 d6_1 x37 x36 x35 x34 x33 x32 x31 x30 w_
      rintro ⟨h0_, h1_, h2_, h3_, h4_, h5_, h6_, h7_, hI⟩
      obtain rfl := h4_ d4_0
      obtain rfl := h6_ d6_1
      refine r_sneq ?_; rw [decide_eq_true rfl]
      exact ⟨h0_, h1_, h2_, h3_, h4_, h5_, h6_, fun _ => rfl, hI⟩
    intro D d7_ d6_ d5_ d4_ d3_ d2_ d1_ d0_ x37 x36 x35 x34 x33 x32 x31 x30 w_
    rintro ⟨h0_, h1_, h2_, h3_, h4_, h5_, h6_, h7_, hI⟩
    obtain rfl := h7_ d7_
    obtain rfl := h6_ d6_
    obtain rfl := h5_ d5_
    obtain rfl := h4_ d4_
    obtain rfl := h3_ d3_
    obtain rfl := h2_ d2_
    obtain rfl := h1_ d1_
    obtain rfl := h0_ d0_
    clear h0_ h1_ h2_ h3_ h4_ h5_ h6_ h7_
    refine condV (fun hb => by cases hb) (fun _ => ?_)
    refine r_add (by omega) ?_
    rw [e1]
    refine r_indexAddr sl_SiTerm hjm ?_
    refine r_field fo_iTerm_3 ?_
    refine r_load sc_SiTerm (by rw [hI.cellS hS]; exact cellsAt_get hcell 3 _ rfl) ?_
    refine Run.callPure fn_l_heldTermS nm_l_heldTermS hI (ih _ (List.getElem_mem hj') S kv (m + 3) hkR (by omega) (by omega)) fun w' hI => ?_
    refine r_lss ?_
    refine condP (fun hb => by omega) (fun _ => ?_)
    refine r_add (by omega) ?_
    exact ⟨⟨j + 1, _, hj', rfl, rfl, hr1, hr2, by omega, by omega, hI⟩, by simp [intOf]; omega⟩
  · have : j = ts.length := by omega
    subst this
    rw [List.drop_length] at hr2
    exact done hI (by rw [← hr2, mkL])
theorem heldKids_ok : ∀ t : T, HeldOk t.kids := by
  refine T.ind fun k n s ks ih => ?_
  exact heldTermS_of ih
theorem heldTermS_ok (ts : List T) : HeldOk ts := heldTermS_of fun t _ => heldKids_ok t

theorem heldClauseS_ok {p : List C} {S : Store} {v : Value} {k : Int} (h : RdSl S 5 (RdC S) v (mkP p k).1) (hk0 : 0 ≤ k) (hk : k + 3 * cntP p ≤ 4611686018427387904) :
    Pure Try.prog n_l_heldClauseS [v, .int .i64 k] S (.int .i64 (mkP p k).2) := by
  intro w hI
  have hlen := h.le
  have hml := mkP_len p k
  simp only [maxLen] at hlen
  refine calls_l_heldClauseS ?_
  unfold sh_l_heldClauseS
  refine ⟨fun i m w' => ∃ (j : Nat) (m' : Int), j ≤ p.length ∧ i = .int .i64 j ∧ m = .int .i64 m' ∧ (mkP p k).1.drop j = (mkP (p.drop j) m').1 ∧ (mkP (p.drop j) m').2 = (mkP p k).2 ∧ 0 ≤ m' ∧ m' + 3 * cntP (p.drop j) ≤ 4611686018427387904 ∧ Inv w [] [] S w',
    fun i _ _ => p.length - (intOf i).toNat, ⟨0, k, Nat.zero_le _, rfl, rfl, rfl, rfl, hk0, hk, hI⟩, ?_⟩
  intro t5 _ _ _ _ _ _ _ _ _ _ _ _ _ _ _ _ _ _ _ _ _ _ _ _ _ _ _ _ _ _ _ _ _ _ _ _ _ _ _ _ _ _ t1 _ _ _ _ _ _ _ _ _ _ _ _ _ _ _ w'
  rintro ⟨j, m, hj, rfl, rfl, hr1, hr2, hm0, hm, hI⟩
  refine r_lenSl h sl_SiClause ?_
  refine r_lss ?_
  refine condP (fun hji => ?_) (fun hji => ?_)
  · have hj' : j < p.length := by omega
    have hjm : j < (mkP p k).1.length := by omega
    rw [mkP_drop p m j hj'] at hr1 hr2
    rw [List.drop_eq_getElem_cons hjm, List.cons.injEq] at hr1
    obtain ⟨hel, hr1⟩ := hr1
    have hce := mkC_end p[j] m
    rw [cntC_eq] at hce
    have hmc : mkC p[j] m = (⟨.mk m (m + 1) (markS (m + 2)) (mkL p[j].head.kids (m + 3)).1, (mkL p[j].body (mkL p[j].head.kids (m + 3)).2).1⟩, (mkL p[j].body (mkL p[j].head.kids (m + 3)).2).2) := rfl
    rw [cntP_split p j hj', cntC_eq] at hm
    have hcn := cntP_pos (p.drop (j + 1))
    have hck := cntL_pos p[j].head.kids
    have hcb := cntL_pos p[j].body
    have hke := mkL_end p[j].head.kids (m + 3)
    obtain ⟨b, o, cap, c, E, fz, hv, hS, hR⟩ := h.at_ hjm
    rw [hel, hmc] at hR
    obtain ⟨hd, ks, hcell, hh, hbR⟩ := hR
    obtain ⟨kv, rfl, _, _, _, hkR⟩ := RdT.iff.1 hh
    subst hv
    have e0 : m + 1 + 1 = m + 2 := by omega
    have e1 : m + 2 + 1 = m + 3 := by omega
    refine r_indexAddr sl_SiClause hjm ?_
    refine r_field fo_iClause_0 ?_
    refine r_field fo_iTerm_0 ?_
    refine r_load sc_int (by rw [hI.cellS hS]; exact cellsAt_get hcell 0 _ rfl) ?_
    refine r_neq ?_
    refine condV (fun hb => by simp [T.kind] at hb) (fun _ => ?_)
    refine r_add (by omega) ?_
    refine r_indexAddr sl_SiClause hjm ?_
    refine r_field fo_iClause_0 ?_
    refine r_field fo_iTerm_1 ?_
    refine r_load sc_int (by rw [hI.cellS hS]; exact cellsAt_get hcell 1 _ rfl) ?_
    refine r_neq ?_
    refine condV (fun hb => by simp [T.n] at hb) (fun _ => ?_)
    refine r_add (by omega) ?_
    rw [e0]
    refine ⟨fun D x40 x39 x38 x37 x36 x35 x34 x33 x32 w_ => (D 0 = true → x32 = .slice (some ⟨b, o, none⟩) (mkP p k).1.length cap) ∧ (D 1 = true → x33 = .int .i64 j) ∧ (D 2 = true → x34 = .pointer (some ⟨b, o + j * 5, none⟩)) ∧ (D 3 = true → x35 = .pointer (some ⟨b, o + j * 5, none⟩)) ∧ (D 4 = true → x36 = .pointer (some ⟨b, o + j * 5 + 2, none⟩)) ∧ (D 5 = true → x37 = .string (markS (m + 2))) ∧ (D 6 = true → x38 = .int .i64 (m + 2)) ∧ (D 7 = true → x39 = .string (markS (m + 2))) ∧ (D 8 = true → x40 = .bool false) ∧ Inv w [] [] S w_, ⟨fun h => Bool.noConfusion h, fun h => Bool.noConfusion h, fun h => Bool.noConfusion h, fun h => Bool.noConfusion h, fun h => Bool.noConfusion h, fun h => Bool.noConfusion h, fun h => Bool.noConfusion h, fun h => Bool.noConfusion h, fun h => Bool.noConfusion h, hI.draw⟩, ⟨?_, ?_, ?_, ?_, ?_, ?_, ?_, ?_, ?_, trivial⟩, ?_⟩
    · intro D hD_  x40 x39 x38 x37 x36 x35 x34 x33 x32 w_
      rintro ⟨h0_, h1_, h2_, h3_, h4_, h5_, h6_, h7_, h8_, hI⟩
      exact ⟨fun _ => rfl, h1_, h2_, h3_, h4_, h5_, h6_, h7_, h8_, hI⟩
    · intro D hD_  x40 x39 x38 x37 x36 x35 x34 x33 x32 w_
      rintro ⟨h0_, h1_, h2_, h3_, h4_, h5_, h6_, h7_, h8_, hI⟩
      exact ⟨h0_, fun _ => rfl, h2_, h3_, h4_, h5_, h6_, h7_, h8_, hI⟩
    · intro D hD_ d0_0 d1_1 x40 x39 x38 x37 x36 x35 x34 x33 x32 w_
      rintro ⟨h0_, h1_, h2_, h3_, h4_, h5_, h6_, h7_, h8_, hI⟩
      obtain rfl := h0_ d0_0
      obtain rfl := h1_ d1_1
      refine r_indexAddr sl_SiClause hjm ?_
      exact ⟨h0_, h1_, fun _ => rfl, h3_, h4_, h5_, h6_, h7_, h8_, hI⟩
    · intro D hD_ d2_0 x40 x39 x38 x37 x36 x35 x34 x33 x32 w_
      rintro ⟨h0_, h1_, h2_, h3_, h4_, h5_, h6_, h7_, h8_, hI⟩
      obtain rfl := h2_ d2_0
      refine r_field fo_iClause_0 ?_
      exact ⟨h0_, h1_, h2_, fun _ => rfl, h4_, h5_, h6_, h7_, h8_, hI⟩
    · intro D hD_ d3_0 x40 x39 x38 x37 x36 x35 x34 x33 x32 w_
      rintro ⟨h0_, h1_, h2_, h3_, h4_, h5_, h6_, h7_, h8_, hI⟩
      obtain rfl := h3_ d3_0
      refine r_field fo_iTerm_2 ?_
      exact ⟨h0_, h1_, h2_, h3_, fun _ => rfl, h5_, h6_, h7_, h8_, hI⟩
    · intro D hD_ d4_0 x40 x39 x38 x37 x36 x35 x34 x33 x32 w_
      rintro ⟨h0_, h1_, h2_, h3_, h4_, h5_, h6_, h7_, h8_, hI⟩
      obtain rfl := h4_ d4_0
      refine r_load sc_string (by rw [hI.cellS hS]; exact cellsAt_get hcell 2 _ rfl) ?_
      exact ⟨h0_, h1_, h2_, h3_, h4_, fun _ => rfl, h6_, h7_, h8_, hI⟩
    · intro D hD_  x40 x39 x38 x37 x36 x35 x34 x33 x32 w_
      rintro ⟨h0_, h1_, h2_, h3_, h4_, h5_, h6_, h7_, h8_, hI⟩
      exact ⟨h0_, h1_, h2_, h3_, h4_, h5_, fun _ => rfl, h7_, h8_, hI⟩
    · intro D hD_ d6_0 x40 x39 x38 x37 x36 x35 x34 x33 x32 w_
      rintro ⟨h0_, h1_, h2_, h3_, h4_, h5_, h6_, h7_, h8_, hI⟩
      obtain rfl := h6_ d6_0
      refine Run.callPure fn_l_markText nm_l_markText hI (markText_calls _ S (by omega)) fun w_ hI => ?_
      exact ⟨h0_, h1_, h2_, h3_, h4_, h5_, h6_, fun _ => rfl, h8_, hI⟩
    · intro D hD_ d5_0 d7_1 x40 x39 x38 x37 x36 x35 x34 x33 x32 w_
      rintro ⟨h0_, h1_, h2_, h3_, h4_, h5_, h6_, h7_, h8_, hI⟩
      obtain rfl := h5_ d5_0
      obtain rfl := h7_ d7_1
      refine r_sneq ?_; rw [decide_eq_true rfl]
      exact ⟨h0_, h1_, h2_, h3_, h4_, h5_, h6_, h7_, fun _ => rfl, hI⟩
    intro D d8_ d7_ d6_ d5_ d4_ d3_ d2_ d1_ d0_ x40 x39 x38 x37 x36 x35 x34 x33 x32 w_
    rintro ⟨h0_, h1_, h2_, h3_, h4_, h5_, h6_, h7_, h8_, hI⟩
    obtain rfl := h8_ d8_
    obtain rfl := h7_ d7_
    obtain rfl := h6_ d6_
    obtain rfl := h5_ d5_
    obtain rfl := h4_ d4_
    obtain rfl := h3_ d3_
    obtain rfl := h2_ d2_
    obtain rfl := h1_ d1_
    obtain rfl := h0_ d0_
    clear h0_ h1_ h2_ h3_ h4_ h5_ h6_ h7_ h8_
    refine condV (fun hb => by cases hb) (fun _ => ?_)
    refine r_add (by omega) ?_
    rw [e1]
    refine r_indexAddr sl_SiClause hjm ?_
    refine r_field fo_iClause_0 ?_
    refine r_field fo_iTerm_3 ?_
    refine r_load sc_SiTerm (by rw [hI.cellS hS]; exact cellsAt_get hcell 3 _ rfl) ?_
    refine Run.callPure fn_l_heldTermS nm_l_heldTermS hI (heldTermS_ok _ S kv (m + 3) hkR (by omega) (by omega)) fun w' hI => ?_
    refine r_lss ?_
    refine condP (fun hb => by omega) (fun _ => ?_)
    refine r_indexAddr sl_SiClause hjm ?_
    refine r_field fo_iClause_1 ?_
    refine r_load sc_SiTerm (by rw [hI.cellS hS]; exact cellsAt_get hcell 4 _ rfl) ?_
    refine Run.callPure fn_l_heldTermS nm_l_heldTermS hI (heldTermS_ok p[j].body S ks _ hbR (by omega) (by omega)) fun w' hI => ?_
    have hbe := mkL_end p[j].body (mkL p[j].head.kids (m + 3)).2
    refine r_lss ?_
    refine condP (fun hb => by omega) (fun _ => ?_)
    refine r_add (by omega) ?_
    exact ⟨⟨j + 1, (mkC p[j] m).2, hj', rfl, rfl, hr1, hr2, by omega, by omega, hI⟩, by simp [intOf]; omega⟩
  · have : j = p.length := by omega
    subst this
    rw [List.drop_length] at hr2
    exact done hI (by rw [← hr2, mkP])
end

end Go.Proofs.Ytnoieadimkgjcaa

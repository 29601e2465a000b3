/- impl.ownProgram; spec's copies. -/
import Derived.Test.YtgdibnmabnimaaaGreatZst2
import Derived.Lib.Overlaps
import Derived.Test.YtgdibnmabnimaaaGreatZst1
namespace Go.Proofs.YtgdibnmabnimaaaGreat
open Go Go.RowKit
theorem RdC.one {S : Store} {cs : List Value} {c : C} (h : RdC S cs c) : ∀ u ∈ cs, u.oneCell' = true := by
  obtain ⟨hd, ks, rfl, h1, a, cap, rfl, _⟩ := h
  intro u hu
  rcases List.mem_append.1 hu with hu | hu
  · exact h1.one u hu
  · simp at hu; subst hu; rfl
section
attribute [local irreducible] Run CondV GuardV LoadV
/- a row's value is a slice -/
theorem Inv.rowSlice {w0 w : World} {X : List Nat} {L : List Item} {S : Store} {v : Value} {e : TypeId} {k n : Nat} {xs : List Value} (h : Inv w0 X L S w) (i : Nat) (hi : L[i]? = some (.row v e k n xs)) : ∃ a m c, v = .slice a m c := by
  have hm : w.ownsRow 0 e k v n xs := h.its (.row v e k n xs) (List.mem_of_getElem? hi)
  rcases hm.2 with ⟨rfl, _⟩ | ⟨g, cap, cur, rfl, _⟩
  · exact ⟨_, _, _, rfl⟩
  · exact ⟨_, _, _, rfl⟩
def cpItems (B1 B2 B3 B3' r r' : Item) (rest : List Item) (M : Heaplet) (B27 : Item) (d7 d8 d9 d11 : Bool) : List Item :=
  B1 :: B2 :: (match d11 with | true => B3' | false => B3) :: (match d9 with | true => r' | false => r) :: (rest ++ ((match d7 with | true => blks M | false => []) ++ (match d8 with | true => [B27] | false => [])))

theorem l1Copy_calls : ∀ (t : T) (S : Store) (cs : List Value), RdT S cs t → wT t ≤ 1048576 → Tri Tryz.prog n_s_l1Copy [.agg cs.toArray] [] S (PostT S t) := by
  refine T.ind fun k n s ks ih S cs h hw => ?_
  intro w hI
  obtain ⟨kv, rfl, h1, h2, hs, hks⟩ := RdT.iff.1 h
  simp only [T.name, T.kids, T.kind, T.n] at h1 h2 hs hks ⊢
  simp only [wT] at hw
  refine calls_s_l1Copy ?_
  unfold sh_s_l1Copy
  refine r_box hI fun b1 w' hI => ?_
  refine r_alloc hI zo_iTerm fun b2 w' hI => ?_
  refine r_fieldL hI 0 rfl fo_iTerm_0 sc_int rfl ?_
  refine r_fieldL hI 0 rfl fo_iTerm_1 sc_int rfl ?_
  refine r_fieldL hI 0 rfl fo_iTerm_2 sc_string rfl ?_
  refine r_buildTerm ?_
  refine r_alloc hI zo_iTerm fun b3 w' hI => ?_
  refine r_storeW hI 2 rfl ag_iTerm rfl rfl (by simp [Value.oneCell']) fun w' hI => ?_
  have hI := hI.rowNil t_iTerm 4
  refine ⟨fun i w' => ∃ (j : Nat) (kvc : Value) (Ls : List Heaplet) (css : List (List Value)), j ≤ ks.length ∧ i = .int .i64 j ∧ Grown 4 TrT Ls css (ks.take j) ∧
      Inv w [] (.blk b1 (.cells #[.int .i64 k, .int .i64 n, .string s, kv] t_iTerm) :: .blk b2 (.cells #[.int .i64 0, .int .i64 0, .string ⟨#[]⟩, .slice none 0 0] t_iTerm) :: .blk b3 (.cells #[.int .i64 k, .int .i64 n, .string s, kvc] t_iTerm) :: rowG kvc t_iTerm 4 css :: blks Ls.flatten) S w',
    fun i _ => ks.length - (intOf i).toNat, ⟨0, _, [], [], Nat.zero_le _, rfl, Grown.nil _ _, hI⟩, ?_⟩
  intro t4 _ _ _ _ _ _ _ _ _ _ _ _ _ _ _ _ _ _ w'
  rintro ⟨j, kvc, Ls, css, hj, rfl, hg, hI⟩
  refine r_fieldL hI 0 rfl fo_iTerm_3 sc_SiTerm rfl ?_
  refine r_lenSl hks sl_SiTerm ?_
  refine r_lss ?_
  refine condP (fun hji => ?_) (fun hji => ?_)
  · have hj' : j < ks.length := by omega
    have hjl : (ks.take j).length = j := by simp; omega
    have hcl := hg.hc
    have hm := List.getElem_mem hj'
    have hwm := wL_mem hm
    obtain ⟨b, o, cap, c, E, fz, rfl, hS, hR⟩ := hks.at_ hj'
    refine ⟨fun D x29 x28 x27 x26 x25 x24 x23 x22 x21 x20 x19 w_ => (D 0 = true → x19 = .pointer (some ⟨b3, 3, none⟩)) ∧ (D 1 = true → x20 = kvc) ∧ (D 2 = true → x21 = .pointer (some ⟨b1, 3, none⟩)) ∧ (D 3 = true → x22 = .slice (some ⟨b, o, none⟩) (ks).length cap) ∧ (D 4 = true → x23 = .int .i64 j) ∧ (D 5 = true → x24 = .pointer (some ⟨b, o + j * 4, none⟩)) ∧ (D 6 = true → x25 = .agg (cellsAt c (o + j * 4) 4).toArray) ∧ (D 7 = true → True) ∧ (D 8 = true → True) ∧ (D 9 = true → True) ∧ (D 10 = true → x29 = .pointer (some ⟨b3, 3, none⟩)) ∧ (D 11 = true → True) ∧ ∃ M cs7 b8, (D 7 = true → x26 = .agg cs7.toArray ∧ TrT M cs7 (ks)[j]) ∧ (D 8 = true → x27 = .slice (some ⟨b8, 0, none⟩) 1 1) ∧ (D 8 = true → D 7 = true) ∧ (D 9 = true → D 8 = true) ∧ (D 11 = true → D 9 = true) ∧ (D 11 = true → D 1 = true) ∧ Inv w [] (cpItems (.blk b1 (.cells #[.int .i64 k, .int .i64 n, .string s, .slice (some ⟨b, o, none⟩) ks.length cap] t_iTerm)) (.blk b2 (.cells #[.int .i64 0, .int .i64 0, .string ⟨#[]⟩, .slice none 0 0] t_iTerm)) (.blk b3 (.cells #[.int .i64 k, .int .i64 n, .string s, kvc] t_iTerm)) (.blk b3 (.cells #[.int .i64 k, .int .i64 n, .string s, x28] t_iTerm)) (rowG kvc t_iTerm 4 css) (rowG x28 t_iTerm 4 (css ++ [cs7])) (blks Ls.flatten) M (.blk b8 (.cells cs7.toArray t_iTerm)) (D 7) (D 8) (D 9) (D 11)) S w_, ⟨fun h => Bool.noConfusion h, fun h => Bool.noConfusion h, fun h => Bool.noConfusion h, fun h => Bool.noConfusion h, fun h => Bool.noConfusion h, fun h => Bool.noConfusion h, fun h => Bool.noConfusion h, fun h => Bool.noConfusion h, fun h => Bool.noConfusion h, fun h => Bool.noConfusion h, fun h => Bool.noConfusion h, fun h => Bool.noConfusion h, ⟨[], [], 0, fun h => Bool.noConfusion h, fun h => Bool.noConfusion h, fun h => Bool.noConfusion h, fun h => Bool.noConfusion h, fun h => Bool.noConfusion h, fun h => Bool.noConfusion h, by simpa [cpItems, blks] using hI.draw⟩⟩, ⟨?_, ?_, ?_, ?_, ?_, ?_, ?_, ?_, ?_, ?_, ?_, ?_, trivial⟩, ?_⟩
    · intro D hD_  x29 x28 x27 x26 x25 x24 x23 x22 x21 x20 x19 w_
      rintro ⟨h0_, h1_, h2_, h3_, h4_, h5_, h6_, h7_, h8_, h9_, h10_, h11_, ⟨M, cs7, b8, e7, e8, k8, k9, k11, k1, hI⟩⟩
      refine r_field fo_iTerm_3 ?_
      exact ⟨fun _ => rfl, h1_, h2_, h3_, h4_, h5_, h6_, h7_, h8_, h9_, h10_, h11_, ⟨M, cs7, b8, e7, e8, k8, k9, k11, k1, hI⟩⟩
    · intro D hD_ d0_0 x29 x28 x27 x26 x25 x24 x23 x22 x21 x20 x19 w_
      rintro ⟨h0_, h1_, h2_, h3_, h4_, h5_, h6_, h7_, h8_, h9_, h10_, h11_, ⟨M, cs7, b8, e7, e8, k8, k9, k11, k1, hI⟩⟩
      obtain rfl := h0_ d0_0
      have f11 : D 11 = false := Bool.eq_false_iff.2 fun h => by rw [k1 h] at hD_; cases hD_
      refine r_loadL (b := b3) hI 2 (c := (#[.int .i64 k, .int .i64 n, .string s, kvc])) sc_SiTerm (by rw [f11]; rfl) rfl ?_
      have k1 := fun (_ : setD D 1 11 = true) => (rfl : setD D 1 1 = true)
      exact ⟨h0_, fun _ => rfl, h2_, h3_, h4_, h5_, h6_, h7_, h8_, h9_, h10_, h11_, ⟨M, cs7, b8, e7, e8, k8, k9, k11, k1, hI⟩⟩
    · intro D hD_  x29 x28 x27 x26 x25 x24 x23 x22 x21 x20 x19 w_
      rintro ⟨h0_, h1_, h2_, h3_, h4_, h5_, h6_, h7_, h8_, h9_, h10_, h11_, ⟨M, cs7, b8, e7, e8, k8, k9, k11, k1, hI⟩⟩
      refine r_field fo_iTerm_3 ?_
      exact ⟨h0_, h1_, fun _ => rfl, h3_, h4_, h5_, h6_, h7_, h8_, h9_, h10_, h11_, ⟨M, cs7, b8, e7, e8, k8, k9, k11, k1, hI⟩⟩
    · intro D hD_ d2_0 x29 x28 x27 x26 x25 x24 x23 x22 x21 x20 x19 w_
      rintro ⟨h0_, h1_, h2_, h3_, h4_, h5_, h6_, h7_, h8_, h9_, h10_, h11_, ⟨M, cs7, b8, e7, e8, k8, k9, k11, k1, hI⟩⟩
      obtain rfl := h2_ d2_0
      refine r_loadL hI 0 sc_SiTerm rfl rfl ?_
      exact ⟨h0_, h1_, h2_, fun _ => rfl, h4_, h5_, h6_, h7_, h8_, h9_, h10_, h11_, ⟨M, cs7, b8, e7, e8, k8, k9, k11, k1, hI⟩⟩
    · intro D hD_  x29 x28 x27 x26 x25 x24 x23 x22 x21 x20 x19 w_
      rintro ⟨h0_, h1_, h2_, h3_, h4_, h5_, h6_, h7_, h8_, h9_, h10_, h11_, ⟨M, cs7, b8, e7, e8, k8, k9, k11, k1, hI⟩⟩
      exact ⟨h0_, h1_, h2_, h3_, fun _ => rfl, h5_, h6_, h7_, h8_, h9_, h10_, h11_, ⟨M, cs7, b8, e7, e8, k8, k9, k11, k1, hI⟩⟩
    · intro D hD_ d3_0 d4_1 x29 x28 x27 x26 x25 x24 x23 x22 x21 x20 x19 w_
      rintro ⟨h0_, h1_, h2_, h3_, h4_, h5_, h6_, h7_, h8_, h9_, h10_, h11_, ⟨M, cs7, b8, e7, e8, k8, k9, k11, k1, hI⟩⟩
      obtain rfl := h3_ d3_0
      obtain rfl := h4_ d4_1
      refine r_indexAddr sl_SiTerm hj' ?_
      exact ⟨h0_, h1_, h2_, h3_, h4_, fun _ => rfl, h6_, h7_, h8_, h9_, h10_, h11_, ⟨M, cs7, b8, e7, e8, k8, k9, k11, k1, hI⟩⟩
    · intro D hD_ d5_0 x29 x28 x27 x26 x25 x24 x23 x22 x21 x20 x19 w_
      rintro ⟨h0_, h1_, h2_, h3_, h4_, h5_, h6_, h7_, h8_, h9_, h10_, h11_, ⟨M, cs7, b8, e7, e8, k8, k9, k11, k1, hI⟩⟩
      obtain rfl := h5_ d5_0
      refine r_loadA ag_iTerm hR.length (fun j v hj => by rw [hI.cellS hS]; exact cellsAt_get rfl j v hj) ?_
      exact ⟨h0_, h1_, h2_, h3_, h4_, h5_, fun _ => rfl, h7_, h8_, h9_, h10_, h11_, ⟨M, cs7, b8, e7, e8, k8, k9, k11, k1, hI⟩⟩
    · intro D hD_ d6_0 x29 x28 x27 x26 x25 x24 x23 x22 x21 x20 x19 w_
      rintro ⟨h0_, h1_, h2_, h3_, h4_, h5_, h6_, h7_, h8_, h9_, h10_, h11_, ⟨M, cs7, b8, e7, e8, k8, k9, k11, k1, hI⟩⟩
      obtain rfl := h6_ d6_0
      have f8 : D 8 = false := Bool.eq_false_iff.2 fun h => by rw [k8 h] at hD_; cases hD_
      have f9 : D 9 = false := Bool.eq_false_iff.2 fun h => by rw [k9 h] at f8; cases f8
      have f11 : D 11 = false := Bool.eq_false_iff.2 fun h => by rw [k11 h] at f9; cases f9
      rw [hD_, f8, f9, f11] at hI
      refine Run.call0 fn_s_l1Copy nm_s_l1Copy hI (ih _ (List.getElem_mem hj') S _ hR (by omega)) fun v' I' S w_ => ?_
      rintro ⟨rfl, cs7, M, rfl, rfl, hT⟩ _ hI
      have e7 : setD D 7 7 = true → Value.agg cs7.toArray = Value.agg cs7.toArray ∧ TrT M cs7 (ks)[j] := fun _ => ⟨rfl, hT⟩
      have k8 := fun (_ : setD D 7 8 = true) => (rfl : setD D 7 7 = true)
      have hI : Inv w [] (cpItems (.blk b1 (.cells #[.int .i64 k, .int .i64 n, .string s, .slice (some ⟨b, o, none⟩) ks.length cap] t_iTerm)) (.blk b2 (.cells #[.int .i64 0, .int .i64 0, .string ⟨#[]⟩, .slice none 0 0] t_iTerm)) (.blk b3 (.cells #[.int .i64 k, .int .i64 n, .string s, kvc] t_iTerm)) (.blk b3 (.cells #[.int .i64 k, .int .i64 n, .string s, x28] t_iTerm)) (rowG kvc t_iTerm 4 css) (rowG x28 t_iTerm 4 (css ++ [cs7])) (blks Ls.flatten) M (.blk b8 (.cells cs7.toArray t_iTerm)) true (D 8) (D 9) (D 11)) S w_ := by
        rw [f8, f9, f11]
        simpa [cpItems] using hI
      exact ⟨h0_, h1_, h2_, h3_, h4_, h5_, h6_, fun _ => by first | assumption | trivial, h8_, h9_, h10_, h11_, ⟨M, cs7, b8, e7, e8, k8, k9, k11, k1, hI⟩⟩
    · intro D hD_ d7_0 x29 x28 x27 x26 x25 x24 x23 x22 x21 x20 x19 w_
      rintro ⟨h0_, h1_, h2_, h3_, h4_, h5_, h6_, h7_, h8_, h9_, h10_, h11_, ⟨M, cs7, b8, e7, e8, k8, k9, k11, k1, hI⟩⟩
      have g7_ := h7_ d7_0
      have f9 : D 9 = false := Bool.eq_false_iff.2 fun h => by rw [k9 h] at hD_; cases hD_
      have f11 : D 11 = false := Bool.eq_false_iff.2 fun h => by rw [k11 h] at f9; cases f9
      obtain ⟨q7, hT⟩ := e7 d7_0
      subst q7
      rw [d7_0, hD_, f9, f11] at hI
      refine r_slice1 hI mk_SiTerm (by simp [Value.cells, hT.length]) (by omega) (by omega) fun b8 w_ hI => ?_
      have e7 : setD D 8 7 = true → Value.agg cs7.toArray = Value.agg cs7.toArray ∧ TrT M cs7 (ks)[j] := fun _ => ⟨rfl, hT⟩
      have e8 := fun (_ : setD D 8 8 = true) => (rfl : Value.slice (some ⟨b8, 0, none⟩) 1 1 = _)
      have k8 := fun (_ : setD D 8 8 = true) => d7_0
      have k9 := fun (_ : setD D 8 9 = true) => (rfl : setD D 8 8 = true)
      have hI : Inv w [] (cpItems (.blk b1 (.cells #[.int .i64 k, .int .i64 n, .string s, .slice (some ⟨b, o, none⟩) ks.length cap] t_iTerm)) (.blk b2 (.cells #[.int .i64 0, .int .i64 0, .string ⟨#[]⟩, .slice none 0 0] t_iTerm)) (.blk b3 (.cells #[.int .i64 k, .int .i64 n, .string s, kvc] t_iTerm)) (.blk b3 (.cells #[.int .i64 k, .int .i64 n, .string s, x28] t_iTerm)) (rowG kvc t_iTerm 4 css) (rowG x28 t_iTerm 4 (css ++ [cs7])) (blks Ls.flatten) M (.blk b8 (.cells cs7.toArray t_iTerm)) (D 7) true (D 9) (D 11)) S w_ := by
        rw [d7_0, f9, f11]
        simpa [cpItems, Value.cells] using hI
      exact ⟨h0_, h1_, h2_, h3_, h4_, h5_, h6_, h7_, fun _ => by first | assumption | trivial, h9_, h10_, h11_, ⟨M, cs7, b8, e7, e8, k8, k9, k11, k1, hI⟩⟩
    · intro D hD_ d1_0 d8_1 d7_2 x29 x28 x27 x26 x25 x24 x23 x22 x21 x20 x19 w_
      rintro ⟨h0_, h1_, h2_, h3_, h4_, h5_, h6_, h7_, h8_, h9_, h10_, h11_, ⟨M, cs7, b8, e7, e8, k8, k9, k11, k1, hI⟩⟩
      obtain rfl := h1_ d1_0
      have g8_ := h8_ d8_1
      have f11 : D 11 = false := Bool.eq_false_iff.2 fun h => by rw [k11 h] at hD_; cases hD_
      have q8 := e8 d8_1
      subst q8
      obtain ⟨_, hT⟩ := e7 d7_2
      rw [d7_2, d8_1, hD_, f11] at hI
      have hblk : ((cpItems (.blk b1 (.cells #[.int .i64 k, .int .i64 n, .string s, .slice (some ⟨b, o, none⟩) ks.length cap] t_iTerm)) (.blk b2 (.cells #[.int .i64 0, .int .i64 0, .string ⟨#[]⟩, .slice none 0 0] t_iTerm)) (.blk b3 (.cells #[.int .i64 k, .int .i64 n, .string s, x20] t_iTerm)) (.blk b3 (.cells #[.int .i64 k, .int .i64 n, .string s, x28] t_iTerm)) (rowG x20 t_iTerm 4 css) (rowG x28 t_iTerm 4 (css ++ [cs7])) (blks Ls.flatten) M (.blk b8 (.cells cs7.toArray t_iTerm)) true true false false))[4 + (blks Ls.flatten).length + (blks M).length]? = some (.blk b8 (.cells cs7.toArray t_iTerm)) := by
        have e4 : 4 + (blks Ls.flatten).length + (blks M).length = ((blks Ls.flatten).length + (blks M).length) + 1 + 1 + 1 + 1 := by omega
        rw [e4]
        simp only [cpItems, List.getElem?_cons_succ]
        rw [List.getElem?_append_right (by omega), Nat.add_sub_cancel_left, List.getElem?_append_right (Nat.le_refl _), Nat.sub_self]; rfl
      refine r_append hI 3 cs7 mk_SiTerm (by omega) rfl (by rw [hT.length]) (m := 1) (o := 0) ?_ hT.one (by omega) (by omega) fun v' w_ hI => ?_
      · intro i u hi
        rw [hI.cellL hblk, Nat.zero_add]
        simpa using hi
      rw [rowG_snoc] at hI
      have k9 := fun (_ : setD D 9 9 = true) => d8_1
      have k11 := fun (_ : setD D 9 11 = true) => (rfl : setD D 9 9 = true)
      have hI : Inv w [] (cpItems (.blk b1 (.cells #[.int .i64 k, .int .i64 n, .string s, .slice (some ⟨b, o, none⟩) ks.length cap] t_iTerm)) (.blk b2 (.cells #[.int .i64 0, .int .i64 0, .string ⟨#[]⟩, .slice none 0 0] t_iTerm)) (.blk b3 (.cells #[.int .i64 k, .int .i64 n, .string s, x20] t_iTerm)) (.blk b3 (.cells #[.int .i64 k, .int .i64 n, .string s, v'] t_iTerm)) (rowG x20 t_iTerm 4 css) (rowG v' t_iTerm 4 (css ++ [cs7])) (blks Ls.flatten) M (.blk b8 (.cells cs7.toArray t_iTerm)) (D 7) (D 8) true (D 11)) S w_ := by
        rw [d7_2, d8_1, f11]
        exact hI
      exact ⟨h0_, h1_, h2_, h3_, h4_, h5_, h6_, h7_, h8_, fun _ => by first | assumption | trivial, h10_, h11_, ⟨M, cs7, b8, e7, e8, k8, k9, k11, k1, hI⟩⟩
    · intro D hD_ d0_0 d1_1 d2_2 d3_3 d4_4 d5_5 d6_6 d7_7 d8_8 d9_9 x29 x28 x27 x26 x25 x24 x23 x22 x21 x20 x19 w_
      rintro ⟨h0_, h1_, h2_, h3_, h4_, h5_, h6_, h7_, h8_, h9_, h10_, h11_, ⟨M, cs7, b8, e7, e8, k8, k9, k11, k1, hI⟩⟩
      refine r_field fo_iTerm_3 ?_
      exact ⟨h0_, h1_, h2_, h3_, h4_, h5_, h6_, h7_, h8_, h9_, fun _ => rfl, h11_, ⟨M, cs7, b8, e7, e8, k8, k9, k11, k1, hI⟩⟩
    · intro D hD_ d10_0 d9_1 d9_2 d0_3 d1_4 d2_5 d3_6 d4_7 d5_8 d6_9 d7_10 d8_11 d9_12 x29 x28 x27 x26 x25 x24 x23 x22 x21 x20 x19 w_
      rintro ⟨h0_, h1_, h2_, h3_, h4_, h5_, h6_, h7_, h8_, h9_, h10_, h11_, ⟨M, cs7, b8, e7, e8, k8, k9, k11, k1, hI⟩⟩
      obtain rfl := h10_ d10_0
      have g9_ := h9_ d9_1
      rw [d7_10, d8_11, d9_1, hD_] at hI
      obtain ⟨va, vn, vc, hv9⟩ := Inv.rowSlice hI 3 rfl
      refine r_store hI 2 (n := 1) (by rw [hv9]; rfl) (by decide +kernel) rfl (by simp) (by rw [hv9]; simp [Value.cells, Value.oneCell']) fun w_ hI => ?_
      have hcl9 : Value.cells x28 = #[x28] := by rw [hv9]; rfl
      rw [hcl9] at hI
      have k1 := fun (_ : setD D 11 11 = true) => d1_4
      have k11 := fun (_ : setD D 11 11 = true) => d9_1
      have hI : Inv w [] (cpItems (.blk b1 (.cells #[.int .i64 k, .int .i64 n, .string s, .slice (some ⟨b, o, none⟩) ks.length cap] t_iTerm)) (.blk b2 (.cells #[.int .i64 0, .int .i64 0, .string ⟨#[]⟩, .slice none 0 0] t_iTerm)) (.blk b3 (.cells #[.int .i64 k, .int .i64 n, .string s, kvc] t_iTerm)) (.blk b3 (.cells #[.int .i64 k, .int .i64 n, .string s, x28] t_iTerm)) (rowG kvc t_iTerm 4 css) (rowG x28 t_iTerm 4 (css ++ [cs7])) (blks Ls.flatten) M (.blk b8 (.cells cs7.toArray t_iTerm)) (D 7) (D 8) (D 9) true) S w_ := by
        rw [d7_10, d8_11, d9_1]
        exact hI
      exact ⟨h0_, h1_, h2_, h3_, h4_, h5_, h6_, h7_, h8_, h9_, h10_, fun _ => trivial, ⟨M, cs7, b8, e7, e8, k8, k9, k11, k1, hI⟩⟩
    intro D d11_ d10_ d9_ d8_ d7_ d6_ d5_ d4_ d3_ d2_ d1_ d0_ x29 x28 x27 x26 x25 x24 x23 x22 x21 x20 x19 w_
    rintro ⟨h0_, h1_, h2_, h3_, h4_, h5_, h6_, h7_, h8_, h9_, h10_, h11_, ⟨M, cs7, b8, e7, e8, k8, k9, k11, k1, hI⟩⟩
    obtain rfl := h10_ d10_
    have g9_ := h9_ d9_
    have g8_ := h8_ d8_
    have g7_ := h7_ d7_
    obtain rfl := h6_ d6_
    obtain rfl := h5_ d5_
    obtain rfl := h4_ d4_
    obtain rfl := h3_ d3_
    obtain rfl := h2_ d2_
    obtain rfl := h1_ d1_
    obtain rfl := h0_ d0_
    clear h0_ h1_ h2_ h3_ h4_ h5_ h6_ h7_ h8_ h9_ h10_ h11_
    obtain ⟨_, hT⟩ := e7 d7_
    rw [d7_, d8_, d9_, d11_] at hI
    refine r_add (by omega) ?_
    refine ⟨⟨j + 1, x28, Ls ++ [M], css ++ [cs7], hj', rfl, ?_, ?_⟩, by simp [intOf]; omega⟩
    · rw [List.take_succ_eq_append_getElem hj']
      exact hg.snoc hT hT.length
    · simp only [List.flatten_append, List.flatten_cons, List.flatten_nil, List.append_nil, blks_append]
      refine hI.sub ?_
      simp only [cpItems]
      rw [← List.append_assoc]
      exact (((List.sublist_append_left _ _).cons_cons _).cons_cons _).cons_cons _ |>.cons_cons _
  · have : j = ks.length := by omega
    subst this
    rw [List.take_length] at hg
    obtain ⟨va, vn, vc, hvk⟩ := hI.rowSlice 3 rfl
    have hv1 : kvc.oneCell' = true := by rw [hvk]; rfl
    refine r_loadW hI 2 ag_iTerm rfl rfl ?_
    refine r_storeW hI 1 rfl ag_iTerm rfl rfl ?_ fun w' hI => ?_
    · intro u hu
      have hu' : u ∈ ([.int .i64 k, .int .i64 n, .string s, kvc] : List Value) := hu
      simp at hu'
      rcases hu' with rfl | rfl | rfl | rfl <;> first | rfl | exact hv1
    refine loadV_W hI 1 ag_iTerm rfl rfl ?_
    have hI : Inv w [] ([] ++ (rowG kvc t_iTerm 4 css :: blks Ls.flatten)) S w' := hI.sub (List.sublist_append_right [_, _, _] _)
    obtain ⟨L, hT, hI⟩ := Inv.rowTree hI hg
    exact ⟨_, _, _, rfl, hI, Ext.refl _ _ _, rfl, _, L, rfl, rfl, TrT.iff.2 ⟨kvc, rfl, h1, h2, hs, hT⟩⟩
end

end Go.Proofs.YtgdibnmabnimaaaGreat

/- spec.l4Copy, spec.l14Copy: clauses and programs copied. -/
namespace Go.Proofs.YtgdibnmabnimaaaGreat
open Go Go.RowKit
section
attribute [local irreducible] Run CondV GuardV LoadV
end

end Go.Proofs.YtgdibnmabnimaaaGreat

/- append of a whole slice that is only read to a row of the function's own. -/
namespace Go.Proofs.YtgdibnmabnimaaaGreat
open Go Go.RowKit
section
variable {P : Program} {w w0 : World} {X : List Nat} {L : List Item} {S : Store} {K : Value → World → Prop}
theorem r_append0 (h : Inv w0 X L S w) {T ty e : TypeId} {k by_ n cp : Nat} {z v : Value} {cs : List Bool} {xs : List Value} {a : Option Addr} (i : Nat)
    (hT : mkOf P T = some (e, k, by_, z)) (hi : L[i]? = some (.row v e k n xs)) (hk : K v w) :
    Run P (sBuiltin .append #[T, T] ty cs [v, .slice a 0 cp]) w K := by
  obtain ⟨hu, inf, hi', hz, hs, hb, hzs⟩ := mkOf_some hT
  have hown := h.its _ (List.mem_of_getElem? hi)
  simp only [Item.holds] at hown
  refine Run.of (v := v) (w' := w) ?_ hk
  rcases hown.2 with ⟨rfl, rfl⟩ | ⟨g, cap, cur, rfl, _, hg, hnc, hcm, hcs, ht⟩
  · cases a <;> simp [sBuiltin, builtin, Builtin.append_, run_underlying hu, sizeOf, typeInfo, hi', Builtin.lenOf, Builtin.firstCells, loadCells, loadCellsFrom]
  · cases a <;> simp [sBuiltin, builtin, Builtin.append_, run_underlying hu, sizeOf, typeInfo, hi', storeCells, hnc, Builtin.lenOf, Builtin.firstCells, loadCells, loadCellsFrom]
theorem r_appendSl {α : Type} {R : List Value → α → Prop} (h : Inv w0 X L S w) {T ty e : TypeId} {k by_ n : Nat} {z v u : Value} {cs : List Bool} {xs : List Value} {ys : List α} {f : α → List Value} (i : Nat)
    (hT : mkOf P T = some (e, k, by_, z)) (hk0 : 0 < k) (hi : L[i]? = some (.row v e k n xs)) (hr : RdSl S k R u ys) (hR : ∀ cs y, R cs y → cs = f y) (hf : ∀ y, (f y).length = k) (h1 : ∀ y, ∀ c ∈ f y, c.oneCell' = true)
    (hfit : n + ys.length ≤ 4294967296) (hby : by_ ≤ 32768)
    (hk : ∀ v' w', Inv w0 X (L.set i (.row v' e k (n + ys.length) (xs ++ ys.flatMap f))) S w' → K v' w') :
    Run P (sBuiltin .append #[T, T] ty cs [v, u]) w K := by
  obtain ⟨a, cap, rfl, hl, hc, hx⟩ := hr
  rcases hx with rfl | ⟨b, o, c, E, fz, rfl, hS, hel⟩
  · refine r_append0 h i hT hi (hk v w ?_)
    have : L.set i (.row v e k (n + ([] : List α).length) (xs ++ ([] : List α).flatMap f)) = L := by
      simp only [List.length_nil, Nat.add_zero, List.flatMap_nil, List.append_nil]
      obtain ⟨hlt, e'⟩ := List.getElem?_eq_some_iff.1 hi
      rw [← e', List.set_getElem_self]
    rw [this]
    exact h
  · refine r_append h i (ys.flatMap f) hT hk0 hi (flat_len f k hf ys) ?_ ?_ hfit hby hk
    · intro j v' hj
      have hj' : j < ys.length * k := by
        rw [← flat_len f k hf ys]
        exact (List.getElem?_eq_some_iff.1 hj).1
      have hq : j / k < ys.length := (Nat.div_lt_iff_lt_mul hk0).2 hj'
      have hcell := hR _ _ (hel (j / k) hq)
      have hflat := flat_at f k hf ys (j / k) hq
      rw [h.cellS hS]
      have e1 : (ys.flatMap f)[j]? = (f ys[j / k])[j % k]? := by
        rw [← hflat, List.getElem?_take, if_pos (Nat.mod_lt _ hk0), List.getElem?_drop]
        congr 1
        have := Nat.div_add_mod j k
        rw [Nat.mul_comm] at this
        omega
      rw [e1] at hj
      have := cellsAt_get hcell (j % k) v' hj
      rw [← this]
      congr 1
      have := Nat.div_add_mod j k
      rw [Nat.mul_comm] at this
      omega
    · intro c' hc'
      obtain ⟨y, _, hy⟩ := List.mem_flatMap.1 hc'
      exact h1 y c' hy
end

end Go.Proofs.YtgdibnmabnimaaaGreat

/- Rows of clauses that are only read: grown, joined, copied. -/
namespace Go.Proofs.YtgdibnmabnimaaaGreat
open Go Go.RowKit

structure Rows {α : Type} (k : Nat) (R : List Value → α → Prop) (css : List (List Value)) (ys : List α) : Prop where
  hc : css.length = ys.length
  hk : ∀ cs ∈ css, cs.length = k
  hR : ∀ i (h : i < ys.length) (h1 : i < css.length), R css[i] ys[i]
theorem Rows.nil {α : Type} (k : Nat) (R : List Value → α → Prop) : Rows k R [] ([] : List α) := ⟨rfl, by simp, fun i h => by simp at h⟩
theorem Rows.snoc {α : Type} {k : Nat} {R : List Value → α → Prop} {css : List (List Value)} {ys : List α} (h : Rows k R css ys) {cs : List Value} {y : α} (hR : R cs y) (hl : cs.length = k) : Rows k R (css ++ [cs]) (ys ++ [y]) := by
  refine ⟨by simp [h.hc], fun c hc => ?_, fun i h0 h2 => ?_⟩
  · rcases List.mem_append.1 hc with hc | hc
    · exact h.hk c hc
    · simp at hc; subst hc; exact hl
  · have e2 := h.hc
    by_cases hi : i < ys.length
    · rw [List.getElem_append_left (by omega), List.getElem_append_left hi]
      exact h.hR i hi (by omega)
    · have : i = ys.length := by simp at h0; omega
      subst this
      rw [List.getElem_append_right (by omega), List.getElem_append_right (by omega)]
      simp only [e2, Nat.sub_self, List.getElem_cons_zero]
      exact hR
theorem Rows.append {α : Type} {k : Nat} {R : List Value → α → Prop} {css css' : List (List Value)} {ys ys' : List α} (h : Rows k R css ys) (h' : Rows k R css' ys') : Rows k R (css ++ css') (ys ++ ys') := by
  have e := h.hc
  have e' := h'.hc
  refine ⟨by simp [e, e'], fun c hc => ?_, fun i h0 h2 => ?_⟩
  · rcases List.mem_append.1 hc with hc | hc
    · exact h.hk c hc
    · exact h'.hk c hc
  · by_cases hi : i < ys.length
    · rw [List.getElem_append_left (by omega), List.getElem_append_left hi]
      exact h.hR i hi (by omega)
    · have hi' : i - css.length < ys'.length := by simp at h0; omega
      rw [List.getElem_append_right (by omega), List.getElem_append_right (by omega)]
      have := h'.hR (i - css.length) hi' (by omega)
      simpa only [e] using this
theorem RowRd.rows {α : Type} {S : Store} {v : Value} {e : TypeId} {k : Nat} {R : List Value → α → Prop} {css : List (List Value)} {ys : List α} (hr : Rows k R css ys) (h : RowRd S v e k css.length css.flatten) : RdSl S k R v ys := by
  obtain ⟨hl, h⟩ := h
  have hcy := hr.hc
  rcases h with ⟨rfl, h0⟩ | ⟨g, cap, cur, rfl, hS, hnc, hcm, hcs, ht⟩
  · have : ys = [] := List.eq_nil_of_length_eq_zero (by omega)
    subst this
    exact ⟨none, 0, rfl, Nat.le_refl _, Nat.zero_le _, .inl rfl⟩
  · refine ⟨_, cap, by rw [hcy], by omega, hcm, .inr ⟨g, 0, cur, e, (0, 0), rfl, hS, fun i hi => ?_⟩⟩
    have := flatten_at k css i hr.hk (by omega)
    have hik : i * k + k ≤ css.length * k := by rw [← Nat.succ_mul]; exact Nat.mul_le_mul_right k (by omega)
    rw [← ht, List.drop_take, List.take_take, Nat.min_eq_left (by omega)] at this
    rw [cellsAt, Nat.zero_add, this]
    exact hr.hR i hi (by omega)
theorem flatten_one {css : List (List Value)} (h : ∀ cs ∈ css, ∀ u ∈ cs, u.oneCell' = true) : ∀ u ∈ css.flatten, u.oneCell' = true := by
  intro u hu
  obtain ⟨cs, hc, hu⟩ := List.mem_flatten.1 hu
  exact h cs hc u hu
theorem flatten_len {k : Nat} : ∀ {css : List (List Value)}, (∀ cs ∈ css, cs.length = k) → css.flatten.length = css.length * k
  | [], _ => by simp
  | c :: css, h => by
    have := flatten_len (css := css) fun cs hc => h cs (List.mem_cons_of_mem _ hc)
    rw [List.flatten_cons, List.length_append, h c (List.mem_cons_self ..), this, List.length_cons, Nat.succ_mul, Nat.add_comm]
section
variable {P : Program} {w w0 : World} {X : List Nat} {L : List Item} {S : Store} {K : Value → World → Prop}
attribute [local irreducible] Run CondV GuardV LoadV
/- append(row, other row...) -/
theorem r_appendRow (h : Inv w0 X L S w) {T ty e : TypeId} {k by_ : Nat} {z v u : Value} {cs : List Bool} {css css2 : List (List Value)} (i i2 : Nat)
    (hT : mkOf P T = some (e, k, by_, z)) (hk0 : 0 < k) (hi : L[i]? = some (rowG v e k css)) (hi2 : L[i2]? = some (rowG u e k css2)) (hk2 : ∀ cs ∈ css2, cs.length = k) (h1 : ∀ cs ∈ css2, ∀ u ∈ cs, u.oneCell' = true)
    (hfit : css.length + css2.length ≤ 4294967296) (hby : by_ ≤ 32768) (hk : ∀ v' w', Inv w0 X (L.set i (rowG v' e k (css ++ css2))) S w' → K v' w') :
    Run P (sBuiltin .append #[T, T] ty cs [v, u]) w K := by
  have hm : w.ownsRow 0 e k u css2.length css2.flatten := h.its _ (List.mem_of_getElem? hi2)
  rcases hm.2 with ⟨rfl, h0⟩ | ⟨g, cap, cur, rfl, _, hg, hnc, hcm, hcs, ht⟩
  · have : css2 = [] := List.eq_nil_of_length_eq_zero h0
    subst this
    refine r_append0 h i hT hi (hk v w ?_)
    have : L.set i (rowG v e k (css ++ [])) = L := by
      obtain ⟨hlt, e'⟩ := List.getElem?_eq_some_iff.1 hi
      rw [List.append_nil, ← e', List.set_getElem_self]
    rw [this]
    exact h
  · refine r_append h i css2.flatten hT hk0 hi (flatten_len hk2) (o := 0) ?_ (flatten_one h1) hfit hby fun v' w' hI => hk _ _ ?_
    · intro j u hj
      rw [Nat.zero_add]
      rw [← ht, List.getElem?_take] at hj
      split at hj
      · simpa [World.cell?, hg] using hj
      · cases hj
    · have e : Item.row v' e k (css.length + css2.length) (css.flatten ++ css2.flatten) = rowG v' e k (css ++ css2) := by simp [rowG]
      rw [← e]
      exact hI
end
abbrev PostCB (S : Store) (ys : List C) (b : Bool) : Value → List Item → Store → Prop := fun r I' S' => S' = S ∧ ∃ u L, r = .tuple #[u, .bool b] ∧ I' = blks L ∧ TrSl 5 TrC L u ys
theorem wP_filter (f : C → Bool) : ∀ p : List C, (p.filter f).length + wP (p.filter f) + ((p.filter fun c => !f c).length + wP (p.filter fun c => !f c)) = p.length + wP p
  | [] => rfl
  | c :: p => by
    have := wP_filter f p
    rw [List.filter_cons, List.filter_cons]
    cases f c <;> simp [wP] <;> omega
theorem wP_append : ∀ p q : List C, wP (p ++ q) = wP p + wP q
  | [], q => by simp [wP]
  | c :: p, q => by simp only [List.cons_append, wP, wP_append p q]; omega
theorem filter_snoc {α : Type} (f : α → Bool) (l : List α) (k : Nat) (h : k < l.length) (m : List α) : (if f l[k] = true then m ++ [l[k]] else m) ++ (l.drop (k + 1)).filter f = m ++ (l.drop k).filter f := by
  rw [List.drop_eq_getElem_cons h, List.filter_cons]
  split
  · rw [List.append_assoc]; rfl
  · rfl

end Go.Proofs.YtgdibnmabnimaaaGreat

/- Steps that the laws' walks share: results that are trees. -/
namespace Go.Proofs.YtgdibnmabnimaaaGreat
open Go Go.RowKit
section
variable {w w0 : World} {X : List Nat} {L A : List Item} {S : Store} {K : Value → World → Prop}
attribute [local irreducible] Run CondV GuardV LoadV
theorem Run.pubTree {f : FuncId} {fn : Func} {args : List Value} {ys : List C} {b : Bool} (hf : Tryz.prog.funcs[f]? = some fn) (hn : (fn.name == "runtime.NumGoroutine" || fn.body.isNone) = false) (hI : Inv w0 X L S w)
    (hc : Tri Tryz.prog f args [] S (PostCB S ys b)) (hk : ∀ u S' w', Sle S S' → RdSl S' 5 (RdC S') u ys → Inv w0 X L S' w' → K (.tuple #[u, .bool b]) w') : Run Tryz.prog (sCall (.func (.func f) #[] #[]) args) w K := by
  refine Run.call0 hf hn hI hc fun v' I' S' w' => ?_
  rintro ⟨rfl, u, M, rfl, rfl, hT⟩ _ hI
  obtain ⟨S1, hle, hins, hI, _⟩ := Inv.lendAll M hI
  exact hk _ _ _ hle (hT.rd hins fun _ _ _ hi h => h.rd hi) hI
theorem Run.eqTreeC {ys : List C} {u v : Value} {M : Heaplet} (hI : Inv w0 X (A ++ blks M) S w) (hT : TrSl 5 TrC M u ys) (h : RdSl S 5 (RdC S) v ys) (hk : ∀ w', Inv w0 X (A ++ blks M) S w' → K (.bool true) w') :
    Run Tryz.prog (sCall (.func (.func n_l_eqClauseS) #[] #[]) [u, v]) w K := by
  obtain ⟨S1, hle, hins, hI, hb⟩ := Inv.lendAll M hI
  refine Run.callPure fn_l_eqClauseS nm_l_eqClauseS hI (eqClauseS_calls (hT.rd hins fun _ _ _ hi h => h.rd hi) (h.monoC hle)) fun w' hI => ?_
  rw [(eqP_iff ys ys).2 rfl]
  exact hk _ (hb _ _ hI)
theorem Run.markTreeC {ys : List C} {u : Value} {M : Heaplet} {k : Int} (hI : Inv w0 X (A ++ blks M) S w) (hT : TrSl 5 TrC M u ys) (hk0 : 0 ≤ k) (hk1 : k + 3 * cntP ys ≤ 4611686018427387904)
    (hk : ∀ M' w', TrSl 5 TrC M' u (mkP ys k).1 → Inv w0 X (A ++ blks M') S w' → K (.int .i64 (k + 3 * cntP ys)) w') : Run Tryz.prog (sCall (.func (.func n_l_markClauseS) #[] #[]) [u, .int .i64 k]) w K := by
  refine Run.call fn_l_markClauseS nm_l_markClauseS hI (markClauseS_ok hT hk0 hk1) fun v' I' S' w' => ?_
  rintro ⟨rfl, rfl, M', rfl, hT'⟩ _ hI
  rw [mkP_end]
  exact hk _ _ hT' hI
theorem Run.eqTreeT {ys : List T} {u v : Value} {M : Heaplet} (hI : Inv w0 X (A ++ blks M) S w) (hT : TrSl 4 TrT M u ys) (h : RdSl S 4 (RdT S) v ys) (hk : ∀ w', Inv w0 X (A ++ blks M) S w' → K (.bool true) w') :
    Run Tryz.prog (sCall (.func (.func n_l_eqTermS) #[] #[]) [u, v]) w K := by
  obtain ⟨S1, hle, hins, hI, hb⟩ := Inv.lendAll M hI
  refine Run.callPure fn_l_eqTermS nm_l_eqTermS hI (eqTermS_calls (hT.rd hins fun _ _ _ hi h => h.rd hi) (h.monoT hle)) fun w' hI => ?_
  rw [(eqL_iff ys ys).2 rfl]
  exact hk _ (hb _ _ hI)
theorem Run.markTreeT {ys : List T} {u : Value} {M : Heaplet} {k : Int} (hI : Inv w0 X (A ++ blks M) S w) (hT : TrSl 4 TrT M u ys) (hk0 : 0 ≤ k) (hk1 : k + 3 * cntL ys ≤ 4611686018427387904)
    (hk : ∀ M' w', TrSl 4 TrT M' u (mkL ys k).1 → Inv w0 X (A ++ blks M') S w' → K (.int .i64 (k + 3 * cntL ys)) w') : Run Tryz.prog (sCall (.func (.func n_l_markTermS) #[] #[]) [u, .int .i64 k]) w K := by
  refine Run.call fn_l_markTermS nm_l_markTermS hI (markTermS_ok ys S M u k hT hk0 hk1) fun v' I' S' w' => ?_
  rintro ⟨rfl, rfl, M', rfl, hT'⟩ _ hI
  rw [mkL_end]
  exact hk _ _ hT' hI
theorem Run.heldTreeT {ys : List T} {u : Value} {M : Heaplet} {k : Int} (hI : Inv w0 X (A ++ blks M) S w) (hT : TrSl 4 TrT M u (mkL ys k).1) (hk0 : 0 ≤ k) (hk1 : k + 3 * cntL ys ≤ 4611686018427387904)
    (hk : ∀ w', Inv w0 X (A ++ blks M) S w' → K (.int .i64 (k + 3 * cntL ys)) w') : Run Tryz.prog (sCall (.func (.func n_l_heldTermS) #[] #[]) [u, .int .i64 k]) w K := by
  obtain ⟨S1, hle, hins, hI, hb⟩ := Inv.lendAll M hI
  refine Run.callPure fn_l_heldTermS nm_l_heldTermS hI (heldTermS_ok ys _ u k (hT.rd hins fun _ _ _ hi h => h.rd hi) hk0 hk1) fun w' hI => ?_
  rw [mkL_end]
  exact hk _ (hb _ _ hI)
end

end Go.Proofs.YtgdibnmabnimaaaGreat

/- Reslicing; a read slice joined to a row. -/
namespace Go.Proofs.YtgdibnmabnimaaaGreat
open Go Go.RowKit

theorem sliceOf_size {P : Program} {T e : TypeId} {k : Nat} (h : sliceOf P T = some (e, k)) : P.underlying T = some (.slice e) ∧ ∃ i, P.info? e = some i ∧ i.size = k := by
  unfold sliceOf at h
  split at h
  · rename_i e1 he
    rw [Option.map_eq_some_iff] at h
    obtain ⟨i, hi, hx⟩ := h
    simp only [Prod.mk.injEq] at hx
    obtain ⟨rfl, rfl⟩ := hx
    exact ⟨he, i, hi, rfl⟩
  · cases h
section
variable {P : Program} {w : World} {K : Value → World → Prop}
attribute [local irreducible] Run
theorem run_bound {n y : Nat} {code : BoundsCode} (h : n ≤ y) : (Instr.sliceBound (.int .i64 n) y code).run P w = .ok n w := by
  have h1 : (0 : Int) ≤ (n : Int) ∧ (n : Int) ≤ (y : Int) := by omega
  simp [Instr.sliceBound, asIntOf, h]
theorem r_slTo {T ty e : TypeId} {k h len cap : Nat} {a : Option Addr} (hT : sliceOf P T = some (e, k)) (hh : h ≤ cap) (hk : K (.slice (if cap = 0 then a else a.map (·.add (0 * k))) h cap) w) :
    Run P (sOp (.slice T (.const (.slice a len cap)) none (some (.const (.int .i64 h))) none) ty) w K := by
  obtain ⟨hu, i, hi, _⟩ := sliceOf_size hT
  refine Run.of ?_ hk
  simp [sOp, execOp, ev0, evE, Instr.sliceAt, Instr.slice, Instr.sliceBounds, run_underlying hu, run_bound hh, sizeOf, typeInfo, hi]
theorem r_slFrom {T ty e : TypeId} {k l len cap : Nat} {a : Option Addr} (hT : sliceOf P T = some (e, k)) (hl : l ≤ len) (hk : K (.slice (if cap = l then a else a.map (·.add (l * k))) (len - l) (cap - l)) w) :
    Run P (sOp (.slice T (.const (.slice a len cap)) (some (.const (.int .i64 l))) none none) ty) w K := by
  obtain ⟨hu, i, hi, hs⟩ := sliceOf_size hT
  refine Run.of ?_ hk
  simp [sOp, execOp, ev0, evE, Instr.sliceAt, Instr.slice, Instr.sliceBounds, run_underlying hu, run_bound hl, sizeOf, typeInfo, hi, hs]
theorem r_slMid {T ty e : TypeId} {k l h len cap : Nat} {a : Option Addr} (hT : sliceOf P T = some (e, k)) (hl : l ≤ h) (hh : h ≤ cap) (hk : K (.slice (if cap = l then a else a.map (·.add (l * k))) (h - l) (cap - l)) w) :
    Run P (sOp (.slice T (.const (.slice a len cap)) (some (.const (.int .i64 l))) (some (.const (.int .i64 h))) none) ty) w K := by
  obtain ⟨hu, i, hi, hs⟩ := sliceOf_size hT
  refine Run.of ?_ hk
  simp [sOp, execOp, ev0, evE, Instr.sliceAt, Instr.slice, Instr.sliceBounds, run_underlying hu, run_bound hl, run_bound hh, sizeOf, typeInfo, hi, hs]
theorem r_slMax {T ty e : TypeId} {k l h m len cap : Nat} {a : Option Addr} (hT : sliceOf P T = some (e, k)) (hl : l ≤ h) (hh : h ≤ m) (hm : m ≤ cap) (hk : K (.slice (if m = l then a else a.map (·.add (l * k))) (h - l) (m - l)) w) :
    Run P (sOp (.slice T (.const (.slice a len cap)) (some (.const (.int .i64 l))) (some (.const (.int .i64 h))) (some (.const (.int .i64 m)))) ty) w K := by
  obtain ⟨hu, i, hi, hs⟩ := sliceOf_size hT
  refine Run.of ?_ hk
  simp [sOp, execOp, ev0, evE, Instr.sliceAt, Instr.slice, Instr.sliceBounds, run_underlying hu, run_bound hl, run_bound hh, run_bound hm, sizeOf, typeInfo, hi, hs]
end
theorem RdSl.to {α : Type} {S : Store} {k : Nat} {R : List Value → α → Prop} {a : Option Addr} {cap n h : Nat} {xs : List α} (hx : RdSl S k R (.slice a n cap) xs) (hh : h ≤ xs.length) :
    RdSl S k R (.slice (if cap = 0 then a else a.map (·.add (0 * k))) h cap) (xs.take h) := by
  obtain ⟨a', cap', e, hl, hc, hx⟩ := hx
  simp only [Value.slice.injEq] at e
  obtain ⟨rfl, rfl, rfl⟩ := e
  have e1 : (if cap = 0 then a else a.map (·.add (0 * k))) = a := by
    split
    · rfl
    · cases a <;> simp [Addr.add]
  rw [e1]
  have e2 : h = (xs.take h).length := by rw [List.length_take]; omega
  refine ⟨a, cap, by rw [← e2], by omega, hc, ?_⟩
  rcases hx with rfl | ⟨b, o, c, E, fz, rfl, hS, hR⟩
  · left; simp
  · right
    refine ⟨b, o, c, E, fz, rfl, hS, fun i hi => ?_⟩
    rw [List.getElem_take]
    exact hR i (by omega)
theorem RdSl.from {α : Type} {S : Store} {k : Nat} {R : List Value → α → Prop} {a : Option Addr} {cap n l : Nat} {xs : List α} (hx : RdSl S k R (.slice a n cap) xs) (hl : l ≤ xs.length) :
    RdSl S k R (.slice (if cap = l then a else a.map (·.add (l * k))) (n - l) (cap - l)) (xs.drop l) := by
  obtain ⟨a', cap', e, hlc, hc, hx⟩ := hx
  simp only [Value.slice.injEq] at e
  obtain ⟨rfl, rfl, rfl⟩ := e
  refine ⟨_, cap - l, by rw [List.length_drop], by rw [List.length_drop]; omega, by omega, ?_⟩
  by_cases hd : xs.drop l = []
  · exact .inl hd
  · rcases hx with rfl | ⟨b, o, c, E, fz, rfl, hS, hR⟩
    · simp at hd
    · right
      have hlt : l < xs.length := by
        rcases Nat.lt_or_ge l xs.length with h | h
        · exact h
        · exact absurd (List.drop_eq_nil_of_le h) hd
      refine ⟨b, o + l * k, c, E, fz, ?_, hS, fun i hi => ?_⟩
      · rw [if_neg (by omega)]
        simp [Addr.add]
      · rw [List.getElem_drop]
        have := hR (l + i) (by simp at hi; omega)
        rwa [Nat.add_mul, ← Nat.add_assoc] at this
section
variable {P : Program} {w w0 : World} {X : List Nat} {L : List Item} {S : Store} {K : Value → World → Prop}
attribute [local irreducible] Run CondV GuardV LoadV
theorem r_sliceTo {α : Type} {R : List Value → α → Prop} {xs : List α} {v : Value} {T ty e : TypeId} {k h : Nat} (hT : sliceOf P T = some (e, k)) (hx : RdSl S k R v xs) (hh : h ≤ xs.length)
    (hk : ∀ v', RdSl S k R v' (xs.take h) → K v' w) : Run P (sOp (.slice T (.const v) none (some (.const (.int .i64 h))) none) ty) w K := by
  obtain ⟨a, cap, rfl, hl, hc, hx'⟩ := id hx
  exact r_slTo hT (by omega) (hk _ (hx.to hh))
theorem r_sliceFrom {α : Type} {R : List Value → α → Prop} {xs : List α} {v : Value} {T ty e : TypeId} {k l : Nat} (hT : sliceOf P T = some (e, k)) (hx : RdSl S k R v xs) (hl : l ≤ xs.length)
    (hk : ∀ v', RdSl S k R v' (xs.drop l) → K v' w) : Run P (sOp (.slice T (.const v) (some (.const (.int .i64 l))) none none) ty) w K := by
  obtain ⟨a, cap, rfl, hl', hc, hx'⟩ := id hx
  exact r_slFrom hT hl (hk _ (hx.from hl))
end
theorem RdSl.exact {α : Type} {S : Store} {k : Nat} {R : List Value → α → Prop} {v : Value} {ys : List α} (h : RdSl S k R v ys) (hk : ∀ cs y, R cs y → cs.length = k) :
    ∃ ds : List {cs : List Value // cs.length = k}, RdSl S k (fun cs d => cs = d.val) v ds ∧ Rows k R (ds.map (·.val)) ys := by
  obtain ⟨a, cap, rfl, hl, hc, hx⟩ := h
  rcases hx with rfl | ⟨b, o, c, E, fz, rfl, hS, hR⟩
  · exact ⟨[], ⟨a, cap, rfl, hl, hc, .inl rfl⟩, Rows.nil _ _⟩
  · refine ⟨List.ofFn fun i : Fin ys.length => ⟨cellsAt c (o + i.val * k) k, hk _ _ (hR i.val i.isLt)⟩, ⟨_, cap, by rw [List.length_ofFn], by rw [List.length_ofFn]; exact hl, hc, .inr ⟨b, o, c, E, fz, rfl, hS, fun i hi => by simp⟩⟩, ⟨by simp, fun cs hcs => ?_, fun i h1 h2 => ?_⟩⟩
    · obtain ⟨d, _, rfl⟩ := List.mem_map.1 hcs
      exact d.property
    · simp only [List.getElem_map, List.getElem_ofFn]
      exact hR i h1
section
variable {P : Program} {w w0 : World} {X : List Nat} {L : List Item} {S : Store} {K : Value → World → Prop}
attribute [local irreducible] Run CondV GuardV LoadV
theorem r_appendRd {α : Type} {R : List Value → α → Prop} (h : Inv w0 X L S w) {T ty e : TypeId} {k by_ : Nat} {z v u : Value} {cs : List Bool} {css : List (List Value)} {ys : List α} (i : Nat)
    (hT : mkOf P T = some (e, k, by_, z)) (hk0 : 0 < k) (hi : L[i]? = some (rowG v e k css)) (hr : RdSl S k R u ys) (hlen : ∀ cs y, R cs y → cs.length = k) (h1 : ∀ cs y, R cs y → ∀ c ∈ cs, c.oneCell' = true)
    (hfit : css.length + ys.length ≤ 4294967296) (hby : by_ ≤ 32768) (hk : ∀ v' w' css2, Rows k R css2 ys → Inv w0 X (L.set i (rowG v' e k (css ++ css2))) S w' → K v' w') :
    Run P (sBuiltin .append #[T, T] ty cs [v, u]) w K := by
  obtain ⟨ds, hd, hR⟩ := hr.exact hlen
  have hdl : ds.length = ys.length := by have := hR.hc; simpa using this
  have hone : ∀ d ∈ ds, ∀ c ∈ d.val, c.oneCell' = true := by
    intro d hd' c hc
    obtain ⟨j, hj, rfl⟩ := List.mem_iff_getElem.1 hd'
    have := hR.hR j (by omega) (by simpa using hj)
    simp only [List.getElem_map] at this
    exact h1 _ _ this c hc
  obtain ⟨a, cap, rfl, hl', hc', hx⟩ := id hd
  have e1 : ∀ v', Item.row v' e k (css.length + ds.length) (css.flatten ++ (ds.map (·.val)).flatten) = rowG v' e k (css ++ ds.map (·.val)) := fun v' => by simp [rowG]
  rcases hx with rfl | ⟨b, o, c, E, fz, rfl, hS, hel⟩
  · refine r_append0 h i hT hi (hk v w [] (by simpa using hR) ?_)
    have : L.set i (rowG v e k (css ++ [])) = L := by
      obtain ⟨hlt, e'⟩ := List.getElem?_eq_some_iff.1 hi
      rw [List.append_nil, ← e', List.set_getElem_self]
    rw [this]
    exact h
  · have hfl : (ds.map (·.val)).flatten.length = ds.length * k := by
      rw [flatten_len (k := k) (fun cs hcs => by obtain ⟨d, _, rfl⟩ := List.mem_map.1 hcs; exact d.property), List.length_map]
    refine r_append h i (ds.map (·.val)).flatten hT hk0 hi hfl ?_ ?_ (by omega) hby fun v' w' hI => hk _ _ _ hR ?_
    · intro j u hj
      have hj' : j < ds.length * k := by
        rw [← hfl]
        exact (List.getElem?_eq_some_iff.1 hj).1
      have hq : j / k < ds.length := (Nat.div_lt_iff_lt_mul hk0).2 hj'
      have hcell := hel (j / k) hq
      have hflat := flatten_at k (ds.map (·.val)) (j / k) (fun cs hcs => by obtain ⟨d, _, rfl⟩ := List.mem_map.1 hcs; exact d.property) (by simpa using hq)
      have hdm := Nat.div_add_mod j k
      rw [Nat.mul_comm] at hdm
      rw [h.cellS hS]
      have e2 : (ds.map (·.val)).flatten[j]? = (ds[j / k].val)[j % k]? := by
        rw [List.getElem_map] at hflat
        rw [← hflat, List.getElem?_take, if_pos (Nat.mod_lt _ hk0), List.getElem?_drop]
        congr 1
        omega
      rw [e2] at hj
      have := cellsAt_get hcell (j % k) u hj
      rw [← this]
      congr 1
      omega
    · intro u hu
      obtain ⟨cs, hcs, hu⟩ := List.mem_flatten.1 hu
      obtain ⟨d, hd', rfl⟩ := List.mem_map.1 hcs
      exact hone d hd' u hu
    · rw [← e1]
      exact hI
end

end Go.Proofs.YtgdibnmabnimaaaGreat

/- slices.Insert of one element into a row of the caller's own. -/
namespace Go.Proofs.YtgdibnmabnimaaaGreat
open Go Go.RowKit
section
variable {P : Program} {w w0 : World} {X : List Nat} {L : List Item} {S : Store} {K : Value → World → Prop}
attribute [local irreducible] Run CondV GuardV LoadV
theorem r_cap {T ty : TypeId} {cs : List Bool} {a : Option Addr} {n c : Nat} {Ek : TypeId × Nat} (hu : sliceOf P T = some Ek) (hk : K (.int .i64 c) w) : Run P (sBuiltin .cap #[T] ty cs [.slice a n c]) w K := by
  obtain ⟨e, k⟩ := Ek
  obtain ⟨hT, _⟩ := sliceOf_size hu
  refine Run.of ?_ hk
  simp [sBuiltin, builtin, Builtin.cap_, run_underlying hT, goInt]
theorem r_slToA {T ty e : TypeId} {k h g o len cap : Nat} (hT : sliceOf P T = some (e, k)) (hh : h ≤ cap) (hk : K (.slice (some ⟨g, o, none⟩) h cap) w) :
    Run P (sOp (.slice T (.const (.slice (some ⟨g, o, none⟩) len cap)) none (some (.const (.int .i64 h))) none) ty) w K := by
  refine r_slTo hT hh ?_
  split
  · exact hk
  · simpa [add_lit] using hk
theorem r_slFromA {T ty e : TypeId} {k l g o len cap : Nat} (hT : sliceOf P T = some (e, k)) (hl : l ≤ len) (hc : l < cap) (hk : K (.slice (some ⟨g, o + l * k, none⟩) (len - l) (cap - l)) w) :
    Run P (sOp (.slice T (.const (.slice (some ⟨g, o, none⟩) len cap)) (some (.const (.int .i64 l))) none none) ty) w K := by
  refine r_slFrom hT hl ?_
  rw [if_neg (by omega)]
  simpa [add_lit] using hk
theorem r_copyIn (h : Inv w0 X L S w) {T ty e : TypeId} {k o dl dc sl sc : Nat} {cs : List Bool} {a : Addr} (j g n : Nat) (cur : Array Value) (E : TypeId) (news : List Value) (hT : sliceOf P T = some (e, k)) (hi : L[j]? = some (.blk g (.cells cur E)))
    (hn : n = min sl dl) (hl : news.length = n * k) (hnews : ∀ j u, news[j]? = some u → w.cell? (a.add j) = some u) (hfit : o + news.length ≤ cur.size) (h1 : ∀ u ∈ news, u.oneCell' = true)
    (hk : ∀ w', Inv w0 X (L.set j (.blk g (.cells (putCells cur o news) E))) S w' → K (goInt n) w') :
    Run P (sBuiltin .copy #[T, T] ty cs [.slice (some ⟨g, o, none⟩) dl dc, .slice (some a) sl sc]) w K := by
  obtain ⟨hu, i, hi', hs⟩ := sliceOf_size hT
  have hg : w.heap[g]? = some (.cells cur E) := h.its _ (List.mem_of_getElem? hi)
  have hld := run_loadCells_list (P := P) w a news hnews
  have hn : n = Nat.min sl dl := hn
  rw [hl, hn] at hld
  have hst := run_storeCells_at P g o E news 0 cur w hg (by simpa using hfit) h1
  rw [hn] at hk
  refine Run.of (v := goInt (Nat.min sl dl)) (w' := w.setRow g (putCells cur o news)) ?_ (hk _ (h.setBlk hi _ (setRow_eq hg)))
  simp [sBuiltin, builtin, Builtin.copy_, run_underlying hu, Builtin.lenOf, Builtin.firstCells, sizeOf, typeInfo, hi', hs, hld, hst, putCells]
theorem r_appendZ (h : Inv w0 X L S w) {T U ty e : TypeId} {k by_ j g i m cap : Nat} {cs : List Bool} {z : Value} {cur : Array Value} {E : TypeId} (hT : mkOf P T = some (e, k, by_, z)) (hU : P.underlying U = some (.int .i64)) (hk0 : 0 < k)
    (hi : L[j]? = some (.blk g (.cells cur E))) (hsz : i * k ≤ cur.size) (hm : 0 < m) (hg : cap < i + m) (hfit : i + m ≤ 4294967296) (hby : by_ ≤ 32768)
    (hk : ∀ (nb nc : Nat) (c : Array Value) w', i + m ≤ nc → nc ≤ maxLen → c.size = nc * k → c.toList.take (i * k) = cur.toList.take (i * k) → Inv w0 X (L ++ [.blk nb (.cells c e)]) S w' → K (.slice (some ⟨nb, 0, none⟩) (i + m) nc) w') :
    Run P (sBuiltin .append #[T, U] ty cs [.slice (some ⟨g, 0, none⟩) i cap, .int .i64 m]) w K := by
  obtain ⟨hu, inf, hi', hz, hs, hb, hzs⟩ := mkOf_some hT
  have hgw : w.heap[g]? = some (.cells cur E) := h.its _ (List.mem_of_getElem? hi)
  obtain ⟨olds, ho⟩ : ∃ olds, olds = cur.toList.take (i * k) := ⟨_, rfl⟩
  have hlo : olds.length = i * inf.size := by rw [ho, hs, List.length_take, Array.length_toList]; omega
  have holds : ∀ j v, olds[j]? = some v → w.cell? ((⟨g, 0, none⟩ : Addr).add j) = some v := by
    intro j v hj
    rw [add_lit, Nat.zero_add, cell_of_row w g j cur E (0, 0) hgw]
    rw [ho, List.getElem?_take] at hj
    split at hj
    · simpa using hj
    · cases hj
  have hbytes : (i + m) * by_ ≤ 140737488355328 := Nat.le_trans (Nat.mul_le_mul hfit hby) (by decide)
  have hgf := growslice_fits hg hbytes
  have hn : ¬ (i + m ≤ cap) := by omega
  have hw : IntKind.i64.wrap (m : Int) = m := IntWalk.i64_in _ (by omega)
  have hneg : ¬ ((m : Int) < 0) := by omega
  have hns : ¬ (m * k = 0) := Nat.mul_ne_zero (by omega) (by omega)
  have h63' : ¬ (9223372036854775807 < (i : Int) + (m : Int)) := by omega
  have h48i : ¬ (281474976710656 < (m : Int) * (by_ : Int)) := by
    have : m * by_ ≤ (i + m) * by_ := Nat.mul_le_mul_right _ (by omega)
    rw [← Int.natCast_mul]
    omega
  have h48' : ¬ (281474976710656 < Builtin.nextslicecap (i + m) cap * by_) := by omega
  have hfo := run_firstCells_some (P := P) w.drew inf.size i ⟨g, 0, none⟩ i cap olds hlo (by simpa using holds)
  rw [hs] at hfo
  refine Run.of (v := .slice (some ⟨w.heap.size, 0, none⟩) (i + m) (grownCap w (i + m) cap e))
    (w' := w.drew.alloc (.cells (olds.toArray ++ Builtin.zeroCells z.cells m ++ Builtin.zeroCells z.cells (grownCap w (i + m) cap e - (i + m))) e)) ?_ ?_
  · simp [sBuiltin, builtin, Builtin.append_, run_underlying hu, run_underlying hU, sizeOf, typeInfo, zeroValue, hi', hz, hs, hb, asInt, asIntOf, hw, hn, hneg, hns, h63', h48', h48i, Question.forced, hfo, newRow, grownCap]
  · have hge := grownCap_ge w (i + m) cap e
    have hle := grownCap_le_maxLen w (i + m) cap e (by simp only [maxLen]; omega)
    refine hk _ _ _ _ hge hle ?_ ?_ (h.draw.alloc _)
    · simp only [Array.size_append, List.size_toArray, size_zeroCells, hzs, hlo, hs]
      rw [← Nat.add_mul, ← Nat.add_mul]
      congr 1
      omega
    · rw [← ho]
      have : i * k = olds.length := by rw [hlo, hs]
      rw [this]
      simp
theorem r_overlaps (h : Inv w0 X L S w) {f : FuncId} {fn : Func} {T U e ea eb : TypeId} {k i j a b oa ob la lb cpa cpb : Nat} {ca cb : Array Value} (hf : P.funcs[f]? = some fn) (hn : (fn.name == "runtime.NumGoroutine") = false) (hb : fn.body.isNone = true)
    (hx : (Extern.findNext fn).isNone = true) (hy : Extern.find fn = some (Extern.SlicesOverlaps.overlaps #[T, T] #[U])) (hT : sliceOf P T = some (e, k)) (hi : L[i]? = some (.blk a (.cells ca ea))) (hj : L[j]? = some (.blk b (.cells cb eb)))
    (hne : a ≠ b) (hcb : cb.size ≠ 0) (hk : K (.bool false) w) : Run P (sCall (.func (.func f) #[] #[]) [.slice (some ⟨a, oa, none⟩) la cpa, .slice (some ⟨b, ob, none⟩) lb cpb]) w K := by
  obtain ⟨hu, inf, hi', hs⟩ := sliceOf_size hT
  have hga : w.heap[a]? = some (.cells ca ea) := h.its _ (List.mem_of_getElem? hi)
  have hgb : w.heap[b]? = some (.cells cb eb) := h.its _ (List.mem_of_getElem? hj)
  have hov := Lib.run_overlaps_apart (P := P) w T U e hu k (fun w => by simp [sizeOf, typeInfo, hi', hs]) ⟨a, oa, none⟩ ⟨b, ob, none⟩ la cpa lb cpb hne ea eb ca.size cb.size (by simp [World.shape?, hga]) (by simp [World.shape?, hgb]) hcb
    (by simp [World.frozen?, hga]) (by simp [World.frozen?, hga])
  have hx' : Extern.findNext fn = none := by simpa using hx
  refine Run.of (v := .bool false) (w' := w) ?_ hk
  have hcf := run_callFunc_extern hf hn hb hx' hy #[.slice (some ⟨a, oa, none⟩) la cpa, .slice (some ⟨b, ob, none⟩) lb cpb] w
  rw [hov] at hcf
  simp [sCall, Deferred.ofValue, invoke, hcf, Result.andThen]
end
theorem put_list (c : Array Value) (o : Nat) (vs : List Value) : (putCells c o vs).toList = c.toList.take o ++ vs ++ c.toList.drop (o + vs.length) := rfl
theorem putAB {c : Array Value} {p : Nat} {cs D : List Value} (h : p + cs.length + D.length ≤ c.size) :
    (putCells (putCells c p cs) (p + cs.length) D).toList.take (p + cs.length + D.length) = c.toList.take p ++ cs ++ D := by
  have e : (putCells c p cs).toList.take (p + cs.length) = c.toList.take p ++ cs := by
    rw [put_list, List.take_left']
    simp; omega
  rw [put_list (putCells c p cs), e, List.take_left']
  simp; omega
theorem putBA {c : Array Value} {p : Nat} {cs D : List Value} (h : p + cs.length + D.length ≤ c.size) :
    (putCells (putCells c (p + cs.length) D) p cs).toList.take (p + cs.length + D.length) = c.toList.take p ++ cs ++ D := by
  have e1 : (putCells c (p + cs.length) D).toList.take p = c.toList.take p := by
    rw [put_list, List.append_assoc, List.take_append_of_le_length (by simp; omega), List.take_take, Nat.min_eq_left (by omega)]
  have e2 : (putCells c (p + cs.length) D).toList.drop (p + cs.length) = D ++ c.toList.drop (p + cs.length + D.length) := by
    rw [put_list, List.append_assoc, List.drop_left']
    simp; omega
  rw [put_list (putCells c (p + cs.length) D), e1, e2, ← List.append_assoc, List.take_left']
  simp; omega
section
attribute [local irreducible] Run CondV GuardV LoadV
set_option maxHeartbeats 2000000 in
theorem Insert_calls {S : Store} {v : Value} {css : List (List Value)} {cs : List Value} {ub i : Nat} (hk4 : ∀ c ∈ css, c.length = 4) (h1 : ∀ c ∈ css, ∀ u ∈ c, u.oneCell' = true) (hc4 : cs.length = 4) (hc1 : ∀ u ∈ cs, u.oneCell' = true)
    (hi : i ≤ css.length) (hn : css.length ≤ 100000000) :
    Tri Tryz.prog n_x_Insert_Term [v, .int .i64 i, .slice (some ⟨ub, 0, none⟩) 1 1] [rowG v t_iTerm 4 css, .blk ub (.cells cs.toArray t_iTerm)] S fun r I' S' => S' = S ∧ I' = [rowG r t_iTerm 4 (css.take i ++ cs :: css.drop i)] := by
  intro w hI
  obtain ⟨X, hX⟩ : ∃ X, X = feet [rowG v t_iTerm 4 css, .blk ub (.cells cs.toArray t_iTerm)] := ⟨_, rfl⟩
  rw [← hX] at hI ⊢
  have hI : Inv w X ([.blk ub (.cells cs.toArray t_iTerm)] ++ [rowG v t_iTerm 4 css]) S w := hI.perm (List.Perm.swap ..)
  have hcl : (css.drop i).flatten.length = (css.length - i) * 4 := by
    rw [flatten_len (k := 4) (fun c hc => hk4 c (List.mem_of_mem_drop hc)), List.length_drop]
  have hct : (css.take i).flatten.length = i * 4 := by
    rw [flatten_len (k := 4) (fun c hc => hk4 c (List.mem_of_mem_take hc)), List.length_take, Nat.min_eq_left hi]
  have hsp : css.flatten = (css.take i).flatten ++ (css.drop i).flatten := by rw [← List.flatten_append, List.take_append_drop]
  have hd1 : ∀ u ∈ (css.drop i).flatten, u.oneCell' = true := fun u hu => by
    obtain ⟨c, hc, hu⟩ := List.mem_flatten.1 hu
    exact h1 c (List.mem_of_mem_drop hc) u hu
  obtain ⟨hfl, ho⟩ := hI.openRow
  have hv : ∃ a cap, v = .slice a css.length cap ∧ css.length ≤ cap := by
    rcases ho with ⟨rfl, h0⟩ | ⟨g, cap, cur, rfl, hnc, _⟩
    · exact ⟨none, 0, by rw [h0], by omega⟩
    · exact ⟨_, cap, rfl, hnc⟩
  obtain ⟨a, cap, rfl, hncap⟩ := hv
  refine calls_x_Insert_Term ?_
  unfold sh_x_Insert_Term
  refine r_slFrom sl_SiTerm hi ?_
  refine r_len sl_SiTerm ?_
  refine r_eql ?_
  refine condP (fun hb => absurd hb (by decide)) (fun _ => ?_)
  refine r_len sl_SiTerm ?_
  refine r_eql ?_
  refine condP (fun hin => ?_) (fun hin => ?_)
  · have hin : i = css.length := by omega
    refine r_append hI 1 (m := 1) (o := 0) cs mk_SiTerm (by omega) rfl (by omega) (fun j u hj => ?_) hc1 (by omega) (by omega) fun v' w' hI => ?_
    · rw [hI.cellL (i := 0) rfl, Nat.zero_add]
      simpa using hj
    · have e : css.take i ++ cs :: css.drop i = css ++ [cs] := by rw [hin, List.take_length, List.drop_length]
      rw [e]
      rw [rowG_snoc] at hI
      exact ⟨_, _, _, rfl, hI.pick [false, true], Ext.refl _ _ _, rfl, rfl⟩
  have hlt : i < css.length := by omega
  rcases ho with ⟨_, h0⟩ | ⟨g, cap', cur, hveq, hnc, hcm, hcs, ht, hJ⟩
  · omega
  simp only [Value.slice.injEq] at hveq
  obtain ⟨rfl, _, rfl⟩ := hveq
  replace hI := hJ
  have hcapt : cur.toList.take (i * 4) = (css.take i).flatten := by
    have : cur.toList.take (i * 4) = (cur.toList.take (css.length * 4)).take (i * 4) := by rw [List.take_take, Nat.min_eq_left (by omega)]
    rw [this, ht, hsp, List.take_left' hct]
  have hD : ∀ j u, (css.drop i).flatten[j]? = some u → cur[i * 4 + j]? = some u := by
    intro j u hj
    have hjl := (List.getElem?_eq_some_iff.1 hj).1
    have : css.flatten[i * 4 + j]? = some u := by rw [hsp, List.getElem?_append_right (by omega), hct, Nat.add_sub_cancel_left]; exact hj
    rw [← ht, List.getElem?_take, if_pos (by omega)] at this
    simpa using this
  have hsz : (css.length - i) * 4 + (i * 4) = css.length * 4 := by omega
  have hnd := hI.nd
  have hne : ub ≠ g := by
    intro e
    rw [e] at hnd
    simp [feet, Item.foot] at hnd
  have hfin : ∀ (nb nc : Nat) (c : Array Value) (w' : World) (hI : Inv w X ([.blk nb (.cells c t_iTerm)] : List Item) S w') (_ : css.length + 1 ≤ nc) (_ : nc ≤ maxLen) (_ : c.size = nc * 4) (_ : c.toList.take (i * 4 + cs.length + (css.drop i).flatten.length) = (css.take i).flatten ++ cs ++ (css.drop i).flatten),
      ∃ v I' S', Ending.returned (.slice (some ⟨nb, 0, none⟩) (css.length + 1) nc) = .returned v ∧ Inv w X I' S' w' ∧ Ext w.heap.size X S S' ∧ S' = S ∧ I' = [rowG v t_iTerm 4 (css.take i ++ cs :: css.drop i)] := by
    intro nb nc c w' hI hnc hcm hcs htk
    have hI := Inv.closeRow (A := []) (k := 4) (n := css.length + 1) hI hnc hcm hcs
    have e1 : (css.length + 1) * 4 = i * 4 + cs.length + (css.drop i).flatten.length := by omega
    have e2 : (css.take i ++ cs :: css.drop i).length = css.length + 1 := by simp; omega
    have e3 : (css.take i ++ cs :: css.drop i).flatten = (css.take i).flatten ++ cs ++ (css.drop i).flatten := by simp
    refine ⟨_, _, _, rfl, hI, Ext.refl _ _ _, rfl, ?_⟩
    rw [e1, htk, rowG, e2, e3]
    rfl
  simp only [maxLen] at hcm
  refine r_add (by omega) ?_
  refine r_cap sl_SiTerm ?_
  refine r_gtr ?_
  refine condP (fun hgr => ?_) (fun hgr => ?_)
  · have hgr' : cap < css.length + 1 := by omega
    refine r_slToA sl_SiTerm (by omega) ?_
    refine r_add (by omega) ?_
    refine r_sub (by omega) ?_
    have e : ((css.length : Int) + 1 - (i : Int)) = ((css.length + 1 - i : Nat) : Int) := by omega
    rw [show ((css.length : Int) + ((1 : Nat) : Int) - (i : Int)) = ((css.length + 1 - i : Nat) : Int) by omega]
    refine r_appendZ hI mk_SiTerm (U := t_int) (by kernel_rfl) (by omega) (j := 1) rfl (by omega) (by omega) (by omega) (by omega) (by omega) fun nb nc c w' hnc hcm2 hcsz hctk hI => ?_
    have hI : Inv w X [.blk ub (.cells cs.toArray t_iTerm), .blk g (.cells cur t_iTerm), .blk nb (.cells c t_iTerm)] S w' := hI
    rw [show i + (css.length + 1 - i) = css.length + 1 by omega] at hnc ⊢
    refine r_slFromA sl_SiTerm (by omega) (by omega) ?_
    rw [Nat.zero_add]
    refine r_copyIn hI 2 nb 1 c t_iTerm cs sl_SiTerm rfl (by omega) (by omega) (fun j u hj => ?_) (by omega) hc1 fun w' hI => ?_
    · rw [add_lit, hI.cellL (i := 0) rfl, Nat.zero_add]
      simpa using hj
    have hI : Inv w X [.blk ub (.cells cs.toArray t_iTerm), .blk g (.cells cur t_iTerm), .blk nb (.cells (putCells c (i * 4) cs) t_iTerm)] S w' := hI
    have hsz2 : (putCells c (i * 4) cs).size = c.size := putCells_size _ _ _ (by omega)
    refine ⟨fun D x54 x53 x52 x51 x50 x49 x48 x47 x46 w_ => (D 0 = true → x46 = .slice (some ⟨nb, 0, none⟩) (css.length + 1) nc) ∧ (D 1 = true → x47 = .int .i64 i) ∧ (D 2 = true → x48 = .int .i64 (1 : Nat)) ∧ (D 3 = true → x49 = .int .i64 (i + 1 : Nat)) ∧ (D 4 = true → x50 = .slice (some ⟨nb, (i + 1) * 4, none⟩) (css.length + 1 - (i + 1)) (nc - (i + 1))) ∧ (D 5 = true → x51 = .slice (some ⟨g, 0, none⟩) css.length cap) ∧ (D 6 = true → x52 = .int .i64 i) ∧ (D 7 = true → x53 = .slice (some ⟨g, i * 4, none⟩) (css.length - i) (cap - i)) ∧ (D 8 = true → x54 = goInt (css.length - i : Nat)) ∧ Inv w X [.blk ub (.cells cs.toArray t_iTerm), .blk g (.cells cur t_iTerm), .blk nb (.cells (cond (D 8) (putCells (putCells c (i * 4) cs) (i * 4 + cs.length) (css.drop i).flatten) (putCells c (i * 4) cs)) t_iTerm)] S w_, ⟨fun h => Bool.noConfusion h, fun h => Bool.noConfusion h, fun h => Bool.noConfusion h, fun h => Bool.noConfusion h, fun h => Bool.noConfusion h, fun h => Bool.noConfusion h, fun h => Bool.noConfusion h, fun h => Bool.noConfusion h, fun h => Bool.noConfusion h, hI.draw⟩, ⟨?_, ?_, ?_, ?_, ?_, ?_, ?_, ?_, ?_, trivial⟩, ?_⟩
    · intro D hD_  x54 x53 x52 x51 x50 x49 x48 x47 x46 w_
      rintro ⟨h0_, h1_, h2_, h3_, h4_, h5_, h6_, h7_, h8_, hI⟩
      exact ⟨fun _ => rfl, h1_, h2_, h3_, h4_, h5_, h6_, h7_, h8_, hI⟩
    · intro D hD_  x54 x53 x52 x51 x50 x49 x48 x47 x46 w_
      rintro ⟨h0_, h1_, h2_, h3_, h4_, h5_, h6_, h7_, h8_, hI⟩
      exact ⟨h0_, fun _ => rfl, h2_, h3_, h4_, h5_, h6_, h7_, h8_, hI⟩
    · intro D hD_  x54 x53 x52 x51 x50 x49 x48 x47 x46 w_
      rintro ⟨h0_, h1_, h2_, h3_, h4_, h5_, h6_, h7_, h8_, hI⟩
      exact ⟨h0_, h1_, fun _ => rfl, h3_, h4_, h5_, h6_, h7_, h8_, hI⟩
    · intro D hD_ d1_0 d2_1 x54 x53 x52 x51 x50 x49 x48 x47 x46 w_
      rintro ⟨h0_, h1_, h2_, h3_, h4_, h5_, h6_, h7_, h8_, hI⟩
      obtain rfl := h1_ d1_0
      obtain rfl := h2_ d2_1
      refine r_add (by omega) ?_
      exact ⟨h0_, h1_, h2_, fun _ => rfl, h4_, h5_, h6_, h7_, h8_, hI⟩
    · intro D hD_ d0_0 d3_1 x54 x53 x52 x51 x50 x49 x48 x47 x46 w_
      rintro ⟨h0_, h1_, h2_, h3_, h4_, h5_, h6_, h7_, h8_, hI⟩
      obtain rfl := h0_ d0_0
      obtain rfl := h3_ d3_1
      refine r_slFromA sl_SiTerm (by omega) (by omega) ?_
      rw [Nat.zero_add]
      exact ⟨h0_, h1_, h2_, h3_, fun _ => rfl, h5_, h6_, h7_, h8_, hI⟩
    · intro D hD_  x54 x53 x52 x51 x50 x49 x48 x47 x46 w_
      rintro ⟨h0_, h1_, h2_, h3_, h4_, h5_, h6_, h7_, h8_, hI⟩
      exact ⟨h0_, h1_, h2_, h3_, h4_, fun _ => rfl, h6_, h7_, h8_, hI⟩
    · intro D hD_  x54 x53 x52 x51 x50 x49 x48 x47 x46 w_
      rintro ⟨h0_, h1_, h2_, h3_, h4_, h5_, h6_, h7_, h8_, hI⟩
      exact ⟨h0_, h1_, h2_, h3_, h4_, h5_, fun _ => rfl, h7_, h8_, hI⟩
    · intro D hD_ d5_0 d6_1 x54 x53 x52 x51 x50 x49 x48 x47 x46 w_
      rintro ⟨h0_, h1_, h2_, h3_, h4_, h5_, h6_, h7_, h8_, hI⟩
      obtain rfl := h5_ d5_0
      obtain rfl := h6_ d6_1
      refine r_slFromA sl_SiTerm (by omega) (by omega) ?_
      rw [Nat.zero_add]
      exact ⟨h0_, h1_, h2_, h3_, h4_, h5_, h6_, fun _ => rfl, h8_, hI⟩
    · intro D hD_ d4_0 d7_1 x54 x53 x52 x51 x50 x49 x48 x47 x46 w_
      rintro ⟨h0_, h1_, h2_, h3_, h4_, h5_, h6_, h7_, h8_, hI⟩
      obtain rfl := h4_ d4_0
      obtain rfl := h7_ d7_1
      have hI : Inv w X [.blk ub (.cells cs.toArray t_iTerm), .blk g (.cells cur t_iTerm), .blk nb (.cells (putCells c (i * 4) cs) t_iTerm)] S w_ := by rw [hD_] at hI; exact hI
      refine r_copyIn hI 2 nb (css.length - i) (putCells c (i * 4) cs) t_iTerm (css.drop i).flatten sl_SiTerm rfl (by omega) (by omega) (fun j u hj => by rw [add_lit, hI.cellL (i := 1) rfl]; exact hD j u hj) (by omega) hd1 fun w' hI => ?_
      rw [show (i + 1) * 4 = i * 4 + cs.length by omega] at hI
      exact ⟨h0_, h1_, h2_, h3_, h4_, h5_, h6_, h7_, fun _ => rfl, hI⟩
    intro D d8_ d7_ d6_ d5_ d4_ d3_ d2_ d1_ d0_ x54 x53 x52 x51 x50 x49 x48 x47 x46 w_
    rintro ⟨h0_, h1_, h2_, h3_, h4_, h5_, h6_, h7_, h8_, hI⟩
    obtain rfl := h8_ d8_
    obtain rfl := h7_ d7_
    obtain rfl := h6_ d6_
    obtain rfl := h5_ d5_
    obtain rfl := h4_ d4_
    obtain rfl := h3_ d3_
    obtain rfl := h2_ d2_
    obtain rfl := h1_ d1_
    obtain rfl := h0_ d0_
    clear h0_ h1_ h2_ h3_ h4_ h5_ h6_ h7_ h8_
    rw [d8_] at hI
    exact hfin nb nc _ _ (hI.pick [false, false, true]) hnc hcm2 (by rw [cond_true, putCells_size _ _ _ (by omega), hsz2, hcsz]) (by rw [cond_true, putAB (by omega), hctk, hcapt])
  · have hgr' : css.length + 1 ≤ cap := by omega
    refine r_add (by omega) ?_
    rw [show ((css.length : Int) + ((1 : Nat) : Int)) = ((css.length + 1 : Nat) : Int) by omega]
    refine r_slToA sl_SiTerm (by omega) ?_
    refine r_add (by omega) ?_
    rw [show ((i : Int) + ((1 : Nat) : Int)) = ((i + 1 : Nat) : Int) by omega]
    refine r_slFromA sl_SiTerm (by omega) (by omega) ?_
    rw [Nat.zero_add]
    refine r_overlaps hI Tryz.func100 (by kernel_rfl) (by kernel_rfl) (by kernel_rfl) (T := t_SiTerm) (U := t_bool) (by kernel_rfl) sl_SiTerm (i := 0) (j := 1) rfl rfl hne (by omega) ?_
    refine r_not ?_
    refine condV (fun _ => ?_) (fun hb => by cases hb)
    have hsz2 : (putCells cur (i * 4 + cs.length) (css.drop i).flatten).size = cur.size := putCells_size _ _ _ (by omega)
    have hI : Inv w X [.blk ub (.cells cs.toArray t_iTerm), .blk g (.cells cur t_iTerm)] S w := hI
    refine ⟨fun D x77 x76 x75 x74 x73 x72 x71 x70 x69 w_ => (D 0 = true → x69 = .slice (some ⟨g, 0, none⟩) (css.length + 1) cap) ∧ (D 1 = true → x70 = .int .i64 i) ∧ (D 2 = true → x71 = .int .i64 (1 : Nat)) ∧ (D 3 = true → x72 = .int .i64 (i + 1 : Nat)) ∧ (D 4 = true → x73 = .slice (some ⟨g, (i + 1) * 4, none⟩) (css.length + 1 - (i + 1)) (cap - (i + 1))) ∧ (D 5 = true → x74 = .slice (some ⟨g, 0, none⟩) (css.length + 1) cap) ∧ (D 6 = true → x75 = .int .i64 i) ∧ (D 7 = true → x76 = .slice (some ⟨g, i * 4, none⟩) (css.length + 1 - i) (cap - i)) ∧ (D 8 = true → x77 = goInt (css.length - i : Nat)) ∧ Inv w X [.blk ub (.cells cs.toArray t_iTerm), .blk g (.cells (cond (D 8) (putCells cur (i * 4 + cs.length) (css.drop i).flatten) cur) t_iTerm)] S w_, ⟨fun h => Bool.noConfusion h, fun h => Bool.noConfusion h, fun h => Bool.noConfusion h, fun h => Bool.noConfusion h, fun h => Bool.noConfusion h, fun h => Bool.noConfusion h, fun h => Bool.noConfusion h, fun h => Bool.noConfusion h, fun h => Bool.noConfusion h, hI.draw⟩, ⟨?_, ?_, ?_, ?_, ?_, ?_, ?_, ?_, ?_, trivial⟩, ?_⟩
    · intro D hD_  x77 x76 x75 x74 x73 x72 x71 x70 x69 w_
      rintro ⟨h0_, h1_, h2_, h3_, h4_, h5_, h6_, h7_, h8_, hI⟩
      exact ⟨fun _ => rfl, h1_, h2_, h3_, h4_, h5_, h6_, h7_, h8_, hI⟩
    · intro D hD_  x77 x76 x75 x74 x73 x72 x71 x70 x69 w_
      rintro ⟨h0_, h1_, h2_, h3_, h4_, h5_, h6_, h7_, h8_, hI⟩
      exact ⟨h0_, fun _ => rfl, h2_, h3_, h4_, h5_, h6_, h7_, h8_, hI⟩
    · intro D hD_  x77 x76 x75 x74 x73 x72 x71 x70 x69 w_
      rintro ⟨h0_, h1_, h2_, h3_, h4_, h5_, h6_, h7_, h8_, hI⟩
      exact ⟨h0_, h1_, fun _ => rfl, h3_, h4_, h5_, h6_, h7_, h8_, hI⟩
    · intro D hD_ d1_0 d2_1 x77 x76 x75 x74 x73 x72 x71 x70 x69 w_
      rintro ⟨h0_, h1_, h2_, h3_, h4_, h5_, h6_, h7_, h8_, hI⟩
      obtain rfl := h1_ d1_0
      obtain rfl := h2_ d2_1
      refine r_add (by omega) ?_
      exact ⟨h0_, h1_, h2_, fun _ => rfl, h4_, h5_, h6_, h7_, h8_, hI⟩
    · intro D hD_ d0_0 d3_1 x77 x76 x75 x74 x73 x72 x71 x70 x69 w_
      rintro ⟨h0_, h1_, h2_, h3_, h4_, h5_, h6_, h7_, h8_, hI⟩
      obtain rfl := h0_ d0_0
      obtain rfl := h3_ d3_1
      refine r_slFromA sl_SiTerm (by omega) (by omega) ?_
      rw [Nat.zero_add]
      exact ⟨h0_, h1_, h2_, h3_, fun _ => rfl, h5_, h6_, h7_, h8_, hI⟩
    · intro D hD_  x77 x76 x75 x74 x73 x72 x71 x70 x69 w_
      rintro ⟨h0_, h1_, h2_, h3_, h4_, h5_, h6_, h7_, h8_, hI⟩
      exact ⟨h0_, h1_, h2_, h3_, h4_, fun _ => rfl, h6_, h7_, h8_, hI⟩
    · intro D hD_  x77 x76 x75 x74 x73 x72 x71 x70 x69 w_
      rintro ⟨h0_, h1_, h2_, h3_, h4_, h5_, h6_, h7_, h8_, hI⟩
      exact ⟨h0_, h1_, h2_, h3_, h4_, h5_, fun _ => rfl, h7_, h8_, hI⟩
    · intro D hD_ d5_0 d6_1 x77 x76 x75 x74 x73 x72 x71 x70 x69 w_
      rintro ⟨h0_, h1_, h2_, h3_, h4_, h5_, h6_, h7_, h8_, hI⟩
      obtain rfl := h5_ d5_0
      obtain rfl := h6_ d6_1
      refine r_slFromA sl_SiTerm (by omega) (by omega) ?_
      rw [Nat.zero_add]
      exact ⟨h0_, h1_, h2_, h3_, h4_, h5_, h6_, fun _ => rfl, h8_, hI⟩
    · intro D hD_ d4_0 d7_1 x77 x76 x75 x74 x73 x72 x71 x70 x69 w_
      rintro ⟨h0_, h1_, h2_, h3_, h4_, h5_, h6_, h7_, h8_, hI⟩
      obtain rfl := h4_ d4_0
      obtain rfl := h7_ d7_1
      have hI : Inv w X [.blk ub (.cells cs.toArray t_iTerm), .blk g (.cells cur t_iTerm)] S w_ := by rw [hD_] at hI; exact hI
      refine r_copyIn hI 1 g (css.length - i) cur t_iTerm (css.drop i).flatten sl_SiTerm rfl (by omega) (by omega) (fun j u hj => by rw [add_lit, hI.cellL (i := 1) rfl]; exact hD j u hj) (by omega) hd1 fun w' hI => ?_
      rw [show (i + 1) * 4 = i * 4 + cs.length by omega] at hI
      exact ⟨h0_, h1_, h2_, h3_, h4_, h5_, h6_, h7_, fun _ => rfl, hI⟩
    intro D d8_ d7_ d6_ d5_ d4_ d3_ d2_ d1_ d0_ x77 x76 x75 x74 x73 x72 x71 x70 x69 w_
    rintro ⟨h0_, h1_, h2_, h3_, h4_, h5_, h6_, h7_, h8_, hI⟩
    obtain rfl := h8_ d8_
    obtain rfl := h7_ d7_
    obtain rfl := h6_ d6_
    obtain rfl := h5_ d5_
    obtain rfl := h4_ d4_
    obtain rfl := h3_ d3_
    obtain rfl := h2_ d2_
    obtain rfl := h1_ d1_
    obtain rfl := h0_ d0_
    clear h0_ h1_ h2_ h3_ h4_ h5_ h6_ h7_ h8_
    rw [d8_] at hI
    have hI : Inv w X [.blk ub (.cells cs.toArray t_iTerm), .blk g (.cells (putCells cur (i * 4 + cs.length) (css.drop i).flatten) t_iTerm)] S w_ := hI
    refine r_slFromA sl_SiTerm (by omega) (by omega) ?_
    rw [Nat.zero_add]
    refine r_copyIn hI 1 g 1 (putCells cur (i * 4 + cs.length) (css.drop i).flatten) t_iTerm cs sl_SiTerm rfl (by omega) (by omega) (fun j u hj => ?_) (by omega) hc1 fun w' hI => ?_
    · rw [add_lit, hI.cellL (i := 0) rfl, Nat.zero_add]
      simpa using hj
    exact hfin g cap _ _ (hI.pick [false, true]) hgr' (by simp only [maxLen]; omega) (by rw [putCells_size _ _ _ (by omega), hsz2, hcs]) (by rw [putBA (by omega), hcapt])
end

end Go.Proofs.YtgdibnmabnimaaaGreat

/- Whether terms are the same: both sides. -/
namespace Go.Proofs.YtgdibnmabnimaaaGreat
open Go Go.RowKit
attribute [local irreducible] Run CondV GuardV LoadV

def hdEq (t u : T) : Bool := decide (t.kind = u.kind) && (decide (t.n = u.n) && (decide (t.name = u.name) && decide (t.kids.length = u.kids.length)))
theorem hdEq_mk (k n k' n' : Int) (s s' : ByteArray) (ks ks' : List T) : hdEq (.mk k n s ks) (.mk k' n' s' ks') = (decide (k = k') && (decide (n = n') && (decide (s = s') && decide (ks.length = ks'.length)))) := rfl
theorem lenEq {α β : Type} (a : List α) (b : List β) : decide (a.length = b.length) = decide ((a.length : Int) = (b.length : Int)) := by
  rw [Bool.eq_iff_iff]
  simp only [decide_eq_true_eq]
  omega
theorem eqT_hd (t u : T) : eqT t u = (hdEq t u && eqL t.kids u.kids) := by
  obtain ⟨k, n, s, ks⟩ := t
  obtain ⟨k', n', s', ks'⟩ := u
  rw [eqT, hdEq_mk]
  by_cases h : ks.length = ks'.length
  · rw [decide_eq_true h, Bool.and_true, Bool.and_assoc, Bool.and_assoc]; rfl
  · rw [eqL_len h, decide_eq_false h]; simp
theorem s_TermSame_calls : ∀ (t u : T) (S : Store) (cs ds : List Value), RdT S cs t → RdT S ds u → Pure Tryz.prog n_s_TermSame [.agg cs.toArray, .agg ds.toArray] S (.bool (eqT t u)) := by
  refine T.ind fun k n s ks ih u S cs ds h h' => ?_
  intro w hI
  obtain ⟨kv, rfl, _, _, _, hks⟩ := RdT.iff.1 h
  obtain ⟨kv', rfl, _, _, _, hks'⟩ := RdT.iff.1 h'
  obtain ⟨k', n', s', ks'⟩ := u
  simp only [T.name, T.kids, T.kind, T.n] at hks hks' ⊢
  have hlen := hks.le
  simp only [maxLen] at hlen
  refine calls_s_TermSame ?_
  unfold sh_s_TermSame
  refine r_box hI fun b1 w' hI => ?_
  refine r_box hI fun b2 w' hI => ?_
  have hI : Inv w [] [.blk b1 (.cells #[.int .i64 k, .int .i64 n, .string s, kv] t_iTerm), .blk b2 (.cells #[.int .i64 k', .int .i64 n', .string s', kv'] t_iTerm)] S w' := hI
  refine ⟨fun q w' => q = .bool (!hdEq (.mk k n s ks) (.mk k' n' s' ks')) ∧ Inv w [] [.blk b1 (.cells #[.int .i64 k, .int .i64 n, .string s, kv] t_iTerm), .blk b2 (.cells #[.int .i64 k', .int .i64 n', .string s', kv'] t_iTerm)] S w', ?_, ?_⟩
  · refine r_fieldL hI 0 rfl fo_iTerm_0 sc_int rfl ?_
    refine r_fieldL hI 1 rfl fo_iTerm_0 sc_int rfl ?_
    refine r_neq ?_
    by_cases e1 : k = k'
    · rw [decide_eq_true e1]
      repeat (first | refine guard_true ?_ | refine guard_ne (by decide) ?_ | refine guard_undef ?_ | refine r_pickT ?_ | refine r_pickF ?_)
      refine r_fieldL hI 0 rfl fo_iTerm_1 sc_int rfl ?_
      refine r_fieldL hI 1 rfl fo_iTerm_1 sc_int rfl ?_
      refine r_neq ?_
      by_cases e2 : n = n'
      · rw [decide_eq_true e2]
        repeat (first | refine guard_true ?_ | refine guard_ne (by decide) ?_ | refine guard_undef ?_ | refine r_pickT ?_ | refine r_pickF ?_)
        refine r_fieldL hI 0 rfl fo_iTerm_2 sc_string rfl ?_
        refine r_fieldL hI 1 rfl fo_iTerm_2 sc_string rfl ?_
        refine r_sneq ?_
        by_cases e3 : s = s'
        · rw [decide_eq_true e3]
          repeat (first | refine guard_true ?_ | refine guard_ne (by decide) ?_ | refine guard_undef ?_ | refine r_pickT ?_ | refine r_pickF ?_)
          refine r_fieldL hI 0 rfl fo_iTerm_3 sc_SiTerm rfl ?_
          refine r_lenSl hks sl_SiTerm ?_
          refine r_fieldL hI 1 rfl fo_iTerm_3 sc_SiTerm rfl ?_
          refine r_lenSl hks' sl_SiTerm ?_
          refine r_neq ?_
          repeat (first | refine guard_true ?_ | refine guard_ne (by decide) ?_ | refine guard_undef ?_ | refine r_pickT ?_ | refine r_pickF ?_)
          exact ⟨by rw [hdEq_mk, decide_eq_true e1, decide_eq_true e2, decide_eq_true e3, lenEq]; rfl, hI⟩
        · rw [decide_eq_false e3]
          repeat (first | refine guard_true ?_ | refine guard_ne (by decide) ?_ | refine guard_undef ?_ | refine r_pickT ?_ | refine r_pickF ?_)
          exact ⟨by rw [hdEq_mk, decide_eq_true e1, decide_eq_true e2, decide_eq_false e3]; rfl, hI⟩
      · rw [decide_eq_false e2]
        repeat (first | refine guard_true ?_ | refine guard_ne (by decide) ?_ | refine guard_undef ?_ | refine r_pickT ?_ | refine r_pickF ?_)
        exact ⟨by rw [hdEq_mk, decide_eq_true e1, decide_eq_false e2]; rfl, hI⟩
    · rw [decide_eq_false e1]
      repeat (first | refine guard_true ?_ | refine guard_ne (by decide) ?_ | refine guard_undef ?_ | refine r_pickT ?_ | refine r_pickF ?_)
      exact ⟨by rw [hdEq_mk, decide_eq_false e1]; rfl, hI⟩

  intro q _ _ _ _ _ _ _ _ _ _ _ _ _ _ _ _ _ _ _ _ _ _ _ _ _ _ _ w'
  rintro ⟨rfl, hI⟩
  rw [eqT_hd]
  cases hd : hdEq (.mk k n s ks) (.mk k' n' s' ks')
  · refine condV (fun _ => done hI rfl) (fun hb => by cases hb)
  refine condV (fun hb => by cases hb) (fun _ => ?_)
  have hle : ks.length = ks'.length := by
    rw [hdEq_mk] at hd
    simp only [Bool.and_eq_true, decide_eq_true_eq] at hd
    exact hd.2.2.2
  simp only [T.kids, Bool.true_and]
  refine ⟨fun i w' => ∃ j : Nat, j ≤ ks.length ∧ i = .int .i64 j ∧ eqL (ks.drop j) (ks'.drop j) = eqL ks ks' ∧ Inv w [] [.blk b1 (.cells #[.int .i64 k, .int .i64 n, .string s, kv] t_iTerm), .blk b2 (.cells #[.int .i64 k', .int .i64 n', .string s', kv'] t_iTerm)] S w', fun i _ => ks.length - (intOf i).toNat, ⟨0, Nat.zero_le _, rfl, rfl, hI⟩, ?_⟩
  intro t5 _ _ _ _ _ _ _ _ _ _ _ _ _ _ _ _ _ _ _ _ w'
  rintro ⟨j, hj, rfl, hrel, hI⟩
  refine r_fieldL hI 0 rfl fo_iTerm_3 sc_SiTerm rfl ?_
  refine r_lenSl hks sl_SiTerm ?_
  refine r_lss ?_
  refine condP (fun hji => ?_) (fun hji => ?_)
  · have hj1 : j < ks.length := by omega
    have hj2 : j < ks'.length := by omega
    obtain ⟨c1, o1, cap1, a1, E1, fz1, rfl, hS1, hR1⟩ := hks.at_ hj1
    obtain ⟨c2, o2, cap2, a2, E2, fz2, rfl, hS2, hR2⟩ := hks'.at_ hj2
    have hstep : eqL (ks.drop j) (ks'.drop j) = (eqT ks[j] ks'[j] && eqL (ks.drop (j + 1)) (ks'.drop (j + 1))) := by
      rw [List.drop_eq_getElem_cons hj1, List.drop_eq_getElem_cons hj2, eqL]
    refine ⟨fun D x52 x51 x50 x49 x48 x47 x46 x45 x44 x43 x42 x41 w_ => (D 0 = true → x41 = .pointer (some ⟨b1, 3, none⟩)) ∧ (D 1 = true → x42 = .slice (some ⟨c1, o1, none⟩) ks.length cap1) ∧ (D 2 = true → x43 = .int .i64 j) ∧ (D 3 = true → x44 = .pointer (some ⟨c1, o1 + j * 4, none⟩)) ∧ (D 4 = true → x45 = .agg (cellsAt a1 (o1 + j * 4) 4).toArray) ∧ (D 5 = true → x46 = .pointer (some ⟨b2, 3, none⟩)) ∧ (D 6 = true → x47 = .slice (some ⟨c2, o2, none⟩) ks'.length cap2) ∧ (D 7 = true → x48 = .int .i64 j) ∧ (D 8 = true → x49 = .pointer (some ⟨c2, o2 + j * 4, none⟩)) ∧ (D 9 = true → x50 = .agg (cellsAt a2 (o2 + j * 4) 4).toArray) ∧ (D 10 = true → x51 = .bool (eqT ks[j] ks'[j])) ∧ (D 11 = true → x52 = .bool (!eqT ks[j] ks'[j])) ∧ Inv w [] [.blk b1 (.cells #[.int .i64 k, .int .i64 n, .string s, .slice (some ⟨c1, o1, none⟩) ks.length cap1] t_iTerm), .blk b2 (.cells #[.int .i64 k', .int .i64 n', .string s', .slice (some ⟨c2, o2, none⟩) ks'.length cap2] t_iTerm)] S w_, ⟨fun h => Bool.noConfusion h, fun h => Bool.noConfusion h, fun h => Bool.noConfusion h, fun h => Bool.noConfusion h, fun h => Bool.noConfusion h, fun h => Bool.noConfusion h, fun h => Bool.noConfusion h, fun h => Bool.noConfusion h, fun h => Bool.noConfusion h, fun h => Bool.noConfusion h, fun h => Bool.noConfusion h, fun h => Bool.noConfusion h, hI.draw⟩, ⟨?_, ?_, ?_, ?_, ?_, ?_, ?_, ?_, ?_, ?_, ?_, ?_, trivial⟩, ?_⟩
    · intro D hD_  x52 x51 x50 x49 x48 x47 x46 x45 x44 x43 x42 x41 w_
      rintro ⟨h0_, h1_, h2_, h3_, h4_, h5_, h6_, h7_, h8_, h9_, h10_, h11_, hI⟩
      refine r_field fo_iTerm_3 ?_
      exact ⟨fun _ => rfl, h1_, h2_, h3_, h4_, h5_, h6_, h7_, h8_, h9_, h10_, h11_, hI⟩
    · intro D hD_ d0_0 x52 x51 x50 x49 x48 x47 x46 x45 x44 x43 x42 x41 w_
      rintro ⟨h0_, h1_, h2_, h3_, h4_, h5_, h6_, h7_, h8_, h9_, h10_, h11_, hI⟩
      obtain rfl := h0_ d0_0
      refine r_loadL hI 0 sc_SiTerm rfl rfl ?_
      exact ⟨h0_, fun _ => rfl, h2_, h3_, h4_, h5_, h6_, h7_, h8_, h9_, h10_, h11_, hI⟩
    · intro D hD_  x52 x51 x50 x49 x48 x47 x46 x45 x44 x43 x42 x41 w_
      rintro ⟨h0_, h1_, h2_, h3_, h4_, h5_, h6_, h7_, h8_, h9_, h10_, h11_, hI⟩
      exact ⟨h0_, h1_, fun _ => rfl, h3_, h4_, h5_, h6_, h7_, h8_, h9_, h10_, h11_, hI⟩
    · intro D hD_ d1_0 d2_1 x52 x51 x50 x49 x48 x47 x46 x45 x44 x43 x42 x41 w_
      rintro ⟨h0_, h1_, h2_, h3_, h4_, h5_, h6_, h7_, h8_, h9_, h10_, h11_, hI⟩
      obtain rfl := h1_ d1_0
      obtain rfl := h2_ d2_1
      refine r_indexAddr sl_SiTerm hj1 ?_
      exact ⟨h0_, h1_, h2_, fun _ => rfl, h4_, h5_, h6_, h7_, h8_, h9_, h10_, h11_, hI⟩
    · intro D hD_ d3_0 x52 x51 x50 x49 x48 x47 x46 x45 x44 x43 x42 x41 w_
      rintro ⟨h0_, h1_, h2_, h3_, h4_, h5_, h6_, h7_, h8_, h9_, h10_, h11_, hI⟩
      obtain rfl := h3_ d3_0
      refine r_loadA ag_iTerm hR1.length (fun j v hj => by rw [hI.cellS hS1]; exact cellsAt_get rfl j v hj) ?_
      exact ⟨h0_, h1_, h2_, h3_, fun _ => rfl, h5_, h6_, h7_, h8_, h9_, h10_, h11_, hI⟩
    · intro D hD_  x52 x51 x50 x49 x48 x47 x46 x45 x44 x43 x42 x41 w_
      rintro ⟨h0_, h1_, h2_, h3_, h4_, h5_, h6_, h7_, h8_, h9_, h10_, h11_, hI⟩
      refine r_field fo_iTerm_3 ?_
      exact ⟨h0_, h1_, h2_, h3_, h4_, fun _ => rfl, h6_, h7_, h8_, h9_, h10_, h11_, hI⟩
    · intro D hD_ d5_0 x52 x51 x50 x49 x48 x47 x46 x45 x44 x43 x42 x41 w_
      rintro ⟨h0_, h1_, h2_, h3_, h4_, h5_, h6_, h7_, h8_, h9_, h10_, h11_, hI⟩
      obtain rfl := h5_ d5_0
      refine r_loadL hI 1 sc_SiTerm rfl rfl ?_
      exact ⟨h0_, h1_, h2_, h3_, h4_, h5_, fun _ => rfl, h7_, h8_, h9_, h10_, h11_, hI⟩
    · intro D hD_  x52 x51 x50 x49 x48 x47 x46 x45 x44 x43 x42 x41 w_
      rintro ⟨h0_, h1_, h2_, h3_, h4_, h5_, h6_, h7_, h8_, h9_, h10_, h11_, hI⟩
      exact ⟨h0_, h1_, h2_, h3_, h4_, h5_, h6_, fun _ => rfl, h8_, h9_, h10_, h11_, hI⟩
    · intro D hD_ d6_0 d7_1 x52 x51 x50 x49 x48 x47 x46 x45 x44 x43 x42 x41 w_
      rintro ⟨h0_, h1_, h2_, h3_, h4_, h5_, h6_, h7_, h8_, h9_, h10_, h11_, hI⟩
      obtain rfl := h6_ d6_0
      obtain rfl := h7_ d7_1
      refine r_indexAddr sl_SiTerm hj2 ?_
      exact ⟨h0_, h1_, h2_, h3_, h4_, h5_, h6_, h7_, fun _ => rfl, h9_, h10_, h11_, hI⟩
    · intro D hD_ d8_0 x52 x51 x50 x49 x48 x47 x46 x45 x44 x43 x42 x41 w_
      rintro ⟨h0_, h1_, h2_, h3_, h4_, h5_, h6_, h7_, h8_, h9_, h10_, h11_, hI⟩
      obtain rfl := h8_ d8_0
      refine r_loadA ag_iTerm hR2.length (fun j v hj => by rw [hI.cellS hS2]; exact cellsAt_get rfl j v hj) ?_
      exact ⟨h0_, h1_, h2_, h3_, h4_, h5_, h6_, h7_, h8_, fun _ => rfl, h10_, h11_, hI⟩
    · intro D hD_ d4_0 d9_1 x52 x51 x50 x49 x48 x47 x46 x45 x44 x43 x42 x41 w_
      rintro ⟨h0_, h1_, h2_, h3_, h4_, h5_, h6_, h7_, h8_, h9_, h10_, h11_, hI⟩
      obtain rfl := h4_ d4_0
      obtain rfl := h9_ d9_1
      refine Run.callPure fn_s_TermSame nm_s_TermSame hI (ih _ (List.getElem_mem hj1) _ S _ _ hR1 hR2) fun w_ hI => ?_
      exact ⟨h0_, h1_, h2_, h3_, h4_, h5_, h6_, h7_, h8_, h9_, fun _ => rfl, h11_, hI⟩
    · intro D hD_ d10_0 x52 x51 x50 x49 x48 x47 x46 x45 x44 x43 x42 x41 w_
      rintro ⟨h0_, h1_, h2_, h3_, h4_, h5_, h6_, h7_, h8_, h9_, h10_, h11_, hI⟩
      obtain rfl := h10_ d10_0
      refine r_not ?_
      exact ⟨h0_, h1_, h2_, h3_, h4_, h5_, h6_, h7_, h8_, h9_, h10_, fun _ => rfl, hI⟩
    intro D d11_ d10_ d9_ d8_ d7_ d6_ d5_ d4_ d3_ d2_ d1_ d0_ x52 x51 x50 x49 x48 x47 x46 x45 x44 x43 x42 x41 w_
    rintro ⟨h0_, h1_, h2_, h3_, h4_, h5_, h6_, h7_, h8_, h9_, h10_, h11_, hI⟩
    obtain rfl := h11_ d11_
    obtain rfl := h10_ d10_
    obtain rfl := h9_ d9_
    obtain rfl := h8_ d8_
    obtain rfl := h7_ d7_
    obtain rfl := h6_ d6_
    obtain rfl := h5_ d5_
    obtain rfl := h4_ d4_
    obtain rfl := h3_ d3_
    obtain rfl := h2_ d2_
    obtain rfl := h1_ d1_
    obtain rfl := h0_ d0_
    clear h0_ h1_ h2_ h3_ h4_ h5_ h6_ h7_ h8_ h9_ h10_ h11_
    refine condV (fun hne => ?_) (fun he' => ?_)
    · exact done hI (by rw [← hrel, hstep]; simp at hne; rw [hne]; rfl)
    · refine r_add (by omega) ?_
      refine ⟨⟨j + 1, hj1, rfl, ?_, hI⟩, by simp [intOf]; omega⟩
      rw [← hrel, hstep]
      simp at he'
      rw [he', Bool.true_and]
  · have : j = ks.length := by omega
    subst this
    refine done hI ?_
    rw [← hrel, List.drop_length, hle, List.drop_length]
    rfl

end Go.Proofs.YtgdibnmabnimaaaGreat

/- Whether terms are the same: the program's side. -/
namespace Go.Proofs.YtgdibnmabnimaaaGreat
open Go Go.RowKit
attribute [local irreducible] Run CondV GuardV LoadV

theorem EqualFunc_of {xs : List T} (ih : ∀ t ∈ xs, ∀ (u : T) (S : Store) (cs ds : List Value), RdT S cs t → RdT S ds u → Pure Tryz.prog n_i_TermSame [.agg cs.toArray, .agg ds.toArray] S (.bool (eqT t u)))
    {ys : List T} {S : Store} {v u : Value} (h : RdSl S 4 (RdT S) v xs) (h' : RdSl S 4 (RdT S) u ys) : Pure Tryz.prog n_x_EqualFunc_Term [v, u, .func (.func n_i_TermSame) #[] #[]] S (.bool (eqL xs ys)) := by
  intro w hI
  have hlen : (xs.length : Int) ≤ 9223372036854775807 := by have := h.le; simp only [maxLen] at this; omega
  refine calls_x_EqualFunc_Term ?_
  unfold sh_x_EqualFunc_Term
  refine r_lenSl h sl_SiTerm ?_
  refine r_lenSl h' sl_SiTerm ?_
  refine r_neq ?_
  refine condV (fun hne => ?_) (fun he => ?_)
  · exact done hI (by rw [eqL_len (by simp at hne; omega)])
  have he : xs.length = ys.length := by simp at he; omega
  refine r_lenSl h sl_SiTerm ?_
  refine ⟨fun i w' => ∃ (k : Nat), k ≤ xs.length ∧ i = .int .i64 k ∧ eqL (xs.drop k) (ys.drop k) = eqL xs ys ∧ Inv w [] [] S w', fun i _ => xs.length - (intOf i).toNat, ⟨0, Nat.zero_le _, rfl, rfl, hI⟩, ?_⟩
  intro t5 _ _ _ _ _ _ _ _ _ _ _ _ _ _ _ _ _ _ w'
  rintro ⟨k, hk, rfl, hrel, hI⟩
  refine r_lss ?_
  refine condP (fun hki => ?_) (fun hki => ?_)
  · have hk1 : k < xs.length := by omega
    have hk2 : k < ys.length := by omega
    have hstep : eqL (xs.drop k) (ys.drop k) = (eqT xs[k] ys[k] && eqL (xs.drop (k + 1)) (ys.drop (k + 1))) := by
      rw [List.drop_eq_getElem_cons hk1, List.drop_eq_getElem_cons hk2, eqL]
    refine r_elem hI h sl_SiTerm ag_iTerm hk1 (fun _ _ => RdT.length) fun cs hcs => ?_
    have hlc := hcs.length
    refine r_alloc hI zo_iTerm fun b8 w' hI => ?_
    refine r_storeW hI 0 rfl ag_iTerm (by simpa using hlc) rfl (by simpa using hcs.one) fun w' hI => ?_
    refine r_elem hI h' sl_SiTerm ag_iTerm hk2 (fun _ _ => RdT.length) fun ds hds => ?_
    have hld := hds.length
    refine r_alloc hI zo_iTerm fun b9 w' hI => ?_
    refine r_storeW hI 1 rfl ag_iTerm (by simpa using hld) rfl (by simpa using hds.one) fun w' hI => ?_
    refine r_loadW hI 0 ag_iTerm rfl (by simpa using hlc) ?_
    refine r_loadW hI 1 ag_iTerm rfl (by simpa using hld) ?_
    refine Run.callPure fn_i_TermSame nm_i_TermSame hI (ih _ (List.getElem_mem hk1) _ S _ _ hcs hds) fun w' hI => ?_
    refine r_not ?_
    refine condV (fun hne => ?_) (fun he' => ?_)
    · exact done hI (by rw [← hrel, hstep]; simp at hne; rw [hne]; rfl)
    · refine r_add (by omega) ?_
      refine ⟨⟨k + 1, hk1, rfl, ?_, hI.nil⟩, by simp [intOf]; omega⟩
      rw [← hrel, hstep]
      simp at he'
      rw [he', Bool.true_and]
  · have : k = xs.length := by omega
    subst this
    refine done hI ?_
    rw [← hrel, List.drop_length, he, List.drop_length]
    rfl
theorem i_TermSame_calls : ∀ (t u : T) (S : Store) (cs ds : List Value), RdT S cs t → RdT S ds u → Pure Tryz.prog n_i_TermSame [.agg cs.toArray, .agg ds.toArray] S (.bool (eqT t u)) := by
  refine T.ind fun k n s ks ih u S cs ds h h' => ?_
  intro w hI
  obtain ⟨kv, rfl, _, _, _, hks⟩ := RdT.iff.1 h
  obtain ⟨kv', rfl, _, _, _, hks'⟩ := RdT.iff.1 h'
  obtain ⟨k', n', s', ks'⟩ := u
  simp only [T.name, T.kids, T.kind, T.n] at hks hks' ⊢
  refine calls_i_TermSame ?_
  unfold sh_i_TermSame
  refine r_box hI fun b1 w' hI => ?_
  refine r_box hI fun b2 w' hI => ?_
  refine r_fieldL hI 0 rfl fo_iTerm_0 sc_int rfl ?_
  refine r_fieldL hI 1 rfl fo_iTerm_0 sc_int rfl ?_
  refine r_eql ?_
  by_cases e1 : k = k'
  · rw [decide_eq_true e1]
    repeat (first | refine guard_true ?_ | refine guard_ne (by decide) ?_ | refine guard_undef ?_ | refine r_pickT ?_ | refine r_pickF ?_)
    refine r_fieldL hI 0 rfl fo_iTerm_1 sc_int rfl ?_
    refine r_fieldL hI 1 rfl fo_iTerm_1 sc_int rfl ?_
    refine r_eql ?_
    by_cases e2 : n = n'
    · rw [decide_eq_true e2]
      repeat (first | refine guard_true ?_ | refine guard_ne (by decide) ?_ | refine guard_undef ?_ | refine r_pickT ?_ | refine r_pickF ?_)
      refine r_fieldL hI 0 rfl fo_iTerm_2 sc_string rfl ?_
      refine r_fieldL hI 1 rfl fo_iTerm_2 sc_string rfl ?_
      refine r_seql ?_
      by_cases e3 : s = s'
      · rw [decide_eq_true e3]
        repeat (first | refine guard_true ?_ | refine guard_ne (by decide) ?_ | refine guard_undef ?_ | refine r_pickT ?_ | refine r_pickF ?_)
        refine r_fieldL hI 0 rfl fo_iTerm_3 sc_SiTerm rfl ?_
        refine r_fieldL hI 1 rfl fo_iTerm_3 sc_SiTerm rfl ?_
        refine Run.callPure fn_x_EqualFunc_Term nm_x_EqualFunc_Term hI (EqualFunc_of ih hks hks') fun w' hI => ?_
        repeat (first | refine guard_true ?_ | refine guard_ne (by decide) ?_ | refine guard_undef ?_ | refine r_pickT ?_ | refine r_pickF ?_)
        exact done hI (by rw [eqT, decide_eq_true e1, decide_eq_true e2, decide_eq_true e3]; rfl)
      · rw [decide_eq_false e3]
        repeat (first | refine guard_true ?_ | refine guard_ne (by decide) ?_ | refine guard_undef ?_ | refine r_pickT ?_ | refine r_pickF ?_)
        exact done hI (by rw [eqT, decide_eq_true e1, decide_eq_true e2, decide_eq_false e3]; rfl)
    · rw [decide_eq_false e2]
      repeat (first | refine guard_true ?_ | refine guard_ne (by decide) ?_ | refine guard_undef ?_ | refine r_pickT ?_ | refine r_pickF ?_)
      exact done hI (by rw [eqT, decide_eq_true e1, decide_eq_false e2]; rfl)
  · rw [decide_eq_false e1]
    repeat (first | refine guard_true ?_ | refine guard_ne (by decide) ?_ | refine guard_undef ?_ | refine r_pickT ?_ | refine r_pickF ?_)
    exact done hI (by rw [eqT, decide_eq_false e1]; rfl)

end Go.Proofs.YtgdibnmabnimaaaGreat

/- Maps from numbers to terms. -/
namespace Go.Proofs.YtgdibnmabnimaaaGreat
open Go Go.RowKit

theorem findNow_int {n : Int} : ∀ (l : List MapEntry) (i : Nat), (∀ e ∈ l, ∃ m, e.key = .int .i64 m) →
    (∃ j, ∃ e ∈ l, e.key = .int .i64 n ∧ Instr.findNow (.int .i64) (.int .i64 n) l i = some (some (j, e.val))) ∨ ((∀ e ∈ l, e.key ≠ .int .i64 n) ∧ Instr.findNow (.int .i64) (.int .i64 n) l i = some none)
  | [], i, _ => .inr ⟨by simp, rfl⟩
  | e :: l, i, h => by
    obtain ⟨m, hm⟩ := h e (List.mem_cons_self ..)
    have hs : Instr.sameNow (.int .i64) (.int .i64 n) e.key = some (n == m) := by rw [hm]; rfl
    by_cases hnm : n = m
    · refine .inl ⟨i, e, List.mem_cons_self .., by rw [hm, hnm], ?_⟩
      have : (n == m) = true := by simpa using hnm
      rw [Instr.findNow, hs, this]
    · have h2 : (n == m) = false := by simpa using hnm
      rcases findNow_int l (i + 1) (fun e he => h e (List.mem_cons_of_mem _ he)) with ⟨j, e', he', hk, hf⟩ | ⟨hk, hf⟩
      · exact .inl ⟨j, e', List.mem_cons_of_mem _ he', hk, by rw [Instr.findNow, hs, h2]; exact hf⟩
      · refine .inr ⟨fun x hx => ?_, by rw [Instr.findNow, hs, h2]; exact hf⟩
        rcases List.mem_cons.1 hx with rfl | hx
        · rw [hm]
          intro e'
          simp only [Value.int.injEq, true_and] at e'
          exact hnm e'.symm
        · exact hk x hx
section
variable {P : Program} {w w0 : World} {X : List Nat} {L : List Item} {S : Store} {K : Value → World → Prop}
attribute [local irreducible] Run CondV GuardV LoadV
theorem run_findKeyI {kt : TypeId} {d : TypeDesc} {k : Value} {l : List MapEntry} {a : Option (Nat × Value)} (hd : P.underlying kt = some d) (h : Instr.findNow d k l 0 = some a) : (Instr.findKey kt k l).run P w = .ok a w := by
  simp [Instr.findKey, run_underlying hd, Result.andThen, h]
theorem r_makeMap (h : Inv w0 X L S w) {T ty : TypeId} (hk : ∀ b w', Inv w0 X (L ++ [.blk b (.map #[] 0)]) S w' → K (.map (some b)) w') : Run P (sOp (.makeMap T none) ty) w K := by
  refine Run.of (v := .map (some w.heap.size)) (w' := { w with heap := w.heap.push (.map #[] 0) }) ?_ (hk _ _ (h.alloc _))
  simp [sOp, execOp, Instr.makeMap, newObj, Sem.run]
theorem r_lookup (h : Inv w0 X L S w) {T kt et ty : TypeId} {b clock : Nat} {es : Array MapEntry} {n : Int} {z v : Value} {ok : Bool} (i : Nat) (hT : P.underlying T = some (.map kt et)) (hkt : P.underlying kt = some (.int .i64))
    (hz : zeroOf P et = some z) (hi : L[i]? = some (.blk b (.map es clock)))
    (hf : (∃ j, Instr.findNow (.int .i64) (.int .i64 n) es.toList 0 = some (some (j, v)) ∧ ok = true) ∨ (Instr.findNow (.int .i64) (.int .i64 n) es.toList 0 = some none ∧ v = z ∧ ok = false))
    (hk : K (.tuple #[v, .bool ok]) w) : Run P (sOp (.lookup T (.const (.map (some b))) (.const (.int .i64 n)) true) ty) w K := by
  have hb : w.heap[b]? = some (.map es clock) := h.its _ (List.mem_of_getElem? hi)
  have hck : ∀ e, (Instr.checkKey e 10000 kt (.int .i64 n)).run P w = .ok () w := fun e => by
    rw [show (10000 : Nat) = 9999 + 1 from rfl, Instr.checkKey]
    simp [run_underlying hkt]
  obtain ⟨inf, hi1, hi2⟩ : ∃ inf, P.info? et = some inf ∧ inf.zero = some z := by
    unfold zeroOf at hz
    cases hinf : P.info? et with
    | none => rw [hinf] at hz; simp at hz
    | some inf => rw [hinf] at hz; exact ⟨inf, rfl, by simpa using hz⟩
  have hzv : (zeroValue et).run P w = .ok z w := by simp [zeroValue, typeInfo, hi1, hi2]
  refine Run.of ?_ hk
  have hg : (getObj b).run P w = .ok (.map es clock) w := by simp [getObj, Sem.run, hb]
  rcases hf with ⟨j, hf, rfl⟩ | ⟨hf, rfl, rfl⟩
  · have hfk := run_findKeyI (P := P) (w := w) hkt hf
    simp [sOp, execOp, ev0, evE, Instr.lookup, run_underlying hT, hg, hck, hfk]
  · have hfk := run_findKeyI (P := P) (w := w) hkt hf
    simp [sOp, execOp, ev0, evE, Instr.lookup, run_underlying hT, hg, hck, hfk, hzv]
theorem r_mapNew (h : Inv w0 X L S w) {T kt et ty : TypeId} {b clock : Nat} {es : Array MapEntry} {n : Int} {v : Value} (i : Nat) (hT : P.underlying T = some (.map kt et)) (hkt : P.underlying kt = some (.int .i64))
    (hi : L[i]? = some (.blk b (.map es clock))) (hf : Instr.findNow (.int .i64) (.int .i64 n) es.toList 0 = some none)
    (hk : ∀ w', Inv w0 X (L.set i (.blk b (.map (es.push { key := .int .i64 n, val := v, born := clock }) (clock + 1)))) S w' → K undef w') :
    Run P (sOp (.mapUpdate T (.const (.map (some b))) (.const (.int .i64 n)) (.const v)) ty) w K := by
  have hb : w.heap[b]? = some (.map es clock) := h.its _ (List.mem_of_getElem? hi)
  have hck : ∀ e, (Instr.checkKey e 10000 kt (.int .i64 n)).run P w = .ok () w := fun e => by
    rw [show (10000 : Nat) = 9999 + 1 from rfl, Instr.checkKey]
    simp [run_underlying hkt]
  have hg : (getObj b).run P w = .ok (.map es clock) w := by simp [getObj, Sem.run, hb]
  have hfk := run_findKeyI (P := P) (w := w) hkt hf
  refine Run.ofSkip (w' := { w with heap := w.heap.setIfInBounds b (.map (es.push { key := .int .i64 n, val := v, born := clock }) (clock + 1)) }) ?_ (hk _ (h.setBlk hi _ rfl))
  have hst : (setObj b (.map (es.push { key := .int .i64 n, val := v, born := clock }) (clock + 1))).run P w = .ok () { w with heap := w.heap.setIfInBounds b (.map (es.push { key := .int .i64 n, val := v, born := clock }) (clock + 1)) } := by simp [setObj, Sem.run, hb]
  simp [sOp, execOp, ev0, evE, Instr.mapUpdate, run_underlying hT, hg, hck, hfk, hst]
end

end Go.Proofs.YtgdibnmabnimaaaGreat

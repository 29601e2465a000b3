/- impl.ownProgram; spec's copies. -/
import Derived.Test.YtnoieadimkgjcaaOwnC
namespace Go.Proofs.Ytnoieadimkgjcaa
open Go Go.RowKit
theorem RdC.one {S : Store} {cs : List Value} {c : C} (h : RdC S cs c) : ∀ u ∈ cs, u.oneCell' = true := by
  obtain ⟨hd, ks, rfl, h1, a, cap, rfl, _⟩ := h
  intro u hu
  rcases List.mem_append.1 hu with hu | hu
  · exact h1.one u hu
  · simp at hu; subst hu; rfl
section
attribute [local irreducible] Run CondV GuardV LoadV
theorem ownProgram_calls {p : List C} {S : Store} {v : Value} (h : RdSl S 5 (RdC S) v p) (hw : p.length + wP p ≤ 1048576) : Tri Try.prog n_i_ownProgram [v] [] S (PostS 5 TrC S p) := by
  intro w hI
  refine calls_i_ownProgram ?_
  unfold sh_i_ownProgram
  refine r_lenSl h sl_SiClause ?_
  refine ⟨fun i t w' => ∃ (k : Nat) (Ls : List Heaplet) (css : List (List Value)), k ≤ p.length ∧ i = .int .i64 k ∧ Grown 5 TrC Ls css (p.take k) ∧ Inv w [] (rowG t t_iClause 5 css :: blks Ls.flatten) S w',
    fun i _ _ => p.length - (intOf i).toNat, ⟨0, [], [], Nat.zero_le _, rfl, Grown.nil _ _, hI.rowNil t_iClause 5⟩, ?_⟩
  intro t8 _ t3 _ _ _ _ _ _ _ _ _ w'
  rintro ⟨k, Ls, css, hk, rfl, hg, hI⟩
  refine r_lss ?_
  refine condP (fun hki => ?_) (fun hki => ?_)
  · have hk' : k < p.length := by omega
    have htl : (p.take k).length = k := by simp; omega
    have hcl := hg.hc
    refine r_elem hI h sl_SiClause ag_iClause hk' (fun _ _ => RdC.length) fun cs hcs => ?_
    have hm := List.getElem_mem hk'
    have hwm := wP_mem hm
    have hlc := hcs.length
    refine r_alloc hI zo_iClause fun b6 w' hI => ?_
    have hI := hI.perm (M := .blk b6 _ :: (rowG t3 t_iClause 5 css :: blks Ls.flatten)) (List.perm_append_comm (l₁ := [_]))
    refine r_storeW hI 0 rfl ag_iClause (by simpa using hlc) rfl (by simpa using hcs.one) fun w' hI => ?_
    refine r_loadW hI 0 ag_iClause rfl (by simpa using hlc) ?_
    have hI : Inv w [] (rowG t3 t_iClause 5 css :: blks Ls.flatten) S w' := hI.sub (List.sublist_cons_self _ _)
    refine Run.call0 fn_i_ownClause nm_i_ownClause hI (ownClause_calls hcs (by omega)) fun v' I' S' w' => ?_
    rintro ⟨rfl, cs', L, rfl, rfl, hT⟩ _ hI
    refine r_append1 hI 0 cs' mk_SiClause (by omega) (by omega) rfl hT.length hT.one (by omega) (by omega) fun v' w' hI => ?_
    refine r_add (by omega) ?_
    refine ⟨⟨k + 1, Ls ++ [L], css ++ [cs'], hk', rfl, ?_, ?_⟩, by simp [intOf]; omega⟩
    · rw [List.take_succ_eq_append_getElem hk']
      exact hg.snoc hT hT.length
    · simp only [List.flatten_append, List.flatten_cons, List.flatten_nil, List.append_nil, blks_append]
      exact hI
  · have : k = p.length := by omega
    subst this
    rw [List.take_length] at hg
    obtain ⟨L, hT, hI⟩ := Inv.rowTree (A := []) hI hg
    exact ⟨_, _, _, rfl, hI, Ext.refl _ _ _, rfl, _, rfl, hT⟩

/- a row's value is a slice -/
theorem Inv.rowSlice {w0 w : World} {X : List Nat} {L : List Item} {S : Store} {v : Value} {e : TypeId} {k n : Nat} {xs : List Value} (h : Inv w0 X L S w) (i : Nat) (hi : L[i]? = some (.row v e k n xs)) : ∃ a m c, v = .slice a m c := by
  have hm : w.ownsRow 0 e k v n xs := h.its (.row v e k n xs) (List.mem_of_getElem? hi)
  rcases hm.2 with ⟨rfl, _⟩ | ⟨g, cap, cur, rfl, _⟩
  · exact ⟨_, _, _, rfl⟩
  · exact ⟨_, _, _, rfl⟩
def cpItems (B1 B2 B3 B3' r r' : Item) (rest : List Item) (M : Heaplet) (B27 : Item) (d7 d8 d9 d11 : Bool) : List Item :=
  B1 :: B2 :: (match d11 with | true => B3' | false => B3) :: (match d9 with | true => r' | false => r) :: (rest ++ ((match d7 with | true => blks M | false => []) ++ (match d8 with | true => [B27] | false => [])))

theorem l1Copy_calls : ∀ (t : T) (S : Store) (cs : List Value), RdT S cs t → wT t ≤ 1048576 → Tri Try.prog n_s_l1Copy [.agg cs.toArray] [] S (PostT S t) := by
  refine T.ind fun k n s ks ih S cs h hw => ?_
  intro w hI
  obtain ⟨kv, rfl, h1, h2, hs, hks⟩ := RdT.iff.1 h
  simp only [T.name, T.kids, T.kind, T.n] at h1 h2 hs hks ⊢
  simp only [wT] at hw
  refine calls_s_l1Copy ?_
  unfold sh_s_l1Copy
  refine r_box hI fun b1 w' hI => ?_
  refine r_alloc hI zo_iTerm fun b2 w' hI => ?_
  refine r_fieldL hI 0 rfl fo_iTerm_0 sc_int rfl ?_
  refine r_fieldL hI 0 rfl fo_iTerm_1 sc_int rfl ?_
  refine r_fieldL hI 0 rfl fo_iTerm_2 sc_string rfl ?_
  refine r_buildTerm ?_
  refine r_alloc hI zo_iTerm fun b3 w' hI => ?_
  refine r_storeW hI 2 rfl ag_iTerm rfl rfl (by simp [Value.oneCell']) fun w' hI => ?_
  have hI := hI.rowNil t_iTerm 4
  refine ⟨fun i w' => ∃ (j : Nat) (kvc : Value) (Ls : List Heaplet) (css : List (List Value)), j ≤ ks.length ∧ i = .int .i64 j ∧ Grown 4 TrT Ls css (ks.take j) ∧
      Inv w [] (.blk b1 (.cells #[.int .i64 k, .int .i64 n, .string s, kv] t_iTerm) :: .blk b2 (.cells #[.int .i64 0, .int .i64 0, .string ⟨#[]⟩, .slice none 0 0] t_iTerm) :: .blk b3 (.cells #[.int .i64 k, .int .i64 n, .string s, kvc] t_iTerm) :: rowG kvc t_iTerm 4 css :: blks Ls.flatten) S w',
    fun i _ => ks.length - (intOf i).toNat, ⟨0, _, [], [], Nat.zero_le _, rfl, Grown.nil _ _, hI⟩, ?_⟩
  intro t4 _ _ _ _ _ _ _ _ _ _ _ _ _ _ _ _ _ _ w'
  rintro ⟨j, kvc, Ls, css, hj, rfl, hg, hI⟩
  refine r_fieldL hI 0 rfl fo_iTerm_3 sc_SiTerm rfl ?_
  refine r_lenSl hks sl_SiTerm ?_
  refine r_lss ?_
  refine condP (fun hji => ?_) (fun hji => ?_)
  · have hj' : j < ks.length := by omega
    have hjl : (ks.take j).length = j := by simp; omega
    have hcl := hg.hc
    have hm := List.getElem_mem hj'
    have hwm := wL_mem hm
    obtain ⟨b, o, cap, c, E, fz, rfl, hS, hR⟩ := hks.at_ hj'
    refine ⟨fun D x29 x28 x27 x26 x25 x24 x23 x22 x21 x20 x19 w_ => (D 0 = true → x19 = .pointer (some ⟨b3, 3, none⟩)) ∧ (D 1 = true → x20 = kvc) ∧ (D 2 = true → x21 = .pointer (some ⟨b1, 3, none⟩)) ∧ (D 3 = true → x22 = .slice (some ⟨b, o, none⟩) (ks).length cap) ∧ (D 4 = true → x23 = .int .i64 j) ∧ (D 5 = true → x24 = .pointer (some ⟨b, o + j * 4, none⟩)) ∧ (D 6 = true → x25 = .agg (cellsAt c (o + j * 4) 4).toArray) ∧ (D 7 = true → True) ∧ (D 8 = true → True) ∧ (D 9 = true → True) ∧ (D 10 = true → x29 = .pointer (some ⟨b3, 3, none⟩)) ∧ (D 11 = true → True) ∧ ∃ M cs7 b8, (D 7 = true → x26 = .agg cs7.toArray ∧ TrT M cs7 (ks)[j]) ∧ (D 8 = true → x27 = .slice (some ⟨b8, 0, none⟩) 1 1) ∧ (D 8 = true → D 7 = true) ∧ (D 9 = true → D 8 = true) ∧ (D 11 = true → D 9 = true) ∧ (D 11 = true → D 1 = true) ∧ Inv w [] (cpItems (.blk b1 (.cells #[.int .i64 k, .int .i64 n, .string s, .slice (some ⟨b, o, none⟩) ks.length cap] t_iTerm)) (.blk b2 (.cells #[.int .i64 0, .int .i64 0, .string ⟨#[]⟩, .slice none 0 0] t_iTerm)) (.blk b3 (.cells #[.int .i64 k, .int .i64 n, .string s, kvc] t_iTerm)) (.blk b3 (.cells #[.int .i64 k, .int .i64 n, .string s, x28] t_iTerm)) (rowG kvc t_iTerm 4 css) (rowG x28 t_iTerm 4 (css ++ [cs7])) (blks Ls.flatten) M (.blk b8 (.cells cs7.toArray t_iTerm)) (D 7) (D 8) (D 9) (D 11)) S w_, ⟨fun h => Bool.noConfusion h, fun h => Bool.noConfusion h, fun h => Bool.noConfusion h, fun h => Bool.noConfusion h, fun h => Bool.noConfusion h, fun h => Bool.noConfusion h, fun h => Bool.noConfusion h, fun h => Bool.noConfusion h, fun h => Bool.noConfusion h, fun h => Bool.noConfusion h, fun h => Bool.noConfusion h, fun h => Bool.noConfusion h, ⟨[], [], 0, fun h => Bool.noConfusion h, fun h => Bool.noConfusion h, fun h => Bool.noConfusion h, fun h => Bool.noConfusion h, fun h => Bool.noConfusion h, fun h => Bool.noConfusion h, by simpa [cpItems, blks] using hI.draw⟩⟩, ⟨?_, ?_, ?_, ?_, ?_, ?_, ?_, ?_, ?_, ?_, ?_, ?_, trivial⟩, ?_⟩
    · intro D hD_  x29 x28 x27 x26 x25 x24 x23 x22 x21 x20 x19 w_
      rintro ⟨h0_, h1_, h2_, h3_, h4_, h5_, h6_, h7_, h8_, h9_, h10_, h11_, ⟨M, cs7, b8, e7, e8, k8, k9, k11, k1, hI⟩⟩
      refine r_field fo_iTerm_3 ?_
      exact ⟨fun _ => rfl, h1_, h2_, h3_, h4_, h5_, h6_, h7_, h8_, h9_, h10_, h11_, ⟨M, cs7, b8, e7, e8, k8, k9, k11, k1, hI⟩⟩
    · intro D hD_ d0_0 x29 x28 x27 x26 x25 x24 x23 x22 x21 x20 x19 w_
      rintro ⟨h0_, h1_, h2_, h3_, h4_, h5_, h6_, h7_, h8_, h9_, h10_, h11_, ⟨M, cs7, b8, e7, e8, k8, k9, k11, k1, hI⟩⟩
      obtain rfl := h0_ d0_0
      have f11 : D 11 = false := Bool.eq_false_iff.2 fun h => by rw [k1 h] at hD_; cases hD_
      refine r_loadL (b := b3) hI 2 (c := (#[.int .i64 k, .int .i64 n, .string s, kvc])) sc_SiTerm (by rw [f11]; rfl) rfl ?_
      have k1 := fun (_ : setD D 1 11 = true) => (rfl : setD D 1 1 = true)
      exact ⟨h0_, fun _ => rfl, h2_, h3_, h4_, h5_, h6_, h7_, h8_, h9_, h10_, h11_, ⟨M, cs7, b8, e7, e8, k8, k9, k11, k1, hI⟩⟩
    · intro D hD_  x29 x28 x27 x26 x25 x24 x23 x22 x21 x20 x19 w_
      rintro ⟨h0_, h1_, h2_, h3_, h4_, h5_, h6_, h7_, h8_, h9_, h10_, h11_, ⟨M, cs7, b8, e7, e8, k8, k9, k11, k1, hI⟩⟩
      refine r_field fo_iTerm_3 ?_
      exact ⟨h0_, h1_, fun _ => rfl, h3_, h4_, h5_, h6_, h7_, h8_, h9_, h10_, h11_, ⟨M, cs7, b8, e7, e8, k8, k9, k11, k1, hI⟩⟩
    · intro D hD_ d2_0 x29 x28 x27 x26 x25 x24 x23 x22 x21 x20 x19 w_
      rintro ⟨h0_, h1_, h2_, h3_, h4_, h5_, h6_, h7_, h8_, h9_, h10_, h11_, ⟨M, cs7, b8, e7, e8, k8, k9, k11, k1, hI⟩⟩
      obtain rfl := h2_ d2_0
      refine r_loadL hI 0 sc_SiTerm rfl rfl ?_
      exact ⟨h0_, h1_, h2_, fun _ => rfl, h4_, h5_, h6_, h7_, h8_, h9_, h10_, h11_, ⟨M, cs7, b8, e7, e8, k8, k9, k11, k1, hI⟩⟩
    · intro D hD_  x29 x28 x27 x26 x25 x24 x23 x22 x21 x20 x19 w_
      rintro ⟨h0_, h1_, h2_, h3_, h4_, h5_, h6_, h7_, h8_, h9_, h10_, h11_, ⟨M, cs7, b8, e7, e8, k8, k9, k11, k1, hI⟩⟩
      exact ⟨h0_, h1_, h2_, h3_, fun _ => rfl, h5_, h6_, h7_, h8_, h9_, h10_, h11_, ⟨M, cs7, b8, e7, e8, k8, k9, k11, k1, hI⟩⟩
    · intro D hD_ d3_0 d4_1 x29 x28 x27 x26 x25 x24 x23 x22 x21 x20 x19 w_
      rintro ⟨h0_, h1_, h2_, h3_, h4_, h5_, h6_, h7_, h8_, h9_, h10_, h11_, ⟨M, cs7, b8, e7, e8, k8, k9, k11, k1, hI⟩⟩
      obtain rfl := h3_ d3_0
      obtain rfl := h4_ d4_1
      refine r_indexAddr sl_SiTerm hj' ?_
      exact ⟨h0_, h1_, h2_, h3_, h4_, fun _ => rfl, h6_, h7_, h8_, h9_, h10_, h11_, ⟨M, cs7, b8, e7, e8, k8, k9, k11, k1, hI⟩⟩
    · intro D hD_ d5_0 x29 x28 x27 x26 x25 x24 x23 x22 x21 x20 x19 w_
      rintro ⟨h0_, h1_, h2_, h3_, h4_, h5_, h6_, h7_, h8_, h9_, h10_, h11_, ⟨M, cs7, b8, e7, e8, k8, k9, k11, k1, hI⟩⟩
      obtain rfl := h5_ d5_0
      refine r_loadA ag_iTerm hR.length (fun j v hj => by rw [hI.cellS hS]; exact cellsAt_get rfl j v hj) ?_
      exact ⟨h0_, h1_, h2_, h3_, h4_, h5_, fun _ => rfl, h7_, h8_, h9_, h10_, h11_, ⟨M, cs7, b8, e7, e8, k8, k9, k11, k1, hI⟩⟩
    · intro D hD_ d6_0 x29 x28 x27 x26 x25 x24 x23 x22 x21 x20 x19 w_
      rintro ⟨h0_, h1_, h2_, h3_, h4_, h5_, h6_, h7_, h8_, h9_, h10_, h11_, ⟨M, cs7, b8, e7, e8, k8, k9, k11, k1, hI⟩⟩
      obtain rfl := h6_ d6_0
      have f8 : D 8 = false := Bool.eq_false_iff.2 fun h => by rw [k8 h] at hD_; cases hD_
      have f9 : D 9 = false := Bool.eq_false_iff.2 fun h => by rw [k9 h] at f8; cases f8
      have f11 : D 11 = false := Bool.eq_false_iff.2 fun h => by rw [k11 h] at f9; cases f9
      rw [hD_, f8, f9, f11] at hI
      refine Run.call0 fn_s_l1Copy nm_s_l1Copy hI (ih _ (List.getElem_mem hj') S _ hR (by omega)) fun v' I' S w_ => ?_
      rintro ⟨rfl, cs7, M, rfl, rfl, hT⟩ _ hI
      have e7 : setD D 7 7 = true → Value.agg cs7.toArray = Value.agg cs7.toArray ∧ TrT M cs7 (ks)[j] := fun _ => ⟨rfl, hT⟩
      have k8 := fun (_ : setD D 7 8 = true) => (rfl : setD D 7 7 = true)
      have hI : Inv w [] (cpItems (.blk b1 (.cells #[.int .i64 k, .int .i64 n, .string s, .slice (some ⟨b, o, none⟩) ks.length cap] t_iTerm)) (.blk b2 (.cells #[.int .i64 0, .int .i64 0, .string ⟨#[]⟩, .slice none 0 0] t_iTerm)) (.blk b3 (.cells #[.int .i64 k, .int .i64 n, .string s, kvc] t_iTerm)) (.blk b3 (.cells #[.int .i64 k, .int .i64 n, .string s, x28] t_iTerm)) (rowG kvc t_iTerm 4 css) (rowG x28 t_iTerm 4 (css ++ [cs7])) (blks Ls.flatten) M (.blk b8 (.cells cs7.toArray t_iTerm)) true (D 8) (D 9) (D 11)) S w_ := by
        rw [f8, f9, f11]
        simpa [cpItems] using hI
      exact ⟨h0_, h1_, h2_, h3_, h4_, h5_, h6_, fun _ => by first | assumption | trivial, h8_, h9_, h10_, h11_, ⟨M, cs7, b8, e7, e8, k8, k9, k11, k1, hI⟩⟩
    · intro D hD_ d7_0 x29 x28 x27 x26 x25 x24 x23 x22 x21 x20 x19 w_
      rintro ⟨h0_, h1_, h2_, h3_, h4_, h5_, h6_, h7_, h8_, h9_, h10_, h11_, ⟨M, cs7, b8, e7, e8, k8, k9, k11, k1, hI⟩⟩
      have g7_ := h7_ d7_0
      have f9 : D 9 = false := Bool.eq_false_iff.2 fun h => by rw [k9 h] at hD_; cases hD_
      have f11 : D 11 = false := Bool.eq_false_iff.2 fun h => by rw [k11 h] at f9; cases f9
      obtain ⟨q7, hT⟩ := e7 d7_0
      subst q7
      rw [d7_0, hD_, f9, f11] at hI
      refine r_slice1 hI mk_SiTerm (by simp [Value.cells, hT.length]) (by omega) (by omega) fun b8 w_ hI => ?_
      have e7 : setD D 8 7 = true → Value.agg cs7.toArray = Value.agg cs7.toArray ∧ TrT M cs7 (ks)[j] := fun _ => ⟨rfl, hT⟩
      have e8 := fun (_ : setD D 8 8 = true) => (rfl : Value.slice (some ⟨b8, 0, none⟩) 1 1 = _)
      have k8 := fun (_ : setD D 8 8 = true) => d7_0
      have k9 := fun (_ : setD D 8 9 = true) => (rfl : setD D 8 8 = true)
      have hI : Inv w [] (cpItems (.blk b1 (.cells #[.int .i64 k, .int .i64 n, .string s, .slice (some ⟨b, o, none⟩) ks.length cap] t_iTerm)) (.blk b2 (.cells #[.int .i64 0, .int .i64 0, .string ⟨#[]⟩, .slice none 0 0] t_iTerm)) (.blk b3 (.cells #[.int .i64 k, .int .i64 n, .string s, kvc] t_iTerm)) (.blk b3 (.cells #[.int .i64 k, .int .i64 n, .string s, x28] t_iTerm)) (rowG kvc t_iTerm 4 css) (rowG x28 t_iTerm 4 (css ++ [cs7])) (blks Ls.flatten) M (.blk b8 (.cells cs7.toArray t_iTerm)) (D 7) true (D 9) (D 11)) S w_ := by
        rw [d7_0, f9, f11]
        simpa [cpItems, Value.cells] using hI
      exact ⟨h0_, h1_, h2_, h3_, h4_, h5_, h6_, h7_, fun _ => by first | assumption | trivial, h9_, h10_, h11_, ⟨M, cs7, b8, e7, e8, k8, k9, k11, k1, hI⟩⟩
    · intro D hD_ d1_0 d8_1 d7_2 x29 x28 x27 x26 x25 x24 x23 x22 x21 x20 x19 w_
      rintro ⟨h0_, h1_, h2_, h3_, h4_, h5_, h6_, h7_, h8_, h9_, h10_, h11_, ⟨M, cs7, b8, e7, e8, k8, k9, k11, k1, hI⟩⟩
      obtain rfl := h1_ d1_0
      have g8_ := h8_ d8_1
      have f11 : D 11 = false := Bool.eq_false_iff.2 fun h => by rw [k11 h] at hD_; cases hD_
      have q8 := e8 d8_1
      subst q8
      obtain ⟨_, hT⟩ := e7 d7_2
      rw [d7_2, d8_1, hD_, f11] at hI
      have hblk : ((cpItems (.blk b1 (.cells #[.int .i64 k, .int .i64 n, .string s, .slice (some ⟨b, o, none⟩) ks.length cap] t_iTerm)) (.blk b2 (.cells #[.int .i64 0, .int .i64 0, .string ⟨#[]⟩, .slice none 0 0] t_iTerm)) (.blk b3 (.cells #[.int .i64 k, .int .i64 n, .string s, x20] t_iTerm)) (.blk b3 (.cells #[.int .i64 k, .int .i64 n, .string s, x28] t_iTerm)) (rowG x20 t_iTerm 4 css) (rowG x28 t_iTerm 4 (css ++ [cs7])) (blks Ls.flatten) M (.blk b8 (.cells cs7.toArray t_iTerm)) true true false false))[4 + (blks Ls.flatten).length + (blks M).length]? = some (.blk b8 (.cells cs7.toArray t_iTerm)) := by
        have e4 : 4 + (blks Ls.flatten).length + (blks M).length = ((blks Ls.flatten).length + (blks M).length) + 1 + 1 + 1 + 1 := by omega
        rw [e4]
        simp only [cpItems, List.getElem?_cons_succ]
        rw [List.getElem?_append_right (by omega), Nat.add_sub_cancel_left, List.getElem?_append_right (Nat.le_refl _), Nat.sub_self]; rfl
      refine r_append hI 3 cs7 mk_SiTerm (by omega) rfl (by rw [hT.length]) (m := 1) (o := 0) ?_ hT.one (by omega) (by omega) fun v' w_ hI => ?_
      · intro i u hi
        rw [hI.cellL hblk, Nat.zero_add]
        simpa using hi
      rw [rowG_snoc] at hI
      have k9 := fun (_ : setD D 9 9 = true) => d8_1
      have k11 := fun (_ : setD D 9 11 = true) => (rfl : setD D 9 9 = true)
      have hI : Inv w [] (cpItems (.blk b1 (.cells #[.int .i64 k, .int .i64 n, .string s, .slice (some ⟨b, o, none⟩) ks.length cap] t_iTerm)) (.blk b2 (.cells #[.int .i64 0, .int .i64 0, .string ⟨#[]⟩, .slice none 0 0] t_iTerm)) (.blk b3 (.cells #[.int .i64 k, .int .i64 n, .string s, x20] t_iTerm)) (.blk b3 (.cells #[.int .i64 k, .int .i64 n, .string s, v'] t_iTerm)) (rowG x20 t_iTerm 4 css) (rowG v' t_iTerm 4 (css ++ [cs7])) (blks Ls.flatten) M (.blk b8 (.cells cs7.toArray t_iTerm)) (D 7) (D 8) true (D 11)) S w_ := by
        rw [d7_2, d8_1, f11]
        exact hI
      exact ⟨h0_, h1_, h2_, h3_, h4_, h5_, h6_, h7_, h8_, fun _ => by first | assumption | trivial, h10_, h11_, ⟨M, cs7, b8, e7, e8, k8, k9, k11, k1, hI⟩⟩
    · intro D hD_ d0_0 d1_1 d2_2 d3_3 d4_4 d5_5 d6_6 d7_7 d8_8 d9_9 x29 x28 x27 x26 x25 x24 x23 x22 x21 x20 x19 w_
      rintro ⟨h0_, h1_, h2_, h3_, h4_, h5_, h6_, h7_, h8_, h9_, h10_, h11_, ⟨M, cs7, b8, e7, e8, k8, k9, k11, k1, hI⟩⟩
      refine r_field fo_iTerm_3 ?_
      exact ⟨h0_, h1_, h2_, h3_, h4_, h5_, h6_, h7_, h8_, h9_, fun _ => rfl, h11_, ⟨M, cs7, b8, e7, e8, k8, k9, k11, k1, hI⟩⟩
    · intro D hD_ d10_0 d9_1 d9_2 d0_3 d1_4 d2_5 d3_6 d4_7 d5_8 d6_9 d7_10 d8_11 d9_12 x29 x28 x27 x26 x25 x24 x23 x22 x21 x20 x19 w_
      rintro ⟨h0_, h1_, h2_, h3_, h4_, h5_, h6_, h7_, h8_, h9_, h10_, h11_, ⟨M, cs7, b8, e7, e8, k8, k9, k11, k1, hI⟩⟩
      obtain rfl := h10_ d10_0
      have g9_ := h9_ d9_1
      rw [d7_10, d8_11, d9_1, hD_] at hI
      obtain ⟨va, vn, vc, hv9⟩ := Inv.rowSlice hI 3 rfl
      refine r_store hI 2 (n := 1) (by rw [hv9]; rfl) (by decide +kernel) rfl (by simp) (by rw [hv9]; simp [Value.cells, Value.oneCell']) fun w_ hI => ?_
      have hcl9 : Value.cells x28 = #[x28] := by rw [hv9]; rfl
      rw [hcl9] at hI
      have k1 := fun (_ : setD D 11 11 = true) => d1_4
      have k11 := fun (_ : setD D 11 11 = true) => d9_1
      have hI : Inv w [] (cpItems (.blk b1 (.cells #[.int .i64 k, .int .i64 n, .string s, .slice (some ⟨b, o, none⟩) ks.length cap] t_iTerm)) (.blk b2 (.cells #[.int .i64 0, .int .i64 0, .string ⟨#[]⟩, .slice none 0 0] t_iTerm)) (.blk b3 (.cells #[.int .i64 k, .int .i64 n, .string s, kvc] t_iTerm)) (.blk b3 (.cells #[.int .i64 k, .int .i64 n, .string s, x28] t_iTerm)) (rowG kvc t_iTerm 4 css) (rowG x28 t_iTerm 4 (css ++ [cs7])) (blks Ls.flatten) M (.blk b8 (.cells cs7.toArray t_iTerm)) (D 7) (D 8) (D 9) true) S w_ := by
        rw [d7_10, d8_11, d9_1]
        exact hI
      exact ⟨h0_, h1_, h2_, h3_, h4_, h5_, h6_, h7_, h8_, h9_, h10_, fun _ => trivial, ⟨M, cs7, b8, e7, e8, k8, k9, k11, k1, hI⟩⟩
    intro D d11_ d10_ d9_ d8_ d7_ d6_ d5_ d4_ d3_ d2_ d1_ d0_ x29 x28 x27 x26 x25 x24 x23 x22 x21 x20 x19 w_
    rintro ⟨h0_, h1_, h2_, h3_, h4_, h5_, h6_, h7_, h8_, h9_, h10_, h11_, ⟨M, cs7, b8, e7, e8, k8, k9, k11, k1, hI⟩⟩
    obtain rfl := h10_ d10_
    have g9_ := h9_ d9_
    have g8_ := h8_ d8_
    have g7_ := h7_ d7_
    obtain rfl := h6_ d6_
    obtain rfl := h5_ d5_
    obtain rfl := h4_ d4_
    obtain rfl := h3_ d3_
    obtain rfl := h2_ d2_
    obtain rfl := h1_ d1_
    obtain rfl := h0_ d0_
    clear h0_ h1_ h2_ h3_ h4_ h5_ h6_ h7_ h8_ h9_ h10_ h11_
    obtain ⟨_, hT⟩ := e7 d7_
    rw [d7_, d8_, d9_, d11_] at hI
    refine r_add (by omega) ?_
    refine ⟨⟨j + 1, x28, Ls ++ [M], css ++ [cs7], hj', rfl, ?_, ?_⟩, by simp [intOf]; omega⟩
    · rw [List.take_succ_eq_append_getElem hj']
      exact hg.snoc hT hT.length
    · simp only [List.flatten_append, List.flatten_cons, List.flatten_nil, List.append_nil, blks_append]
      refine hI.sub ?_
      simp only [cpItems]
      rw [← List.append_assoc]
      exact (((List.sublist_append_left _ _).cons_cons _).cons_cons _).cons_cons _ |>.cons_cons _
  · have : j = ks.length := by omega
    subst this
    rw [List.take_length] at hg
    obtain ⟨va, vn, vc, hvk⟩ := hI.rowSlice 3 rfl
    have hv1 : kvc.oneCell' = true := by rw [hvk]; rfl
    refine r_loadW hI 2 ag_iTerm rfl rfl ?_
    refine r_storeW hI 1 rfl ag_iTerm rfl rfl ?_ fun w' hI => ?_
    · intro u hu
      have hu' : u ∈ ([.int .i64 k, .int .i64 n, .string s, kvc] : List Value) := hu
      simp at hu'
      rcases hu' with rfl | rfl | rfl | rfl <;> first | rfl | exact hv1
    refine loadV_W hI 1 ag_iTerm rfl rfl ?_
    have hI : Inv w [] ([] ++ (rowG kvc t_iTerm 4 css :: blks Ls.flatten)) S w' := hI.sub (List.sublist_append_right [_, _, _] _)
    obtain ⟨L, hT, hI⟩ := Inv.rowTree hI hg
    exact ⟨_, _, _, rfl, hI, Ext.refl _ _ _, rfl, _, L, rfl, rfl, TrT.iff.2 ⟨kvc, rfl, h1, h2, hs, hT⟩⟩
end

end Go.Proofs.Ytnoieadimkgjcaa

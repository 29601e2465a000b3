/- impl.ownProgram; spec's copies. -/
import Derived.Test.YtnoieadimkgjcaaZRen3
import Derived.Test.YtnoieadimkgjcaaZRen2
import Derived.Test.YtnoieadimkgjcaaZRen1
namespace Go.Proofs.Ytnoieadimkgjcaa
open Go Go.RowKit
theorem RdC.one {S : Store} {cs : List Value} {c : C} (h : RdC S cs c) : ∀ u ∈ cs, u.oneCell' = true := by
  obtain ⟨hd, ks, rfl, h1, a, cap, rfl, _⟩ := h
  intro u hu
  rcases List.mem_append.1 hu with hu | hu
  · exact h1.one u hu
  · simp at hu; subst hu; rfl
section
attribute [local irreducible] Run CondV GuardV LoadV
theorem ownProgram_calls {p : List C} {S : Store} {v : Value} (h : RdSl S 5 (RdC S) v p) (hw : p.length + wP p ≤ 1048576) : Tri Try.prog n_i_ownProgram [v] [] S (PostS 5 TrC S p) := by
  intro w hI
  refine calls_i_ownProgram ?_
  unfold sh_i_ownProgram
  refine r_lenSl h sl_SiClause ?_
  refine ⟨fun i t w' => ∃ (k : Nat) (Ls : List Heaplet) (css : List (List Value)), k ≤ p.length ∧ i = .int .i64 k ∧ Grown 5 TrC Ls css (p.take k) ∧ Inv w [] (rowG t t_iClause 5 css :: blks Ls.flatten) S w',
    fun i _ _ => p.length - (intOf i).toNat, ⟨0, [], [], Nat.zero_le _, rfl, Grown.nil _ _, hI.rowNil t_iClause 5⟩, ?_⟩
  intro t8 _ t3 _ _ _ _ _ _ _ _ _ w'
  rintro ⟨k, Ls, css, hk, rfl, hg, hI⟩
  refine r_lss ?_
  refine condP (fun hki => ?_) (fun hki => ?_)
  · have hk' : k < p.length := by omega
    have htl : (p.take k).length = k := by simp; omega
    have hcl := hg.hc
    refine r_elem hI h sl_SiClause ag_iClause hk' (fun _ _ => RdC.length) fun cs hcs => ?_
    have hm := List.getElem_mem hk'
    have hwm := wP_mem hm
    have hlc := hcs.length
    refine r_alloc hI zo_iClause fun b6 w' hI => ?_
    have hI := hI.perm (M := .blk b6 _ :: (rowG t3 t_iClause 5 css :: blks Ls.flatten)) (List.perm_append_comm (l₁ := [_]))
    refine r_storeW hI 0 rfl ag_iClause (by simpa using hlc) rfl (by simpa using hcs.one) fun w' hI => ?_
    refine r_loadW hI 0 ag_iClause rfl (by simpa using hlc) ?_
    have hI : Inv w [] (rowG t3 t_iClause 5 css :: blks Ls.flatten) S w' := hI.sub (List.sublist_cons_self _ _)
    refine Run.call0 fn_i_ownClause nm_i_ownClause hI (ownClause_calls hcs (by omega)) fun v' I' S' w' => ?_
    rintro ⟨rfl, cs', L, rfl, rfl, hT⟩ _ hI
    refine r_append1 hI 0 cs' mk_SiClause (by omega) (by omega) rfl hT.length hT.one (by omega) (by omega) fun v' w' hI => ?_
    refine r_add (by omega) ?_
    refine ⟨⟨k + 1, Ls ++ [L], css ++ [cs'], hk', rfl, ?_, ?_⟩, by simp [intOf]; omega⟩
    · rw [List.take_succ_eq_append_getElem hk']
      exact hg.snoc hT hT.length
    · simp only [List.flatten_append, List.flatten_cons, List.flatten_nil, List.append_nil, blks_append]
      exact hI
  · have : k = p.length := by omega
    subst this
    rw [List.take_length] at hg
    obtain ⟨L, hT, hI⟩ := Inv.rowTree (A := []) hI hg
    exact ⟨_, _, _, rfl, hI, Ext.refl _ _ _, rfl, _, rfl, hT⟩

/- a row's value is a slice -/
theorem Inv.rowSlice {w0 w : World} {X : List Nat} {L : List Item} {S : Store} {v : Value} {e : TypeId} {k n : Nat} {xs : List Value} (h : Inv w0 X L S w) (i : Nat) (hi : L[i]? = some (.row v e k n xs)) : ∃ a m c, v = .slice a m c := by
  have hm : w.ownsRow 0 e k v n xs := h.its (.row v e k n xs) (List.mem_of_getElem? hi)
  rcases hm.2 with ⟨rfl, _⟩ | ⟨g, cap, cur, rfl, _⟩
  · exact ⟨_, _, _, rfl⟩
  · exact ⟨_, _, _, rfl⟩
def cpItems (B1 B2 B3 B3' r r' : Item) (rest : List Item) (M : Heaplet) (B27 : Item) (d7 d8 d9 d11 : Bool) : List Item :=
  B1 :: B2 :: (match d11 with | true => B3' | false => B3) :: (match d9 with | true => r' | false => r) :: (rest ++ ((match d7 with | true => blks M | false => []) ++ (match d8 with | true => [B27] | false => [])))

theorem l1Copy_calls : ∀ (t : T) (S : Store) (cs : List Value), RdT S cs t → wT t ≤ 1048576 → Tri Try.prog n_s_l1Copy [.agg cs.toArray] [] S (PostT S t) := by
  refine T.ind fun k n s ks ih S cs h hw => ?_
  intro w hI
  obtain ⟨kv, rfl, h1, h2, hs, hks⟩ := RdT.iff.1 h
  simp only [T.name, T.kids, T.kind, T.n] at h1 h2 hs hks ⊢
  simp only [wT] at hw
  refine calls_s_l1Copy ?_
  unfold sh_s_l1Copy
  refine r_box hI fun b1 w' hI => ?_
  refine r_alloc hI zo_iTerm fun b2 w' hI => ?_
  refine r_fieldL hI 0 rfl fo_iTerm_0 sc_int rfl ?_
  refine r_fieldL hI 0 rfl fo_iTerm_1 sc_int rfl ?_
  refine r_fieldL hI 0 rfl fo_iTerm_2 sc_string rfl ?_
  refine r_buildTerm ?_
  refine r_alloc hI zo_iTerm fun b3 w' hI => ?_
  refine r_storeW hI 2 rfl ag_iTerm rfl rfl (by simp [Value.oneCell']) fun w' hI => ?_
  have hI := hI.rowNil t_iTerm 4
  refine ⟨fun i w' => ∃ (j : Nat) (kvc : Value) (Ls : List Heaplet) (css : List (List Value)), j ≤ ks.length ∧ i = .int .i64 j ∧ Grown 4 TrT Ls css (ks.take j) ∧
      Inv w [] (.blk b1 (.cells #[.int .i64 k, .int .i64 n, .string s, kv] t_iTerm) :: .blk b2 (.cells #[.int .i64 0, .int .i64 0, .string ⟨#[]⟩, .slice none 0 0] t_iTerm) :: .blk b3 (.cells #[.int .i64 k, .int .i64 n, .string s, kvc] t_iTerm) :: rowG kvc t_iTerm 4 css :: blks Ls.flatten) S w',
    fun i _ => ks.length - (intOf i).toNat, ⟨0, _, [], [], Nat.zero_le _, rfl, Grown.nil _ _, hI⟩, ?_⟩
  intro t4 _ _ _ _ _ _ _ _ _ _ _ _ _ _ _ _ _ _ w'
  rintro ⟨j, kvc, Ls, css, hj, rfl, hg, hI⟩
  refine r_fieldL hI 0 rfl fo_iTerm_3 sc_SiTerm rfl ?_
  refine r_lenSl hks sl_SiTerm ?_
  refine r_lss ?_
  refine condP (fun hji => ?_) (fun hji => ?_)
  · have hj' : j < ks.length := by omega
    have hjl : (ks.take j).length = j := by simp; omega
    have hcl := hg.hc
    have hm := List.getElem_mem hj'
    have hwm := wL_mem hm
    obtain ⟨b, o, cap, c, E, fz, rfl, hS, hR⟩ := hks.at_ hj'
    refine ⟨fun D x29 x28 x27 x26 x25 x24 x23 x22 x21 x20 x19 w_ => (D 0 = true → x19 = .pointer (some ⟨b3, 3, none⟩)) ∧ (D 1 = true → x20 = kvc) ∧ (D 2 = true → x21 = .pointer (some ⟨b1, 3, none⟩)) ∧ (D 3 = true → x22 = .slice (some ⟨b, o, none⟩) (ks).length cap) ∧ (D 4 = true → x23 = .int .i64 j) ∧ (D 5 = true → x24 = .pointer (some ⟨b, o + j * 4, none⟩)) ∧ (D 6 = true → x25 = .agg (cellsAt c (o + j * 4) 4).toArray) ∧ (D 7 = true → True) ∧ (D 8 = true → True) ∧ (D 9 = true → True) ∧ (D 10 = true → x29 = .pointer (some ⟨b3, 3, none⟩)) ∧ (D 11 = true → True) ∧ ∃ M cs7 b8, (D 7 = true → x26 = .agg cs7.toArray ∧ TrT M cs7 (ks)[j]) ∧ (D 8 = true → x27 = .slice (some ⟨b8, 0, none⟩) 1 1) ∧ (D 8 = true → D 7 = true) ∧ (D 9 = true → D 8 = true) ∧ (D 11 = true → D 9 = true) ∧ (D 11 = true → D 1 = true) ∧ Inv w [] (cpItems (.blk b1 (.cells #[.int .i64 k, .int .i64 n, .string s, .slice (some ⟨b, o, none⟩) ks.length cap] t_iTerm)) (.blk b2 (.cells #[.int .i64 0, .int .i64 0, .string ⟨#[]⟩, .slice none 0 0] t_iTerm)) (.blk b3 (.cells #[.int .i64 k, .int .i64 n, .string s, kvc] t_iTerm)) (.blk b3 (.cells #[.int .i64 k, .int .i64 n, .string s, x28] t_iTerm)) (rowG kvc t_iTerm 4 css) (rowG x28 t_iTerm 4 (css ++ [cs7])) (blks Ls.flatten) M (.blk b8 (.cells cs7.toArray t_iTerm)) (D 7) (D 8) (D 9) (D 11)) S w_, ⟨fun h => Bool.noConfusion h, fun h => Bool.noConfusion h, fun h => Bool.noConfusion h, fun h => Bool.noConfusion h, fun h => Bool.noConfusion h, fun h => Bool.noConfusion h, fun h => Bool.noConfusion h, fun h => Bool.noConfusion h, fun h => Bool.noConfusion h, fun h => Bool.noConfusion h, fun h => Bool.noConfusion h, fun h => Bool.noConfusion h, ⟨[], [], 0, fun h => Bool.noConfusion h, fun h => Bool.noConfusion h, fun h => Bool.noConfusion h, fun h => Bool.noConfusion h, fun h => Bool.noConfusion h, fun h => Bool.noConfusion h, by simpa [cpItems, blks] using hI.draw⟩⟩, ⟨?_, ?_, ?_, ?_, ?_, ?_, ?_, ?_, ?_, ?_, ?_, ?_, trivial⟩, ?_⟩
    · intro D hD_  x29 x28 x27 x26 x25 x24 x23 x22 x21 x20 x19 w_
      rintro ⟨h0_, h1_, h2_, h3_, h4_, h5_, h6_, h7_, h8_, h9_, h10_, h11_, ⟨M, cs7, b8, e7, e8, k8, k9, k11, k1, hI⟩⟩
      refine r_field fo_iTerm_3 ?_
      exact ⟨fun _ => rfl, h1_, h2_, h3_, h4_, h5_, h6_, h7_, h8_, h9_, h10_, h11_, ⟨M, cs7, b8, e7, e8, k8, k9, k11, k1, hI⟩⟩
    · intro D hD_ d0_0 x29 x28 x27 x26 x25 x24 x23 x22 x21 x20 x19 w_
      rintro ⟨h0_, h1_, h2_, h3_, h4_, h5_, h6_, h7_, h8_, h9_, h10_, h11_, ⟨M, cs7, b8, e7, e8, k8, k9, k11, k1, hI⟩⟩
      obtain rfl := h0_ d0_0
      have f11 : D 11 = false := Bool.eq_false_iff.2 fun h => by rw [k1 h] at hD_; cases hD_
      refine r_loadL (b := b3) hI 2 (c := (#[.int .i64 k, .int .i64 n, .string s, kvc])) sc_SiTerm (by rw [f11]; rfl) rfl ?_
      have k1 := fun (_ : setD D 1 11 = true) => (rfl : setD D 1 1 = true)
      exact ⟨h0_, fun _ => rfl, h2_, h3_, h4_, h5_, h6_, h7_, h8_, h9_, h10_, h11_, ⟨M, cs7, b8, e7, e8, k8, k9, k11, k1, hI⟩⟩
    · intro D hD_  x29 x28 x27 x26 x25 x24 x23 x22 x21 x20 x19 w_
      rintro ⟨h0_, h1_, h2_, h3_, h4_, h5_, h6_, h7_, h8_, h9_, h10_, h11_, ⟨M, cs7, b8, e7, e8, k8, k9, k11, k1, hI⟩⟩
      refine r_field fo_iTerm_3 ?_
      exact ⟨h0_, h1_, fun _ => rfl, h3_, h4_, h5_, h6_, h7_, h8_, h9_, h10_, h11_, ⟨M, cs7, b8, e7, e8, k8, k9, k11, k1, hI⟩⟩
    · intro D hD_ d2_0 x29 x28 x27 x26 x25 x24 x23 x22 x21 x20 x19 w_
      rintro ⟨h0_, h1_, h2_, h3_, h4_, h5_, h6_, h7_, h8_, h9_, h10_, h11_, ⟨M, cs7, b8, e7, e8, k8, k9, k11, k1, hI⟩⟩
      obtain rfl := h2_ d2_0
      refine r_loadL hI 0 sc_SiTerm rfl rfl ?_
      exact ⟨h0_, h1_, h2_, fun _ => rfl, h4_, h5_, h6_, h7_, h8_, h9_, h10_, h11_, ⟨M, cs7, b8, e7, e8, k8, k9, k11, k1, hI⟩⟩
    · intro D hD_  x29 x28 x27 x26 x25 x24 x23 x22 x21 x20 x19 w_
      rintro ⟨h0_, h1_, h2_, h3_, h4_, h5_, h6_, h7_, h8_, h9_, h10_, h11_, ⟨M, cs7, b8, e7, e8, k8, k9, k11, k1, hI⟩⟩
      exact ⟨h0_, h1_, h2_, h3_, fun _ => rfl, h5_, h6_, h7_, h8_, h9_, h10_, h11_, ⟨M, cs7, b8, e7, e8, k8, k9, k11, k1, hI⟩⟩
    · intro D hD_ d3_0 d4_1 x29 x28 x27 x26 x25 x24 x23 x22 x21 x20 x19 w_
      rintro ⟨h0_, h1_, h2_, h3_, h4_, h5_, h6_, h7_, h8_, h9_, h10_, h11_, ⟨M, cs7, b8, e7, e8, k8, k9, k11, k1, hI⟩⟩
      obtain rfl := h3_ d3_0
      obtain rfl := h4_ d4_1
      refine r_indexAddr sl_SiTerm hj' ?_
      exact ⟨h0_, h1_, h2_, h3_, h4_, fun _ => rfl, h6_, h7_, h8_, h9_, h10_, h11_, ⟨M, cs7, b8, e7, e8, k8, k9, k11, k1, hI⟩⟩
    · intro D hD_ d5_0 x29 x28 x27 x26 x25 x24 x23 x22 x21 x20 x19 w_
      rintro ⟨h0_, h1_, h2_, h3_, h4_, h5_, h6_, h7_, h8_, h9_, h10_, h11_, ⟨M, cs7, b8, e7, e8, k8, k9, k11, k1, hI⟩⟩
      obtain rfl := h5_ d5_0
      refine r_loadA ag_iTerm hR.length (fun j v hj => by rw [hI.cellS hS]; exact cellsAt_get rfl j v hj) ?_
      exact ⟨h0_, h1_, h2_, h3_, h4_, h5_, fun _ => rfl, h7_, h8_, h9_, h10_, h11_, ⟨M, cs7, b8, e7, e8, k8, k9, k11, k1, hI⟩⟩
    · intro D hD_ d6_0 x29 x28 x27 x26 x25 x24 x23 x22 x21 x20 x19 w_
      rintro ⟨h0_, h1_, h2_, h3_, h4_, h5_, h6_, h7_, h8_, h9_, h10_, h11_, ⟨M, cs7, b8, e7, e8, k8, k9, k11, k1, hI⟩⟩
      obtain rfl := h6_ d6_0
      have f8 : D 8 = false := Bool.eq_false_iff.2 fun h => by rw [k8 h] at hD_; cases hD_
      have f9 : D 9 = false := Bool.eq_false_iff.2 fun h => by rw [k9 h] at f8; cases f8
      have f11 : D 11 = false := Bool.eq_false_iff.2 fun h => by rw [k11 h] at f9; cases f9
      rw [hD_, f8, f9, f11] at hI
      refine Run.call0 fn_s_l1Copy nm_s_l1Copy hI (ih _ (List.getElem_mem hj') S _ hR (by omega)) fun v' I' S w_ => ?_
      rintro ⟨rfl, cs7, M, rfl, rfl, hT⟩ _ hI
      have e7 : setD D 7 7 = true → Value.agg cs7.toArray = Value.agg cs7.toArray ∧ TrT M cs7 (ks)[j] := fun _ => ⟨rfl, hT⟩
      have k8 := fun (_ : setD D 7 8 = true) => (rfl : setD D 7 7 = true)
      have hI : Inv w [] (cpItems (.blk b1 (.cells #[.int .i64 k, .int .i64 n, .string s, .slice (some ⟨b, o, none⟩) ks.length cap] t_iTerm)) (.blk b2 (.cells #[.int .i64 0, .int .i64 0, .string ⟨#[]⟩, .slice none 0 0] t_iTerm)) (.blk b3 (.cells #[.int .i64 k, .int .i64 n, .string s, kvc] t_iTerm)) (.blk b3 (.cells #[.int .i64 k, .int .i64 n, .string s, x28] t_iTerm)) (rowG kvc t_iTerm 4 css) (rowG x28 t_iTerm 4 (css ++ [cs7])) (blks Ls.flatten) M (.blk b8 (.cells cs7.toArray t_iTerm)) true (D 8) (D 9) (D 11)) S w_ := by
        rw [f8, f9, f11]
        simpa [cpItems] using hI
      exact ⟨h0_, h1_, h2_, h3_, h4_, h5_, h6_, fun _ => by first | assumption | trivial, h8_, h9_, h10_, h11_, ⟨M, cs7, b8, e7, e8, k8, k9, k11, k1, hI⟩⟩
    · intro D hD_ d7_0 x29 x28 x27 x26 x25 x24 x23 x22 x21 x20 x19 w_
      rintro ⟨h0_, h1_, h2_, h3_, h4_, h5_, h6_, h7_, h8_, h9_, h10_, h11_, ⟨M, cs7, b8, e7, e8, k8, k9, k11, k1, hI⟩⟩
      have g7_ := h7_ d7_0
      have f9 : D 9 = false := Bool.eq_false_iff.2 fun h => by rw [k9 h] at hD_; cases hD_
      have f11 : D 11 = false := Bool.eq_false_iff.2 fun h => by rw [k11 h] at f9; cases f9
      obtain ⟨q7, hT⟩ := e7 d7_0
      subst q7
      rw [d7_0, hD_, f9, f11] at hI
      refine r_slice1 hI mk_SiTerm (by simp [Value.cells, hT.length]) (by omega) (by omega) fun b8 w_ hI => ?_
      have e7 : setD D 8 7 = true → Value.agg cs7.toArray = Value.agg cs7.toArray ∧ TrT M cs7 (ks)[j] := fun _ => ⟨rfl, hT⟩
      have e8 := fun (_ : setD D 8 8 = true) => (rfl : Value.slice (some ⟨b8, 0, none⟩) 1 1 = _)
      have k8 := fun (_ : setD D 8 8 = true) => d7_0
      have k9 := fun (_ : setD D 8 9 = true) => (rfl : setD D 8 8 = true)
      have hI : Inv w [] (cpItems (.blk b1 (.cells #[.int .i64 k, .int .i64 n, .string s, .slice (some ⟨b, o, none⟩) ks.length cap] t_iTerm)) (.blk b2 (.cells #[.int .i64 0, .int .i64 0, .string ⟨#[]⟩, .slice none 0 0] t_iTerm)) (.blk b3 (.cells #[.int .i64 k, .int .i64 n, .string s, kvc] t_iTerm)) (.blk b3 (.cells #[.int .i64 k, .int .i64 n, .string s, x28] t_iTerm)) (rowG kvc t_iTerm 4 css) (rowG x28 t_iTerm 4 (css ++ [cs7])) (blks Ls.flatten) M (.blk b8 (.cells cs7.toArray t_iTerm)) (D 7) true (D 9) (D 11)) S w_ := by
        rw [d7_0, f9, f11]
        simpa [cpItems, Value.cells] using hI
      exact ⟨h0_, h1_, h2_, h3_, h4_, h5_, h6_, h7_, fun _ => by first | assumption | trivial, h9_, h10_, h11_, ⟨M, cs7, b8, e7, e8, k8, k9, k11, k1, hI⟩⟩
    · intro D hD_ d1_0 d8_1 d7_2 x29 x28 x27 x26 x25 x24 x23 x22 x21 x20 x19 w_
      rintro ⟨h0_, h1_, h2_, h3_, h4_, h5_, h6_, h7_, h8_, h9_, h10_, h11_, ⟨M, cs7, b8, e7, e8, k8, k9, k11, k1, hI⟩⟩
      obtain rfl := h1_ d1_0
      have g8_ := h8_ d8_1
      have f11 : D 11 = false := Bool.eq_false_iff.2 fun h => by rw [k11 h] at hD_; cases hD_
      have q8 := e8 d8_1
      subst q8
      obtain ⟨_, hT⟩ := e7 d7_2
      rw [d7_2, d8_1, hD_, f11] at hI
      have hblk : ((cpItems (.blk b1 (.cells #[.int .i64 k, .int .i64 n, .string s, .slice (some ⟨b, o, none⟩) ks.length cap] t_iTerm)) (.blk b2 (.cells #[.int .i64 0, .int .i64 0, .string ⟨#[]⟩, .slice none 0 0] t_iTerm)) (.blk b3 (.cells #[.int .i64 k, .int .i64 n, .string s, x20] t_iTerm)) (.blk b3 (.cells #[.int .i64 k, .int .i64 n, .string s, x28] t_iTerm)) (rowG x20 t_iTerm 4 css) (rowG x28 t_iTerm 4 (css ++ [cs7])) (blks Ls.flatten) M (.blk b8 (.cells cs7.toArray t_iTerm)) true true false false))[4 + (blks Ls.flatten).length + (blks M).length]? = some (.blk b8 (.cells cs7.toArray t_iTerm)) := by
        have e4 : 4 + (blks Ls.flatten).length + (blks M).length = ((blks Ls.flatten).length + (blks M).length) + 1 + 1 + 1 + 1 := by omega
        rw [e4]
        simp only [cpItems, List.getElem?_cons_succ]
        rw [List.getElem?_append_right (by omega), Nat.add_sub_cancel_left, List.getElem?_append_right (Nat.le_refl _), Nat.sub_self]; rfl
      refine r_append hI 3 cs7 mk_SiTerm (by omega) rfl (by rw [hT.length]) (m := 1) (o := 0) ?_ hT.one (by omega) (by omega) fun v' w_ hI => ?_
      · intro i u hi
        rw [hI.cellL hblk, Nat.zero_add]
        simpa using hi
      rw [rowG_snoc] at hI
      have k9 := fun (_ : setD D 9 9 = true) => d8_1
      have k11 := fun (_ : setD D 9 11 = true) => (rfl : setD D 9 9 = true)
      have hI : Inv w [] (cpItems (.blk b1 (.cells #[.int .i64 k, .int .i64 n, .string s, .slice (some ⟨b, o, none⟩) ks.length cap] t_iTerm)) (.blk b2 (.cells #[.int .i64 0, .int .i64 0, .string ⟨#[]⟩, .slice none 0 0] t_iTerm)) (.blk b3 (.cells #[.int .i64 k, .int .i64 n, .string s, x20] t_iTerm)) (.blk b3 (.cells #[.int .i64 k, .int .i64 n, .string s, v'] t_iTerm)) (rowG x20 t_iTerm 4 css) (rowG v' t_iTerm 4 (css ++ [cs7])) (blks Ls.flatten) M (.blk b8 (.cells cs7.toArray t_iTerm)) (D 7) (D 8) true (D 11)) S w_ := by
        rw [d7_2, d8_1, f11]
        exact hI
      exact ⟨h0_, h1_, h2_, h3_, h4_, h5_, h6_, h7_, h8_, fun _ => by first | assumption | trivial, h10_, h11_, ⟨M, cs7, b8, e7, e8, k8, k9, k11, k1, hI⟩⟩
    · intro D hD_ d0_0 d1_1 d2_2 d3_3 d4_4 d5_5 d6_6 d7_7 d8_8 d9_9 x29 x28 x27 x26 x25 x24 x23 x22 x21 x20 x19 w_
      rintro ⟨h0_, h1_, h2_, h3_, h4_, h5_, h6_, h7_, h8_, h9_, h10_, h11_, ⟨M, cs7, b8, e7, e8, k8, k9, k11, k1, hI⟩⟩
      refine r_field fo_iTerm_3 ?_
      exact ⟨h0_, h1_, h2_, h3_, h4_, h5_, h6_, h7_, h8_, h9_, fun _ => rfl, h11_, ⟨M, cs7, b8, e7, e8, k8, k9, k11, k1, hI⟩⟩
    · intro D hD_ d10_0 d9_1 d9_2 d0_3 d1_4 d2_5 d3_6 d4_7 d5_8 d6_9 d7_10 d8_11 d9_12 x29 x28 x27 x26 x25 x24 x23 x22 x21 x20 x19 w_
      rintro ⟨h0_, h1_, h2_, h3_, h4_, h5_, h6_, h7_, h8_, h9_, h10_, h11_, ⟨M, cs7, b8, e7, e8, k8, k9, k11, k1, hI⟩⟩
      obtain rfl := h10_ d10_0
      have g9_ := h9_ d9_1
      rw [d7_10, d8_11, d9_1, hD_] at hI
      obtain ⟨va, vn, vc, hv9⟩ := Inv.rowSlice hI 3 rfl
      refine r_store hI 2 (n := 1) (by rw [hv9]; rfl) (by decide +kernel) rfl (by simp) (by rw [hv9]; simp [Value.cells, Value.oneCell']) fun w_ hI => ?_
      have hcl9 : Value.cells x28 = #[x28] := by rw [hv9]; rfl
      rw [hcl9] at hI
      have k1 := fun (_ : setD D 11 11 = true) => d1_4
      have k11 := fun (_ : setD D 11 11 = true) => d9_1
      have hI : Inv w [] (cpItems (.blk b1 (.cells #[.int .i64 k, .int .i64 n, .string s, .slice (some ⟨b, o, none⟩) ks.length cap] t_iTerm)) (.blk b2 (.cells #[.int .i64 0, .int .i64 0, .string ⟨#[]⟩, .slice none 0 0] t_iTerm)) (.blk b3 (.cells #[.int .i64 k, .int .i64 n, .string s, kvc] t_iTerm)) (.blk b3 (.cells #[.int .i64 k, .int .i64 n, .string s, x28] t_iTerm)) (rowG kvc t_iTerm 4 css) (rowG x28 t_iTerm 4 (css ++ [cs7])) (blks Ls.flatten) M (.blk b8 (.cells cs7.toArray t_iTerm)) (D 7) (D 8) (D 9) true) S w_ := by
        rw [d7_10, d8_11, d9_1]
        exact hI
      exact ⟨h0_, h1_, h2_, h3_, h4_, h5_, h6_, h7_, h8_, h9_, h10_, fun _ => trivial, ⟨M, cs7, b8, e7, e8, k8, k9, k11, k1, hI⟩⟩
    intro D d11_ d10_ d9_ d8_ d7_ d6_ d5_ d4_ d3_ d2_ d1_ d0_ x29 x28 x27 x26 x25 x24 x23 x22 x21 x20 x19 w_
    rintro ⟨h0_, h1_, h2_, h3_, h4_, h5_, h6_, h7_, h8_, h9_, h10_, h11_, ⟨M, cs7, b8, e7, e8, k8, k9, k11, k1, hI⟩⟩
    obtain rfl := h10_ d10_
    have g9_ := h9_ d9_
    have g8_ := h8_ d8_
    have g7_ := h7_ d7_
    obtain rfl := h6_ d6_
    obtain rfl := h5_ d5_
    obtain rfl := h4_ d4_
    obtain rfl := h3_ d3_
    obtain rfl := h2_ d2_
    obtain rfl := h1_ d1_
    obtain rfl := h0_ d0_
    clear h0_ h1_ h2_ h3_ h4_ h5_ h6_ h7_ h8_ h9_ h10_ h11_
    obtain ⟨_, hT⟩ := e7 d7_
    rw [d7_, d8_, d9_, d11_] at hI
    refine r_add (by omega) ?_
    refine ⟨⟨j + 1, x28, Ls ++ [M], css ++ [cs7], hj', rfl, ?_, ?_⟩, by simp [intOf]; omega⟩
    · rw [List.take_succ_eq_append_getElem hj']
      exact hg.snoc hT hT.length
    · simp only [List.flatten_append, List.flatten_cons, List.flatten_nil, List.append_nil, blks_append]
      refine hI.sub ?_
      simp only [cpItems]
      rw [← List.append_assoc]
      exact (((List.sublist_append_left _ _).cons_cons _).cons_cons _).cons_cons _ |>.cons_cons _
  · have : j = ks.length := by omega
    subst this
    rw [List.take_length] at hg
    obtain ⟨va, vn, vc, hvk⟩ := hI.rowSlice 3 rfl
    have hv1 : kvc.oneCell' = true := by rw [hvk]; rfl
    refine r_loadW hI 2 ag_iTerm rfl rfl ?_
    refine r_storeW hI 1 rfl ag_iTerm rfl rfl ?_ fun w' hI => ?_
    · intro u hu
      have hu' : u ∈ ([.int .i64 k, .int .i64 n, .string s, kvc] : List Value) := hu
      simp at hu'
      rcases hu' with rfl | rfl | rfl | rfl <;> first | rfl | exact hv1
    refine loadV_W hI 1 ag_iTerm rfl rfl ?_
    have hI : Inv w [] ([] ++ (rowG kvc t_iTerm 4 css :: blks Ls.flatten)) S w' := hI.sub (List.sublist_append_right [_, _, _] _)
    obtain ⟨L, hT, hI⟩ := Inv.rowTree hI hg
    exact ⟨_, _, _, rfl, hI, Ext.refl _ _ _, rfl, _, L, rfl, rfl, TrT.iff.2 ⟨kvc, rfl, h1, h2, hs, hT⟩⟩
end

end Go.Proofs.Ytnoieadimkgjcaa

/- spec.l4Copy, spec.l14Copy: clauses and programs copied. -/
namespace Go.Proofs.Ytnoieadimkgjcaa
open Go Go.RowKit
section
attribute [local irreducible] Run CondV GuardV LoadV
theorem l4Copy_calls {c0 : C} {S : Store} {cs : List Value} (h : RdC S cs c0) (hw : wC c0 ≤ 1048576) : Tri Try.prog n_s_l4Copy [.agg cs.toArray] [] S (PostC S c0) := by
  intro w hI
  obtain ⟨hd, ks, rfl, h1, h2⟩ := h
  have h1' := h1
  obtain ⟨kv, rfl, g1, g2, g3, g4⟩ := RdT.iff.1 h1
  unfold wC at hw
  refine calls_s_l4Copy ?_
  unfold sh_s_l4Copy
  refine r_box hI fun b1 w' hI => ?_
  refine r_alloc hI zo_iClause fun b2 w' hI => ?_
  refine r_field fo_iClause_0 ?_
  refine r_loadLA hI 0 [.int .i64 c0.head.kind, .int .i64 c0.head.n, .string c0.head.name, kv] ag_iTerm rfl rfl sub4 ?_
  refine Run.call0 fn_s_l1Copy nm_s_l1Copy hI (l1Copy_calls _ S _ h1' (by omega)) fun v' I' S w' => ?_
  rintro ⟨rfl, cs1, N, rfl, rfl, hT1⟩ _ hI
  obtain ⟨kh, rfl, _⟩ := TrT.iff.1 hT1
  refine r_buildHead ?_
  refine r_alloc hI zo_iClause fun b3 w' hI => ?_
  have hI := hI.perm (M := .blk b1 _ :: .blk b2 _ :: .blk b3 _ :: blks N) (((List.perm_append_comm (l₁ := [_])).cons _).cons _)
  refine r_storeW hI 2 rfl ag_iClause rfl rfl ?_ fun w' hI => ?_
  · intro u hu
    have hu' : u ∈ ([.int .i64 c0.head.kind, .int .i64 c0.head.n, .string c0.head.name, kh, .slice none 0 0] : List Value) := hu
    simp at hu'
    have o1 : kh.oneCell' = true := hT1.one kh (by simp)
    rcases hu' with rfl | rfl | rfl | rfl | rfl <;> first | rfl | exact o1
  have hI := hI.rowNil t_iTerm 4
  have hI := hI.perm (M := .blk b1 (.cells #[.int .i64 c0.head.kind, .int .i64 c0.head.n, .string c0.head.name, kv, ks] t_iClause) :: .blk b2 (.cells #[.int .i64 0, .int .i64 0, .string ⟨#[]⟩, .slice none 0 0, .slice none 0 0] t_iClause) :: .blk b3 (.cells #[.int .i64 c0.head.kind, .int .i64 c0.head.n, .string c0.head.name, kh, .slice none 0 0] t_iClause) :: rowG (.slice none 0 0) t_iTerm 4 [] :: blks N) ((((List.perm_append_comm (l₁ := [_])).cons _).cons _).cons _)
  refine ⟨fun i w' => ∃ (j : Nat) (kvc : Value) (Ls : List Heaplet) (css : List (List Value)), j ≤ c0.body.length ∧ i = .int .i64 j ∧ Grown 4 TrT Ls css (c0.body.take j) ∧
      Inv w [] (.blk b1 (.cells #[.int .i64 c0.head.kind, .int .i64 c0.head.n, .string c0.head.name, kv, ks] t_iClause) :: .blk b2 (.cells #[.int .i64 0, .int .i64 0, .string ⟨#[]⟩, .slice none 0 0, .slice none 0 0] t_iClause) :: .blk b3 (.cells #[.int .i64 c0.head.kind, .int .i64 c0.head.n, .string c0.head.name, kh, kvc] t_iClause) :: rowG kvc t_iTerm 4 css :: blks (N :: Ls).flatten) S w',
    fun i _ => c0.body.length - (intOf i).toNat, ⟨0, _, [], [], Nat.zero_le _, rfl, Grown.nil _ _, by simp only [List.flatten_cons, List.flatten_nil, List.append_nil]; exact hI⟩, ?_⟩
  intro t4 _ _ _ _ _ _ _ _ _ _ _ _ _ _ _ _ _ _ w'
  rintro ⟨j, kvc, Ls, css, hj, rfl, hg, hI⟩
  refine r_fieldL hI 0 rfl fo_iClause_1 sc_SiTerm rfl ?_
  refine r_lenSl h2 sl_SiTerm ?_
  refine r_lss ?_
  refine condP (fun hji => ?_) (fun hji => ?_)
  · have hj' : j < c0.body.length := by omega
    have hjl : (c0.body.take j).length = j := by simp; omega
    have hcl := hg.hc
    have hm := List.getElem_mem hj'
    have hwm := wL_mem hm
    obtain ⟨b, o, cap, c, E, fz, rfl, hS, hR⟩ := h2.at_ hj'
    refine ⟨fun D x26 x25 x24 x23 x22 x21 x20 x19 x18 x17 x16 w_ => (D 0 = true → x16 = .pointer (some ⟨b3, 4, none⟩)) ∧ (D 1 = true → x17 = kvc) ∧ (D 2 = true → x18 = .pointer (some ⟨b1, 4, none⟩)) ∧ (D 3 = true → x19 = .slice (some ⟨b, o, none⟩) (c0.body).length cap) ∧ (D 4 = true → x20 = .int .i64 j) ∧ (D 5 = true → x21 = .pointer (some ⟨b, o + j * 4, none⟩)) ∧ (D 6 = true → x22 = .agg (cellsAt c (o + j * 4) 4).toArray) ∧ (D 7 = true → True) ∧ (D 8 = true → True) ∧ (D 9 = true → True) ∧ (D 10 = true → x26 = .pointer (some ⟨b3, 4, none⟩)) ∧ (D 11 = true → True) ∧ ∃ M cs7 b8, (D 7 = true → x23 = .agg cs7.toArray ∧ TrT M cs7 (c0.body)[j]) ∧ (D 8 = true → x24 = .slice (some ⟨b8, 0, none⟩) 1 1) ∧ (D 8 = true → D 7 = true) ∧ (D 9 = true → D 8 = true) ∧ (D 11 = true → D 9 = true) ∧ (D 11 = true → D 1 = true) ∧ Inv w [] (cpItems (.blk b1 (.cells #[.int .i64 c0.head.kind, .int .i64 c0.head.n, .string c0.head.name, kv, .slice (some ⟨b, o, none⟩) c0.body.length cap] t_iClause)) (.blk b2 (.cells #[.int .i64 0, .int .i64 0, .string ⟨#[]⟩, .slice none 0 0, .slice none 0 0] t_iClause)) (.blk b3 (.cells #[.int .i64 c0.head.kind, .int .i64 c0.head.n, .string c0.head.name, kh, kvc] t_iClause)) (.blk b3 (.cells #[.int .i64 c0.head.kind, .int .i64 c0.head.n, .string c0.head.name, kh, x25] t_iClause)) (rowG kvc t_iTerm 4 css) (rowG x25 t_iTerm 4 (css ++ [cs7])) (blks (N :: Ls).flatten) M (.blk b8 (.cells cs7.toArray t_iTerm)) (D 7) (D 8) (D 9) (D 11)) S w_, ⟨fun h => Bool.noConfusion h, fun h => Bool.noConfusion h, fun h => Bool.noConfusion h, fun h => Bool.noConfusion h, fun h => Bool.noConfusion h, fun h => Bool.noConfusion h, fun h => Bool.noConfusion h, fun h => Bool.noConfusion h, fun h => Bool.noConfusion h, fun h => Bool.noConfusion h, fun h => Bool.noConfusion h, fun h => Bool.noConfusion h, ⟨[], [], 0, fun h => Bool.noConfusion h, fun h => Bool.noConfusion h, fun h => Bool.noConfusion h, fun h => Bool.noConfusion h, fun h => Bool.noConfusion h, fun h => Bool.noConfusion h, by simpa [cpItems, blks] using hI.draw⟩⟩, ⟨?_, ?_, ?_, ?_, ?_, ?_, ?_, ?_, ?_, ?_, ?_, ?_, trivial⟩, ?_⟩
    · intro D hD_  x26 x25 x24 x23 x22 x21 x20 x19 x18 x17 x16 w_
      rintro ⟨h0_, h1_, h2_, h3_, h4_, h5_, h6_, h7_, h8_, h9_, h10_, h11_, ⟨M, cs7, b8, e7, e8, k8, k9, k11, k1, hI⟩⟩
      refine r_field fo_iClause_1 ?_
      exact ⟨fun _ => rfl, h1_, h2_, h3_, h4_, h5_, h6_, h7_, h8_, h9_, h10_, h11_, ⟨M, cs7, b8, e7, e8, k8, k9, k11, k1, hI⟩⟩
    · intro D hD_ d0_0 x26 x25 x24 x23 x22 x21 x20 x19 x18 x17 x16 w_
      rintro ⟨h0_, h1_, h2_, h3_, h4_, h5_, h6_, h7_, h8_, h9_, h10_, h11_, ⟨M, cs7, b8, e7, e8, k8, k9, k11, k1, hI⟩⟩
      obtain rfl := h0_ d0_0
      have f11 : D 11 = false := Bool.eq_false_iff.2 fun h => by rw [k1 h] at hD_; cases hD_
      refine r_loadL (b := b3) hI 2 (c := (#[.int .i64 c0.head.kind, .int .i64 c0.head.n, .string c0.head.name, kh, kvc])) sc_SiTerm (by rw [f11]; rfl) rfl ?_
      have k1 := fun (_ : setD D 1 11 = true) => (rfl : setD D 1 1 = true)
      exact ⟨h0_, fun _ => rfl, h2_, h3_, h4_, h5_, h6_, h7_, h8_, h9_, h10_, h11_, ⟨M, cs7, b8, e7, e8, k8, k9, k11, k1, hI⟩⟩
    · intro D hD_  x26 x25 x24 x23 x22 x21 x20 x19 x18 x17 x16 w_
      rintro ⟨h0_, h1_, h2_, h3_, h4_, h5_, h6_, h7_, h8_, h9_, h10_, h11_, ⟨M, cs7, b8, e7, e8, k8, k9, k11, k1, hI⟩⟩
      refine r_field fo_iClause_1 ?_
      exact ⟨h0_, h1_, fun _ => rfl, h3_, h4_, h5_, h6_, h7_, h8_, h9_, h10_, h11_, ⟨M, cs7, b8, e7, e8, k8, k9, k11, k1, hI⟩⟩
    · intro D hD_ d2_0 x26 x25 x24 x23 x22 x21 x20 x19 x18 x17 x16 w_
      rintro ⟨h0_, h1_, h2_, h3_, h4_, h5_, h6_, h7_, h8_, h9_, h10_, h11_, ⟨M, cs7, b8, e7, e8, k8, k9, k11, k1, hI⟩⟩
      obtain rfl := h2_ d2_0
      refine r_loadL hI 0 sc_SiTerm rfl rfl ?_
      exact ⟨h0_, h1_, h2_, fun _ => rfl, h4_, h5_, h6_, h7_, h8_, h9_, h10_, h11_, ⟨M, cs7, b8, e7, e8, k8, k9, k11, k1, hI⟩⟩
    · intro D hD_  x26 x25 x24 x23 x22 x21 x20 x19 x18 x17 x16 w_
      rintro ⟨h0_, h1_, h2_, h3_, h4_, h5_, h6_, h7_, h8_, h9_, h10_, h11_, ⟨M, cs7, b8, e7, e8, k8, k9, k11, k1, hI⟩⟩
      exact ⟨h0_, h1_, h2_, h3_, fun _ => rfl, h5_, h6_, h7_, h8_, h9_, h10_, h11_, ⟨M, cs7, b8, e7, e8, k8, k9, k11, k1, hI⟩⟩
    · intro D hD_ d3_0 d4_1 x26 x25 x24 x23 x22 x21 x20 x19 x18 x17 x16 w_
      rintro ⟨h0_, h1_, h2_, h3_, h4_, h5_, h6_, h7_, h8_, h9_, h10_, h11_, ⟨M, cs7, b8, e7, e8, k8, k9, k11, k1, hI⟩⟩
      obtain rfl := h3_ d3_0
      obtain rfl := h4_ d4_1
      refine r_indexAddr sl_SiTerm hj' ?_
      exact ⟨h0_, h1_, h2_, h3_, h4_, fun _ => rfl, h6_, h7_, h8_, h9_, h10_, h11_, ⟨M, cs7, b8, e7, e8, k8, k9, k11, k1, hI⟩⟩
    · intro D hD_ d5_0 x26 x25 x24 x23 x22 x21 x20 x19 x18 x17 x16 w_
      rintro ⟨h0_, h1_, h2_, h3_, h4_, h5_, h6_, h7_, h8_, h9_, h10_, h11_, ⟨M, cs7, b8, e7, e8, k8, k9, k11, k1, hI⟩⟩
      obtain rfl := h5_ d5_0
      refine r_loadA ag_iTerm hR.length (fun j v hj => by rw [hI.cellS hS]; exact cellsAt_get rfl j v hj) ?_
      exact ⟨h0_, h1_, h2_, h3_, h4_, h5_, fun _ => rfl, h7_, h8_, h9_, h10_, h11_, ⟨M, cs7, b8, e7, e8, k8, k9, k11, k1, hI⟩⟩
    · intro D hD_ d6_0 x26 x25 x24 x23 x22 x21 x20 x19 x18 x17 x16 w_
      rintro ⟨h0_, h1_, h2_, h3_, h4_, h5_, h6_, h7_, h8_, h9_, h10_, h11_, ⟨M, cs7, b8, e7, e8, k8, k9, k11, k1, hI⟩⟩
      obtain rfl := h6_ d6_0
      have f8 : D 8 = false := Bool.eq_false_iff.2 fun h => by rw [k8 h] at hD_; cases hD_
      have f9 : D 9 = false := Bool.eq_false_iff.2 fun h => by rw [k9 h] at f8; cases f8
      have f11 : D 11 = false := Bool.eq_false_iff.2 fun h => by rw [k11 h] at f9; cases f9
      rw [hD_, f8, f9, f11] at hI
      refine Run.call0 fn_s_l1Copy nm_s_l1Copy hI (l1Copy_calls _ S _ hR (by omega)) fun v' I' S w_ => ?_
      rintro ⟨rfl, cs7, M, rfl, rfl, hT⟩ _ hI
      have e7 : setD D 7 7 = true → Value.agg cs7.toArray = Value.agg cs7.toArray ∧ TrT M cs7 (c0.body)[j] := fun _ => ⟨rfl, hT⟩
      have k8 := fun (_ : setD D 7 8 = true) => (rfl : setD D 7 7 = true)
      have hI : Inv w [] (cpItems (.blk b1 (.cells #[.int .i64 c0.head.kind, .int .i64 c0.head.n, .string c0.head.name, kv, .slice (some ⟨b, o, none⟩) c0.body.length cap] t_iClause)) (.blk b2 (.cells #[.int .i64 0, .int .i64 0, .string ⟨#[]⟩, .slice none 0 0, .slice none 0 0] t_iClause)) (.blk b3 (.cells #[.int .i64 c0.head.kind, .int .i64 c0.head.n, .string c0.head.name, kh, kvc] t_iClause)) (.blk b3 (.cells #[.int .i64 c0.head.kind, .int .i64 c0.head.n, .string c0.head.name, kh, x25] t_iClause)) (rowG kvc t_iTerm 4 css) (rowG x25 t_iTerm 4 (css ++ [cs7])) (blks (N :: Ls).flatten) M (.blk b8 (.cells cs7.toArray t_iTerm)) true (D 8) (D 9) (D 11)) S w_ := by
        rw [f8, f9, f11]
        simpa [cpItems] using hI
      exact ⟨h0_, h1_, h2_, h3_, h4_, h5_, h6_, fun _ => by first | assumption | trivial, h8_, h9_, h10_, h11_, ⟨M, cs7, b8, e7, e8, k8, k9, k11, k1, hI⟩⟩
    · intro D hD_ d7_0 x26 x25 x24 x23 x22 x21 x20 x19 x18 x17 x16 w_
      rintro ⟨h0_, h1_, h2_, h3_, h4_, h5_, h6_, h7_, h8_, h9_, h10_, h11_, ⟨M, cs7, b8, e7, e8, k8, k9, k11, k1, hI⟩⟩
      have g7_ := h7_ d7_0
      have f9 : D 9 = false := Bool.eq_false_iff.2 fun h => by rw [k9 h] at hD_; cases hD_
      have f11 : D 11 = false := Bool.eq_false_iff.2 fun h => by rw [k11 h] at f9; cases f9
      obtain ⟨q7, hT⟩ := e7 d7_0
      subst q7
      rw [d7_0, hD_, f9, f11] at hI
      refine r_slice1 hI mk_SiTerm (by simp [Value.cells, hT.length]) (by omega) (by omega) fun b8 w_ hI => ?_
      have e7 : setD D 8 7 = true → Value.agg cs7.toArray = Value.agg cs7.toArray ∧ TrT M cs7 (c0.body)[j] := fun _ => ⟨rfl, hT⟩
      have e8 := fun (_ : setD D 8 8 = true) => (rfl : Value.slice (some ⟨b8, 0, none⟩) 1 1 = _)
      have k8 := fun (_ : setD D 8 8 = true) => d7_0
      have k9 := fun (_ : setD D 8 9 = true) => (rfl : setD D 8 8 = true)
      have hI : Inv w [] (cpItems (.blk b1 (.cells #[.int .i64 c0.head.kind, .int .i64 c0.head.n, .string c0.head.name, kv, .slice (some ⟨b, o, none⟩) c0.body.length cap] t_iClause)) (.blk b2 (.cells #[.int .i64 0, .int .i64 0, .string ⟨#[]⟩, .slice none 0 0, .slice none 0 0] t_iClause)) (.blk b3 (.cells #[.int .i64 c0.head.kind, .int .i64 c0.head.n, .string c0.head.name, kh, kvc] t_iClause)) (.blk b3 (.cells #[.int .i64 c0.head.kind, .int .i64 c0.head.n, .string c0.head.name, kh, x25] t_iClause)) (rowG kvc t_iTerm 4 css) (rowG x25 t_iTerm 4 (css ++ [cs7])) (blks (N :: Ls).flatten) M (.blk b8 (.cells cs7.toArray t_iTerm)) (D 7) true (D 9) (D 11)) S w_ := by
        rw [d7_0, f9, f11]
        simpa [cpItems, Value.cells] using hI
      exact ⟨h0_, h1_, h2_, h3_, h4_, h5_, h6_, h7_, fun _ => by first | assumption | trivial, h9_, h10_, h11_, ⟨M, cs7, b8, e7, e8, k8, k9, k11, k1, hI⟩⟩
    · intro D hD_ d1_0 d8_1 d7_2 x26 x25 x24 x23 x22 x21 x20 x19 x18 x17 x16 w_
      rintro ⟨h0_, h1_, h2_, h3_, h4_, h5_, h6_, h7_, h8_, h9_, h10_, h11_, ⟨M, cs7, b8, e7, e8, k8, k9, k11, k1, hI⟩⟩
      obtain rfl := h1_ d1_0
      have g8_ := h8_ d8_1
      have f11 : D 11 = false := Bool.eq_false_iff.2 fun h => by rw [k11 h] at hD_; cases hD_
      have q8 := e8 d8_1
      subst q8
      obtain ⟨_, hT⟩ := e7 d7_2
      rw [d7_2, d8_1, hD_, f11] at hI
      have hblk : ((cpItems (.blk b1 (.cells #[.int .i64 c0.head.kind, .int .i64 c0.head.n, .string c0.head.name, kv, .slice (some ⟨b, o, none⟩) c0.body.length cap] t_iClause)) (.blk b2 (.cells #[.int .i64 0, .int .i64 0, .string ⟨#[]⟩, .slice none 0 0, .slice none 0 0] t_iClause)) (.blk b3 (.cells #[.int .i64 c0.head.kind, .int .i64 c0.head.n, .string c0.head.name, kh, x17] t_iClause)) (.blk b3 (.cells #[.int .i64 c0.head.kind, .int .i64 c0.head.n, .string c0.head.name, kh, x25] t_iClause)) (rowG x17 t_iTerm 4 css) (rowG x25 t_iTerm 4 (css ++ [cs7])) (blks (N :: Ls).flatten) M (.blk b8 (.cells cs7.toArray t_iTerm)) true true false false))[4 + (blks (N :: Ls).flatten).length + (blks M).length]? = some (.blk b8 (.cells cs7.toArray t_iTerm)) := by
        have e4 : 4 + (blks (N :: Ls).flatten).length + (blks M).length = ((blks (N :: Ls).flatten).length + (blks M).length) + 1 + 1 + 1 + 1 := by omega
        rw [e4]
        simp only [cpItems, List.getElem?_cons_succ]
        rw [List.getElem?_append_right (by omega), Nat.add_sub_cancel_left, List.getElem?_append_right (Nat.le_refl _), Nat.sub_self]; rfl
      refine r_append hI 3 cs7 mk_SiTerm (by omega) rfl (by rw [hT.length]) (m := 1) (o := 0) ?_ hT.one (by omega) (by omega) fun v' w_ hI => ?_
      · intro i u hi
        rw [hI.cellL hblk, Nat.zero_add]
        simpa using hi
      rw [rowG_snoc] at hI
      have k9 := fun (_ : setD D 9 9 = true) => d8_1
      have k11 := fun (_ : setD D 9 11 = true) => (rfl : setD D 9 9 = true)
      have hI : Inv w [] (cpItems (.blk b1 (.cells #[.int .i64 c0.head.kind, .int .i64 c0.head.n, .string c0.head.name, kv, .slice (some ⟨b, o, none⟩) c0.body.length cap] t_iClause)) (.blk b2 (.cells #[.int .i64 0, .int .i64 0, .string ⟨#[]⟩, .slice none 0 0, .slice none 0 0] t_iClause)) (.blk b3 (.cells #[.int .i64 c0.head.kind, .int .i64 c0.head.n, .string c0.head.name, kh, x17] t_iClause)) (.blk b3 (.cells #[.int .i64 c0.head.kind, .int .i64 c0.head.n, .string c0.head.name, kh, v'] t_iClause)) (rowG x17 t_iTerm 4 css) (rowG v' t_iTerm 4 (css ++ [cs7])) (blks (N :: Ls).flatten) M (.blk b8 (.cells cs7.toArray t_iTerm)) (D 7) (D 8) true (D 11)) S w_ := by
        rw [d7_2, d8_1, f11]
        exact hI
      exact ⟨h0_, h1_, h2_, h3_, h4_, h5_, h6_, h7_, h8_, fun _ => by first | assumption | trivial, h10_, h11_, ⟨M, cs7, b8, e7, e8, k8, k9, k11, k1, hI⟩⟩
    · intro D hD_ d0_0 d1_1 d2_2 d3_3 d4_4 d5_5 d6_6 d7_7 d8_8 d9_9 x26 x25 x24 x23 x22 x21 x20 x19 x18 x17 x16 w_
      rintro ⟨h0_, h1_, h2_, h3_, h4_, h5_, h6_, h7_, h8_, h9_, h10_, h11_, ⟨M, cs7, b8, e7, e8, k8, k9, k11, k1, hI⟩⟩
      refine r_field fo_iClause_1 ?_
      exact ⟨h0_, h1_, h2_, h3_, h4_, h5_, h6_, h7_, h8_, h9_, fun _ => rfl, h11_, ⟨M, cs7, b8, e7, e8, k8, k9, k11, k1, hI⟩⟩
    · intro D hD_ d10_0 d9_1 d9_2 d0_3 d1_4 d2_5 d3_6 d4_7 d5_8 d6_9 d7_10 d8_11 d9_12 x26 x25 x24 x23 x22 x21 x20 x19 x18 x17 x16 w_
      rintro ⟨h0_, h1_, h2_, h3_, h4_, h5_, h6_, h7_, h8_, h9_, h10_, h11_, ⟨M, cs7, b8, e7, e8, k8, k9, k11, k1, hI⟩⟩
      obtain rfl := h10_ d10_0
      have g9_ := h9_ d9_1
      rw [d7_10, d8_11, d9_1, hD_] at hI
      obtain ⟨va, vn, vc, hv9⟩ := Inv.rowSlice hI 3 rfl
      refine r_store hI 2 (n := 1) (by rw [hv9]; rfl) (by decide +kernel) rfl (by simp) (by rw [hv9]; simp [Value.cells, Value.oneCell']) fun w_ hI => ?_
      have hcl9 : Value.cells x25 = #[x25] := by rw [hv9]; rfl
      rw [hcl9] at hI
      have k1 := fun (_ : setD D 11 11 = true) => d1_4
      have k11 := fun (_ : setD D 11 11 = true) => d9_1
      have hI : Inv w [] (cpItems (.blk b1 (.cells #[.int .i64 c0.head.kind, .int .i64 c0.head.n, .string c0.head.name, kv, .slice (some ⟨b, o, none⟩) c0.body.length cap] t_iClause)) (.blk b2 (.cells #[.int .i64 0, .int .i64 0, .string ⟨#[]⟩, .slice none 0 0, .slice none 0 0] t_iClause)) (.blk b3 (.cells #[.int .i64 c0.head.kind, .int .i64 c0.head.n, .string c0.head.name, kh, kvc] t_iClause)) (.blk b3 (.cells #[.int .i64 c0.head.kind, .int .i64 c0.head.n, .string c0.head.name, kh, x25] t_iClause)) (rowG kvc t_iTerm 4 css) (rowG x25 t_iTerm 4 (css ++ [cs7])) (blks (N :: Ls).flatten) M (.blk b8 (.cells cs7.toArray t_iTerm)) (D 7) (D 8) (D 9) true) S w_ := by
        rw [d7_10, d8_11, d9_1]
        exact hI
      exact ⟨h0_, h1_, h2_, h3_, h4_, h5_, h6_, h7_, h8_, h9_, h10_, fun _ => trivial, ⟨M, cs7, b8, e7, e8, k8, k9, k11, k1, hI⟩⟩
    intro D d11_ d10_ d9_ d8_ d7_ d6_ d5_ d4_ d3_ d2_ d1_ d0_ x26 x25 x24 x23 x22 x21 x20 x19 x18 x17 x16 w_
    rintro ⟨h0_, h1_, h2_, h3_, h4_, h5_, h6_, h7_, h8_, h9_, h10_, h11_, ⟨M, cs7, b8, e7, e8, k8, k9, k11, k1, hI⟩⟩
    obtain rfl := h10_ d10_
    have g9_ := h9_ d9_
    have g8_ := h8_ d8_
    have g7_ := h7_ d7_
    obtain rfl := h6_ d6_
    obtain rfl := h5_ d5_
    obtain rfl := h4_ d4_
    obtain rfl := h3_ d3_
    obtain rfl := h2_ d2_
    obtain rfl := h1_ d1_
    obtain rfl := h0_ d0_
    clear h0_ h1_ h2_ h3_ h4_ h5_ h6_ h7_ h8_ h9_ h10_ h11_
    obtain ⟨_, hT⟩ := e7 d7_
    rw [d7_, d8_, d9_, d11_] at hI
    refine r_add (by omega) ?_
    refine ⟨⟨j + 1, x25, Ls ++ [M], css ++ [cs7], hj', rfl, ?_, ?_⟩, by simp [intOf]; omega⟩
    · rw [List.take_succ_eq_append_getElem hj']
      exact hg.snoc hT hT.length
    · rw [← List.cons_append, List.flatten_append, blks_append]
      simp only [List.flatten_cons, List.flatten_nil, List.append_nil]
      refine hI.sub ?_
      simp only [cpItems, List.flatten_cons]
      rw [← List.append_assoc]
      exact (((List.sublist_append_left _ _).cons_cons _).cons_cons _).cons_cons _ |>.cons_cons _
  · have : j = c0.body.length := by omega
    subst this
    rw [List.take_length] at hg
    obtain ⟨va, vn, vc, hvk⟩ := hI.rowSlice 3 rfl
    have hv1 : kvc.oneCell' = true := by rw [hvk]; rfl
    have o1 : kh.oneCell' = true := hT1.one kh (by simp)
    refine r_loadW hI 2 ag_iClause rfl rfl ?_
    refine r_storeW hI 1 rfl ag_iClause rfl rfl ?_ fun w' hI => ?_
    · intro u hu
      have hu' : u ∈ ([.int .i64 c0.head.kind, .int .i64 c0.head.n, .string c0.head.name, kh, kvc] : List Value) := hu
      simp at hu'
      rcases hu' with rfl | rfl | rfl | rfl | rfl <;> first | rfl | exact o1 | exact hv1
    refine loadV_W hI 1 ag_iClause rfl rfl ?_
    have hI : Inv w [] (rowG kvc t_iTerm 4 css :: blks (N :: Ls).flatten) S w' := hI.sub (List.sublist_append_right [_, _, _] _)
    rw [List.flatten_cons, blks_append] at hI
    have hI := hI.perm (M := blks N ++ (rowG kvc t_iTerm 4 css :: blks Ls.flatten)) (List.perm_middle)
    obtain ⟨L, hT, hI⟩ := Inv.rowTree hI hg
    exact ⟨_, _, _, rfl, hI, Ext.refl _ _ _, rfl, _, N ++ L, rfl, by rw [blks_append], _, kvc, N, L, rfl, rfl, hT1, hT⟩
theorem l14Copy_calls {p : List C} {S : Store} {v : Value} (h : RdSl S 5 (RdC S) v p) (hw : p.length + wP p ≤ 1048576) : Tri Try.prog n_s_l14Copy [v] [] S (PostS 5 TrC S p) := by
  intro w hI
  refine calls_s_l14Copy ?_
  unfold sh_s_l14Copy
  refine r_slice0 hI mk_SiClause fun v0 w' hI => ?_
  refine ⟨fun i t w' => ∃ (k : Nat) (Ls : List Heaplet) (css : List (List Value)), k ≤ p.length ∧ i = .int .i64 k ∧ Grown 5 TrC Ls css (p.take k) ∧ Inv w [] (rowG t t_iClause 5 css :: blks Ls.flatten) S w',
    fun i _ _ => p.length - (intOf i).toNat, ⟨0, [], [], Nat.zero_le _, rfl, Grown.nil _ _, hI⟩, ?_⟩
  intro t4 _ _ t3 _ _ _ _ _ _ _ _ _ _ _ _ w'
  rintro ⟨k, Ls, css, hk, rfl, hg, hI⟩
  refine r_lenSl h sl_SiClause ?_
  refine r_lss ?_
  refine condP (fun hki => ?_) (fun hki => ?_)
  · have hk' : k < p.length := by omega
    have htl : (p.take k).length = k := by simp; omega
    have hcl := hg.hc
    refine r_elem hI h sl_SiClause ag_iClause hk' (fun _ _ => RdC.length) fun cs hcs => ?_
    have hm := List.getElem_mem hk'
    have hwm := wP_mem hm
    refine Run.call0 fn_s_l4Copy nm_s_l4Copy hI (l4Copy_calls hcs (by omega)) fun v' I' S' w' => ?_
    rintro ⟨rfl, cs', L, rfl, rfl, hT⟩ _ hI
    refine r_append1 hI 0 cs' mk_SiClause (by omega) (by omega) rfl hT.length hT.one (by omega) (by omega) fun v' w' hI => ?_
    refine r_add (by omega) ?_
    refine ⟨⟨k + 1, Ls ++ [L], css ++ [cs'], hk', rfl, ?_, ?_⟩, by simp [intOf]; omega⟩
    · rw [List.take_succ_eq_append_getElem hk']
      exact hg.snoc hT hT.length
    · simp only [List.flatten_append, List.flatten_cons, List.flatten_nil, List.append_nil, blks_append]
      exact hI
  · have : k = p.length := by omega
    subst this
    rw [List.take_length] at hg
    obtain ⟨L, hT, hI⟩ := Inv.rowTree (A := []) hI hg
    exact ⟨_, _, _, rfl, hI, Ext.refl _ _ _, rfl, _, rfl, hT⟩
end

end Go.Proofs.Ytnoieadimkgjcaa

/- append of a whole slice that is only read to a row of the function's own. -/
namespace Go.Proofs.Ytnoieadimkgjcaa
open Go Go.RowKit
section
variable {P : Program} {w w0 : World} {X : List Nat} {L : List Item} {S : Store} {K : Value → World → Prop}
theorem r_append0 (h : Inv w0 X L S w) {T ty e : TypeId} {k by_ n cp : Nat} {z v : Value} {cs : List Bool} {xs : List Value} {a : Option Addr} (i : Nat)
    (hT : mkOf P T = some (e, k, by_, z)) (hi : L[i]? = some (.row v e k n xs)) (hk : K v w) :
    Run P (sBuiltin .append #[T, T] ty cs [v, .slice a 0 cp]) w K := by
  obtain ⟨hu, inf, hi', hz, hs, hb, hzs⟩ := mkOf_some hT
  have hown := h.its _ (List.mem_of_getElem? hi)
  simp only [Item.holds] at hown
  refine Run.of (v := v) (w' := w) ?_ hk
  rcases hown.2 with ⟨rfl, rfl⟩ | ⟨g, cap, cur, rfl, _, hg, hnc, hcm, hcs, ht⟩
  · cases a <;> simp [sBuiltin, builtin, Builtin.append_, run_underlying hu, sizeOf, typeInfo, hi', Builtin.lenOf, Builtin.firstCells, loadCells, loadCellsFrom]
  · cases a <;> simp [sBuiltin, builtin, Builtin.append_, run_underlying hu, sizeOf, typeInfo, hi', storeCells, hnc, Builtin.lenOf, Builtin.firstCells, loadCells, loadCellsFrom]
theorem r_appendSl {α : Type} {R : List Value → α → Prop} (h : Inv w0 X L S w) {T ty e : TypeId} {k by_ n : Nat} {z v u : Value} {cs : List Bool} {xs : List Value} {ys : List α} {f : α → List Value} (i : Nat)
    (hT : mkOf P T = some (e, k, by_, z)) (hk0 : 0 < k) (hi : L[i]? = some (.row v e k n xs)) (hr : RdSl S k R u ys) (hR : ∀ cs y, R cs y → cs = f y) (hf : ∀ y, (f y).length = k) (h1 : ∀ y, ∀ c ∈ f y, c.oneCell' = true)
    (hfit : n + ys.length ≤ 4294967296) (hby : by_ ≤ 32768)
    (hk : ∀ v' w', Inv w0 X (L.set i (.row v' e k (n + ys.length) (xs ++ ys.flatMap f))) S w' → K v' w') :
    Run P (sBuiltin .append #[T, T] ty cs [v, u]) w K := by
  obtain ⟨a, cap, rfl, hl, hc, hx⟩ := hr
  rcases hx with rfl | ⟨b, o, c, E, fz, rfl, hS, hel⟩
  · refine r_append0 h i hT hi (hk v w ?_)
    have : L.set i (.row v e k (n + ([] : List α).length) (xs ++ ([] : List α).flatMap f)) = L := by
      simp only [List.length_nil, Nat.add_zero, List.flatMap_nil, List.append_nil]
      obtain ⟨hlt, e'⟩ := List.getElem?_eq_some_iff.1 hi
      rw [← e', List.set_getElem_self]
    rw [this]
    exact h
  · refine r_append h i (ys.flatMap f) hT hk0 hi (flat_len f k hf ys) ?_ ?_ hfit hby hk
    · intro j v' hj
      have hj' : j < ys.length * k := by
        rw [← flat_len f k hf ys]
        exact (List.getElem?_eq_some_iff.1 hj).1
      have hq : j / k < ys.length := (Nat.div_lt_iff_lt_mul hk0).2 hj'
      have hcell := hR _ _ (hel (j / k) hq)
      have hflat := flat_at f k hf ys (j / k) hq
      rw [h.cellS hS]
      have e1 : (ys.flatMap f)[j]? = (f ys[j / k])[j % k]? := by
        rw [← hflat, List.getElem?_take, if_pos (Nat.mod_lt _ hk0), List.getElem?_drop]
        congr 1
        have := Nat.div_add_mod j k
        rw [Nat.mul_comm] at this
        omega
      rw [e1] at hj
      have := cellsAt_get hcell (j % k) v' hj
      rw [← this]
      congr 1
      have := Nat.div_add_mod j k
      rw [Nat.mul_comm] at this
      omega
    · intro c' hc'
      obtain ⟨y, _, hy⟩ := List.mem_flatMap.1 hc'
      exact h1 y c' hy
end

end Go.Proofs.Ytnoieadimkgjcaa

/- Rows of clauses that are only read: grown, joined, copied. -/
namespace Go.Proofs.Ytnoieadimkgjcaa
open Go Go.RowKit

structure Rows {α : Type} (k : Nat) (R : List Value → α → Prop) (css : List (List Value)) (ys : List α) : Prop where
  hc : css.length = ys.length
  hk : ∀ cs ∈ css, cs.length = k
  hR : ∀ i (h : i < ys.length) (h1 : i < css.length), R css[i] ys[i]
theorem Rows.nil {α : Type} (k : Nat) (R : List Value → α → Prop) : Rows k R [] ([] : List α) := ⟨rfl, by simp, fun i h => by simp at h⟩
theorem Rows.snoc {α : Type} {k : Nat} {R : List Value → α → Prop} {css : List (List Value)} {ys : List α} (h : Rows k R css ys) {cs : List Value} {y : α} (hR : R cs y) (hl : cs.length = k) : Rows k R (css ++ [cs]) (ys ++ [y]) := by
  refine ⟨by simp [h.hc], fun c hc => ?_, fun i h0 h2 => ?_⟩
  · rcases List.mem_append.1 hc with hc | hc
    · exact h.hk c hc
    · simp at hc; subst hc; exact hl
  · have e2 := h.hc
    by_cases hi : i < ys.length
    · rw [List.getElem_append_left (by omega), List.getElem_append_left hi]
      exact h.hR i hi (by omega)
    · have : i = ys.length := by simp at h0; omega
      subst this
      rw [List.getElem_append_right (by omega), List.getElem_append_right (by omega)]
      simp only [e2, Nat.sub_self, List.getElem_cons_zero]
      exact hR
theorem Rows.append {α : Type} {k : Nat} {R : List Value → α → Prop} {css css' : List (List Value)} {ys ys' : List α} (h : Rows k R css ys) (h' : Rows k R css' ys') : Rows k R (css ++ css') (ys ++ ys') := by
  have e := h.hc
  have e' := h'.hc
  refine ⟨by simp [e, e'], fun c hc => ?_, fun i h0 h2 => ?_⟩
  · rcases List.mem_append.1 hc with hc | hc
    · exact h.hk c hc
    · exact h'.hk c hc
  · by_cases hi : i < ys.length
    · rw [List.getElem_append_left (by omega), List.getElem_append_left hi]
      exact h.hR i hi (by omega)
    · have hi' : i - css.length < ys'.length := by simp at h0; omega
      rw [List.getElem_append_right (by omega), List.getElem_append_right (by omega)]
      have := h'.hR (i - css.length) hi' (by omega)
      simpa only [e] using this
theorem RowRd.rows {α : Type} {S : Store} {v : Value} {e : TypeId} {k : Nat} {R : List Value → α → Prop} {css : List (List Value)} {ys : List α} (hr : Rows k R css ys) (h : RowRd S v e k css.length css.flatten) : RdSl S k R v ys := by
  obtain ⟨hl, h⟩ := h
  have hcy := hr.hc
  rcases h with ⟨rfl, h0⟩ | ⟨g, cap, cur, rfl, hS, hnc, hcm, hcs, ht⟩
  · have : ys = [] := List.eq_nil_of_length_eq_zero (by omega)
    subst this
    exact ⟨none, 0, rfl, Nat.le_refl _, Nat.zero_le _, .inl rfl⟩
  · refine ⟨_, cap, by rw [hcy], by omega, hcm, .inr ⟨g, 0, cur, e, (0, 0), rfl, hS, fun i hi => ?_⟩⟩
    have := flatten_at k css i hr.hk (by omega)
    have hik : i * k + k ≤ css.length * k := by rw [← Nat.succ_mul]; exact Nat.mul_le_mul_right k (by omega)
    rw [← ht, List.drop_take, List.take_take, Nat.min_eq_left (by omega)] at this
    rw [cellsAt, Nat.zero_add, this]
    exact hr.hR i hi (by omega)
theorem flatten_one {css : List (List Value)} (h : ∀ cs ∈ css, ∀ u ∈ cs, u.oneCell' = true) : ∀ u ∈ css.flatten, u.oneCell' = true := by
  intro u hu
  obtain ⟨cs, hc, hu⟩ := List.mem_flatten.1 hu
  exact h cs hc u hu
theorem flatten_len {k : Nat} : ∀ {css : List (List Value)}, (∀ cs ∈ css, cs.length = k) → css.flatten.length = css.length * k
  | [], _ => by simp
  | c :: css, h => by
    have := flatten_len (css := css) fun cs hc => h cs (List.mem_cons_of_mem _ hc)
    rw [List.flatten_cons, List.length_append, h c (List.mem_cons_self ..), this, List.length_cons, Nat.succ_mul, Nat.add_comm]
section
variable {P : Program} {w w0 : World} {X : List Nat} {L : List Item} {S : Store} {K : Value → World → Prop}
attribute [local irreducible] Run CondV GuardV LoadV
/- append(row, other row...) -/
theorem r_appendRow (h : Inv w0 X L S w) {T ty e : TypeId} {k by_ : Nat} {z v u : Value} {cs : List Bool} {css css2 : List (List Value)} (i i2 : Nat)
    (hT : mkOf P T = some (e, k, by_, z)) (hk0 : 0 < k) (hi : L[i]? = some (rowG v e k css)) (hi2 : L[i2]? = some (rowG u e k css2)) (hk2 : ∀ cs ∈ css2, cs.length = k) (h1 : ∀ cs ∈ css2, ∀ u ∈ cs, u.oneCell' = true)
    (hfit : css.length + css2.length ≤ 4294967296) (hby : by_ ≤ 32768) (hk : ∀ v' w', Inv w0 X (L.set i (rowG v' e k (css ++ css2))) S w' → K v' w') :
    Run P (sBuiltin .append #[T, T] ty cs [v, u]) w K := by
  have hm : w.ownsRow 0 e k u css2.length css2.flatten := h.its _ (List.mem_of_getElem? hi2)
  rcases hm.2 with ⟨rfl, h0⟩ | ⟨g, cap, cur, rfl, _, hg, hnc, hcm, hcs, ht⟩
  · have : css2 = [] := List.eq_nil_of_length_eq_zero h0
    subst this
    refine r_append0 h i hT hi (hk v w ?_)
    have : L.set i (rowG v e k (css ++ [])) = L := by
      obtain ⟨hlt, e'⟩ := List.getElem?_eq_some_iff.1 hi
      rw [List.append_nil, ← e', List.set_getElem_self]
    rw [this]
    exact h
  · refine r_append h i css2.flatten hT hk0 hi (flatten_len hk2) (o := 0) ?_ (flatten_one h1) hfit hby fun v' w' hI => hk _ _ ?_
    · intro j u hj
      rw [Nat.zero_add]
      rw [← ht, List.getElem?_take] at hj
      split at hj
      · simpa [World.cell?, hg] using hj
      · cases hj
    · have e : Item.row v' e k (css.length + css2.length) (css.flatten ++ css2.flatten) = rowG v' e k (css ++ css2) := by simp [rowG]
      rw [← e]
      exact hI
end
abbrev PostCB (S : Store) (ys : List C) (b : Bool) : Value → List Item → Store → Prop := fun r I' S' => S' = S ∧ ∃ u L, r = .tuple #[u, .bool b] ∧ I' = blks L ∧ TrSl 5 TrC L u ys
theorem wP_filter (f : C → Bool) : ∀ p : List C, (p.filter f).length + wP (p.filter f) + ((p.filter fun c => !f c).length + wP (p.filter fun c => !f c)) = p.length + wP p
  | [] => rfl
  | c :: p => by
    have := wP_filter f p
    rw [List.filter_cons, List.filter_cons]
    cases f c <;> simp [wP] <;> omega
theorem wP_append : ∀ p q : List C, wP (p ++ q) = wP p + wP q
  | [], q => by simp [wP]
  | c :: p, q => by simp only [List.cons_append, wP, wP_append p q]; omega
theorem filter_snoc {α : Type} (f : α → Bool) (l : List α) (k : Nat) (h : k < l.length) (m : List α) : (if f l[k] = true then m ++ [l[k]] else m) ++ (l.drop (k + 1)).filter f = m ++ (l.drop k).filter f := by
  rw [List.drop_eq_getElem_cons h, List.filter_cons]
  split
  · rw [List.append_assoc]; rfl
  · rfl

end Go.Proofs.Ytnoieadimkgjcaa

/- Steps that the laws' walks share: results that are trees. -/
namespace Go.Proofs.Ytnoieadimkgjcaa
open Go Go.RowKit
section
variable {w w0 : World} {X : List Nat} {L A : List Item} {S : Store} {K : Value → World → Prop}
attribute [local irreducible] Run CondV GuardV LoadV
theorem Run.pubTree {f : FuncId} {fn : Func} {args : List Value} {ys : List C} {b : Bool} (hf : Try.prog.funcs[f]? = some fn) (hn : (fn.name == "runtime.NumGoroutine" || fn.body.isNone) = false) (hI : Inv w0 X L S w)
    (hc : Tri Try.prog f args [] S (PostCB S ys b)) (hk : ∀ u S' w', Sle S S' → RdSl S' 5 (RdC S') u ys → Inv w0 X L S' w' → K (.tuple #[u, .bool b]) w') : Run Try.prog (sCall (.func (.func f) #[] #[]) args) w K := by
  refine Run.call0 hf hn hI hc fun v' I' S' w' => ?_
  rintro ⟨rfl, u, M, rfl, rfl, hT⟩ _ hI
  obtain ⟨S1, hle, hins, hI, _⟩ := Inv.lendAll M hI
  exact hk _ _ _ hle (hT.rd hins fun _ _ _ hi h => h.rd hi) hI
theorem Run.eqTreeC {ys : List C} {u v : Value} {M : Heaplet} (hI : Inv w0 X (A ++ blks M) S w) (hT : TrSl 5 TrC M u ys) (h : RdSl S 5 (RdC S) v ys) (hk : ∀ w', Inv w0 X (A ++ blks M) S w' → K (.bool true) w') :
    Run Try.prog (sCall (.func (.func n_l_eqClauseS) #[] #[]) [u, v]) w K := by
  obtain ⟨S1, hle, hins, hI, hb⟩ := Inv.lendAll M hI
  refine Run.callPure fn_l_eqClauseS nm_l_eqClauseS hI (eqClauseS_calls (hT.rd hins fun _ _ _ hi h => h.rd hi) (h.monoC hle)) fun w' hI => ?_
  rw [(eqP_iff ys ys).2 rfl]
  exact hk _ (hb _ _ hI)
theorem Run.markTreeC {ys : List C} {u : Value} {M : Heaplet} {k : Int} (hI : Inv w0 X (A ++ blks M) S w) (hT : TrSl 5 TrC M u ys) (hk0 : 0 ≤ k) (hk1 : k + 3 * cntP ys ≤ 4611686018427387904)
    (hk : ∀ M' w', TrSl 5 TrC M' u (mkP ys k).1 → Inv w0 X (A ++ blks M') S w' → K (.int .i64 (k + 3 * cntP ys)) w') : Run Try.prog (sCall (.func (.func n_l_markClauseS) #[] #[]) [u, .int .i64 k]) w K := by
  refine Run.call fn_l_markClauseS nm_l_markClauseS hI (markClauseS_ok hT hk0 hk1) fun v' I' S' w' => ?_
  rintro ⟨rfl, rfl, M', rfl, hT'⟩ _ hI
  rw [mkP_end]
  exact hk _ _ hT' hI
theorem Run.heldTreeC {ys : List C} {u : Value} {M : Heaplet} {k : Int} (hI : Inv w0 X (A ++ blks M) S w) (hT : TrSl 5 TrC M u (mkP ys k).1) (hk0 : 0 ≤ k) (hk1 : k + 3 * cntP ys ≤ 4611686018427387904)
    (hk : ∀ w', Inv w0 X (A ++ blks M) S w' → K (.int .i64 (k + 3 * cntP ys)) w') : Run Try.prog (sCall (.func (.func n_l_heldClauseS) #[] #[]) [u, .int .i64 k]) w K := by
  obtain ⟨S1, hle, hins, hI, hb⟩ := Inv.lendAll M hI
  refine Run.callPure fn_l_heldClauseS nm_l_heldClauseS hI (heldClauseS_ok (hT.rd hins fun _ _ _ hi h => h.rd hi) hk0 hk1) fun w' hI => ?_
  rw [mkP_end]
  exact hk _ (hb _ _ hI)
theorem Run.eqTreeT {ys : List T} {u v : Value} {M : Heaplet} (hI : Inv w0 X (A ++ blks M) S w) (hT : TrSl 4 TrT M u ys) (h : RdSl S 4 (RdT S) v ys) (hk : ∀ w', Inv w0 X (A ++ blks M) S w' → K (.bool true) w') :
    Run Try.prog (sCall (.func (.func n_l_eqTermS) #[] #[]) [u, v]) w K := by
  obtain ⟨S1, hle, hins, hI, hb⟩ := Inv.lendAll M hI
  refine Run.callPure fn_l_eqTermS nm_l_eqTermS hI (eqTermS_calls (hT.rd hins fun _ _ _ hi h => h.rd hi) (h.monoT hle)) fun w' hI => ?_
  rw [(eqL_iff ys ys).2 rfl]
  exact hk _ (hb _ _ hI)
theorem Run.markTreeT {ys : List T} {u : Value} {M : Heaplet} {k : Int} (hI : Inv w0 X (A ++ blks M) S w) (hT : TrSl 4 TrT M u ys) (hk0 : 0 ≤ k) (hk1 : k + 3 * cntL ys ≤ 4611686018427387904)
    (hk : ∀ M' w', TrSl 4 TrT M' u (mkL ys k).1 → Inv w0 X (A ++ blks M') S w' → K (.int .i64 (k + 3 * cntL ys)) w') : Run Try.prog (sCall (.func (.func n_l_markTermS) #[] #[]) [u, .int .i64 k]) w K := by
  refine Run.call fn_l_markTermS nm_l_markTermS hI (markTermS_ok ys S M u k hT hk0 hk1) fun v' I' S' w' => ?_
  rintro ⟨rfl, rfl, M', rfl, hT'⟩ _ hI
  rw [mkL_end]
  exact hk _ _ hT' hI
theorem Run.heldTreeT {ys : List T} {u : Value} {M : Heaplet} {k : Int} (hI : Inv w0 X (A ++ blks M) S w) (hT : TrSl 4 TrT M u (mkL ys k).1) (hk0 : 0 ≤ k) (hk1 : k + 3 * cntL ys ≤ 4611686018427387904)
    (hk : ∀ w', Inv w0 X (A ++ blks M) S w' → K (.int .i64 (k + 3 * cntL ys)) w') : Run Try.prog (sCall (.func (.func n_l_heldTermS) #[] #[]) [u, .int .i64 k]) w K := by
  obtain ⟨S1, hle, hins, hI, hb⟩ := Inv.lendAll M hI
  refine Run.callPure fn_l_heldTermS nm_l_heldTermS hI (heldTermS_ok ys _ u k (hT.rd hins fun _ _ _ hi h => h.rd hi) hk0 hk1) fun w' hI => ?_
  rw [mkL_end]
  exact hk _ (hb _ _ hI)
end

end Go.Proofs.Ytnoieadimkgjcaa

/- The laws' marks in one clause: what lies behind it is marked, its own cells stay. -/
namespace Go.Proofs.Ytnoieadimkgjcaa
open Go Go.RowKit
def mkH (c : C) (k : Int) : C × Int := (⟨.mk c.head.kind c.head.n c.head.name (mkL c.head.kids k).1, (mkL c.body (mkL c.head.kids k).2).1⟩, (mkL c.body (mkL c.head.kids k).2).2)
def cntH (c : C) : Int := cntL c.head.kids + cntL c.body
theorem mkH_end (c : C) (k : Int) : (mkH c k).2 = k + 3 * cntH c := by
  show (mkL c.body (mkL c.head.kids k).2).2 = _
  rw [mkL_end, mkL_end, cntH]
  omega
theorem cntH_pos (c : C) : 0 ≤ cntH c := by
  have := cntL_pos c.head.kids
  have := cntL_pos c.body
  rw [cntH]; omega
theorem cntH_wC (c : C) : cntH c ≤ (wC c : Int) := by
  have h := cntC_wC c
  rw [cntC_eq] at h
  rw [cntH]; omega
section
attribute [local irreducible] Run CondV GuardV LoadV
theorem markTerm_ok {t : T} {S : Store} {L : Heaplet} {cs : List Value} {k : Int} (hT : TrT L cs t) (hk0 : 0 ≤ k) (hk : k + 3 * cntL t.kids ≤ 4611686018427387904) :
    Tri Try.prog n_l_markTerm [.agg cs.toArray, .int .i64 k] (blks L) S fun r I' S' => S' = S ∧ r = .int .i64 (mkL t.kids k).2 ∧ ∃ L', I' = blks L' ∧ TrT L' cs (.mk t.kind t.n t.name (mkL t.kids k).1) := by
  intro w hI
  obtain ⟨kv, rfl, h1, h2, h3, hkT⟩ := TrT.iff.1 hT
  refine calls_l_markTerm ?_
  unfold sh_l_markTerm
  refine r_box hI fun b1 w' hI => ?_
  have hI := hI.perm (M := [.blk b1 (.cells #[.int .i64 t.kind, .int .i64 t.n, .string t.name, kv] t_iTerm)] ++ blks L) List.perm_append_comm
  refine r_fieldL hI 0 rfl fo_iTerm_3 sc_SiTerm rfl ?_
  refine Run.call (A := [_]) fn_l_markTermS nm_l_markTermS hI (markTermS_ok t.kids S L kv k hkT hk0 hk) fun v' I' S' w' => ?_
  rintro ⟨rfl, rfl, L', rfl, hT'⟩ _ hI
  exact ⟨_, _, _, rfl, hI.sub (List.sublist_append_right _ _), Ext.refl _ _ _, rfl, rfl, L', rfl, TrT.iff.2 ⟨kv, rfl, h1, h2, h3, hT'⟩⟩
theorem heldTerm_calls {t : T} {S : Store} {cs : List Value} {k : Int} (h : RdT S cs (.mk t.kind t.n t.name (mkL t.kids k).1)) (hk0 : 0 ≤ k) (hk : k + 3 * cntL t.kids ≤ 4611686018427387904) :
    Pure Try.prog n_l_heldTerm [.agg cs.toArray, .int .i64 k] S (.int .i64 (mkL t.kids k).2) := by
  intro w hI
  obtain ⟨kv, rfl, _, _, _, hks⟩ := RdT.iff.1 h
  have hcn := cntL_pos t.kids
  have hme := mkL_end t.kids k
  refine calls_l_heldTerm ?_
  unfold sh_l_heldTerm
  refine r_box hI fun b1 w' hI => ?_
  refine r_fieldL hI 0 rfl fo_iTerm_3 sc_SiTerm rfl ?_
  refine Run.callPure fn_l_heldTermS nm_l_heldTermS hI (heldTermS_ok _ S kv k hks hk0 hk) fun w' hI => ?_
  refine r_lss ?_
  refine condP (fun hb => by omega) (fun _ => done hI rfl)
theorem markClause_calls {c : C} {S : Store} {L : Heaplet} {cs : List Value} {k : Int} (hT : TrC L cs c) (hk0 : 0 ≤ k) (hk : k + 3 * cntH c ≤ 4611686018427387904) :
    Tri Try.prog n_l_markClause [.agg cs.toArray, .int .i64 k] (blks L) S fun r I' S' => S' = S ∧ r = .int .i64 (mkH c k).2 ∧ ∃ L', I' = blks L' ∧ TrC L' cs (mkH c k).1 := by
  intro w hI
  obtain ⟨hd, ks, L1, L2, rfl, rfl, hT1, hT2⟩ := hT
  have hT1' := hT1
  obtain ⟨kv, rfl, _, _, _, _⟩ := TrT.iff.1 hT1
  have hc1 := cntL_pos c.head.kids
  have hc2 := cntL_pos c.body
  have hme := mkL_end c.head.kids k
  rw [cntH] at hk
  refine calls_l_markClause ?_
  unfold sh_l_markClause
  refine r_box hI fun b1 w' hI => ?_
  have hI := hI.perm (M := ([.blk b1 (.cells #[.int .i64 c.head.kind, .int .i64 c.head.n, .string c.head.name, kv, ks] t_iClause)] ++ blks L2) ++ blks L1) (by
    rw [blks_append]
    exact List.perm_append_comm.trans (List.Perm.append_left _ List.perm_append_comm |>.trans (by rw [List.append_assoc]; exact List.Perm.refl _)))
  refine r_field fo_iClause_0 ?_
  refine r_loadLA hI 0 [.int .i64 c.head.kind, .int .i64 c.head.n, .string c.head.name, kv] ag_iTerm rfl rfl sub4 ?_
  refine Run.call fn_l_markTerm nm_l_markTerm hI (markTerm_ok hT1' hk0 (by omega)) fun v' I' S' w' => ?_
  rintro ⟨rfl, rfl, L1', rfl, hT1''⟩ _ hI
  refine r_fieldL hI 0 rfl fo_iClause_1 sc_SiTerm rfl ?_
  have hI := hI.perm (M := ([.blk b1 (.cells #[.int .i64 c.head.kind, .int .i64 c.head.n, .string c.head.name, kv, ks] t_iClause)] ++ blks L1') ++ blks L2) (by
    rw [List.append_assoc, List.append_assoc]; exact List.Perm.append_left _ List.perm_append_comm)
  refine Run.call fn_l_markTermS nm_l_markTermS hI (markTermS_ok c.body S' L2 ks _ hT2 (by omega) (by omega)) fun v' I' S2 w' => ?_
  rintro ⟨rfl, rfl, L2', rfl, hT2'⟩ _ hI
  have hI : Inv w (feet (blks (L1 ++ L2))) (blks (L1' ++ L2')) S2 w' := by
    rw [blks_append L1' L2']
    rw [List.append_assoc] at hI
    exact hI.sub (List.sublist_append_right _ _)
  exact ⟨_, _, _, rfl, hI, Ext.refl _ _ _, rfl, rfl, L1' ++ L2', rfl, _, ks, L1', L2', rfl, rfl, hT1'', hT2'⟩
theorem heldClause_calls {c : C} {S : Store} {cs : List Value} {k : Int} (h : RdC S cs (mkH c k).1) (hk0 : 0 ≤ k) (hk : k + 3 * cntH c ≤ 4611686018427387904) :
    Pure Try.prog n_l_heldClause [.agg cs.toArray, .int .i64 k] S (.int .i64 (mkH c k).2) := by
  intro w hI
  obtain ⟨hd, ks, rfl, h1, h2⟩ := h
  have h1' : RdT S hd (.mk c.head.kind c.head.n c.head.name (mkL c.head.kids k).1) := h1
  obtain ⟨kv, rfl, _, _, _, _⟩ := RdT.iff.1 h1
  have hc1 := cntL_pos c.head.kids
  have hc2 := cntL_pos c.body
  have hme := mkL_end c.head.kids k
  have hme2 := mkL_end c.body (mkL c.head.kids k).2
  rw [cntH] at hk
  refine calls_l_heldClause ?_
  unfold sh_l_heldClause
  refine r_box hI fun b1 w' hI => ?_
  refine r_field fo_iClause_0 ?_
  refine r_loadLA hI 0 [.int .i64 c.head.kind, .int .i64 c.head.n, .string c.head.name, kv] ag_iTerm rfl rfl sub4 ?_
  refine Run.callPure fn_l_heldTerm nm_l_heldTerm hI (heldTerm_calls h1' hk0 (by omega)) fun w' hI => ?_
  refine r_lss ?_
  refine condP (fun hb => by omega) (fun _ => ?_)
  refine r_fieldL hI 0 rfl fo_iClause_1 sc_SiTerm rfl ?_
  refine Run.callPure fn_l_heldTermS nm_l_heldTermS hI (heldTermS_ok c.body S ks _ h2 (by omega) (by omega)) fun w' hI => ?_
  refine r_lss ?_
  exact condP (fun hb => by omega) (fun _ => done hI rfl)
end
section
variable {w w0 : World} {X : List Nat} {L A : List Item} {S : Store} {K : Value → World → Prop}
attribute [local irreducible] Run CondV GuardV LoadV
theorem Run.toClause1M {c : C} {cs : List Value} (hI : Inv w0 X L S w) (h : RdC S cs c) (hw : wC c ≤ 1048576)
    (hk : ∀ cs' M S' w', Sle S S' → RdC S' cs' c → TrC M cs' c → Inv w0 X L S' w' → (∀ B w'', Inv w0 X B S' w'' → Inv w0 X (B ++ blks M) S w'') → K (.agg cs'.toArray) w') :
    Run Try.prog (sCall (.func (.func n_l_toClause) #[] #[]) [.agg cs.toArray]) w K := by
  refine Run.call0 fn_l_toClause nm_l_toClause hI (toClause_calls h hw) fun v' I' S' w' => ?_
  rintro ⟨rfl, cs', M, rfl, rfl, hT⟩ _ hI
  obtain ⟨S2, hle, hins, hI, hb⟩ := Inv.lendAll M hI
  exact hk _ M _ _ hle (hT.rd hins) hT hI hb
theorem Run.markC1 {c : C} {cs : List Value} {M : Heaplet} {k : Int} (hI : Inv w0 X (A ++ blks M) S w) (hT : TrC M cs c) (hk0 : 0 ≤ k) (hk1 : k + 3 * cntH c ≤ 4611686018427387904)
    (hk : ∀ M' w', TrC M' cs (mkH c k).1 → Inv w0 X (A ++ blks M') S w' → K (.int .i64 (k + 3 * cntH c)) w') : Run Try.prog (sCall (.func (.func n_l_markClause) #[] #[]) [.agg cs.toArray, .int .i64 k]) w K := by
  refine Run.call fn_l_markClause nm_l_markClause hI (markClause_calls hT hk0 hk1) fun v' I' S' w' => ?_
  rintro ⟨rfl, rfl, M', rfl, hT'⟩ _ hI
  rw [mkH_end]
  exact hk _ _ hT' hI
theorem Run.heldC1 {c : C} {cs : List Value} {M : Heaplet} {k : Int} (hI : Inv w0 X (A ++ blks M) S w) (hT : TrC M cs (mkH c k).1) (hk0 : 0 ≤ k) (hk1 : k + 3 * cntH c ≤ 4611686018427387904)
    (hk : ∀ w', Inv w0 X (A ++ blks M) S w' → K (.int .i64 (k + 3 * cntH c)) w') : Run Try.prog (sCall (.func (.func n_l_heldClause) #[] #[]) [.agg cs.toArray, .int .i64 k]) w K := by
  obtain ⟨S1, hle, hins, hI, hb⟩ := Inv.lendAll M hI
  refine Run.callPure fn_l_heldClause nm_l_heldClause hI (heldClause_calls (hT.rd hins) hk0 hk1) fun w' hI => ?_
  rw [mkH_end]
  exact hk _ (hb _ _ hI)
theorem Run.eqTree1 {c : C} {cs ds : List Value} {M : Heaplet} (hI : Inv w0 X (A ++ blks M) S w) (hT : TrC M cs c) (h : RdC S ds c) (hk : ∀ w', Inv w0 X (A ++ blks M) S w' → K (.bool true) w') :
    Run Try.prog (sCall (.func (.func n_l_eqClause) #[] #[]) [.agg cs.toArray, .agg ds.toArray]) w K := by
  obtain ⟨S1, hle, hins, hI, hb⟩ := Inv.lendAll M hI
  refine Run.callPure fn_l_eqClause nm_l_eqClause hI (eqClause_calls (hT.rd hins) (h.mono hle)) fun w' hI => ?_
  rw [(eqC_iff c c).2 rfl]
  exact hk _ (hb _ _ hI)
end

end Go.Proofs.Ytnoieadimkgjcaa

/- Whether terms are the same: both sides. -/
namespace Go.Proofs.Ytnoieadimkgjcaa
open Go Go.RowKit
attribute [local irreducible] Run CondV GuardV LoadV

def hdEq (t u : T) : Bool := decide (t.kind = u.kind) && (decide (t.n = u.n) && (decide (t.name = u.name) && decide (t.kids.length = u.kids.length)))
theorem hdEq_mk (k n k' n' : Int) (s s' : ByteArray) (ks ks' : List T) : hdEq (.mk k n s ks) (.mk k' n' s' ks') = (decide (k = k') && (decide (n = n') && (decide (s = s') && decide (ks.length = ks'.length)))) := rfl
theorem lenEq {α β : Type} (a : List α) (b : List β) : decide (a.length = b.length) = decide ((a.length : Int) = (b.length : Int)) := by
  rw [Bool.eq_iff_iff]
  simp only [decide_eq_true_eq]
  omega
theorem eqT_hd (t u : T) : eqT t u = (hdEq t u && eqL t.kids u.kids) := by
  obtain ⟨k, n, s, ks⟩ := t
  obtain ⟨k', n', s', ks'⟩ := u
  rw [eqT, hdEq_mk]
  by_cases h : ks.length = ks'.length
  · rw [decide_eq_true h, Bool.and_true, Bool.and_assoc, Bool.and_assoc]; rfl
  · rw [eqL_len h, decide_eq_false h]; simp
theorem s_TermSame_calls : ∀ (t u : T) (S : Store) (cs ds : List Value), RdT S cs t → RdT S ds u → Pure Try.prog n_s_TermSame [.agg cs.toArray, .agg ds.toArray] S (.bool (eqT t u)) := by
  refine T.ind fun k n s ks ih u S cs ds h h' => ?_
  intro w hI
  obtain ⟨kv, rfl, _, _, _, hks⟩ := RdT.iff.1 h
  obtain ⟨kv', rfl, _, _, _, hks'⟩ := RdT.iff.1 h'
  obtain ⟨k', n', s', ks'⟩ := u
  simp only [T.name, T.kids, T.kind, T.n] at hks hks' ⊢
  have hlen := hks.le
  simp only [maxLen] at hlen
  refine calls_s_TermSame ?_
  unfold sh_s_TermSame
  refine r_box hI fun b1 w' hI => ?_
  refine r_box hI fun b2 w' hI => ?_
  have hI : Inv w [] [.blk b1 (.cells #[.int .i64 k, .int .i64 n, .string s, kv] t_iTerm), .blk b2 (.cells #[.int .i64 k', .int .i64 n', .string s', kv'] t_iTerm)] S w' := hI
  refine ⟨fun q w' => q = .bool (!hdEq (.mk k n s ks) (.mk k' n' s' ks')) ∧ Inv w [] [.blk b1 (.cells #[.int .i64 k, .int .i64 n, .string s, kv] t_iTerm), .blk b2 (.cells #[.int .i64 k', .int .i64 n', .string s', kv'] t_iTerm)] S w', ?_, ?_⟩
  · refine r_fieldL hI 0 rfl fo_iTerm_0 sc_int rfl ?_
    refine r_fieldL hI 1 rfl fo_iTerm_0 sc_int rfl ?_
    refine r_neq ?_
    by_cases e1 : k = k'
    · rw [decide_eq_true e1]
      repeat (first | refine guard_true ?_ | refine guard_ne (by decide) ?_ | refine guard_undef ?_ | refine r_pickT ?_ | refine r_pickF ?_)
      refine r_fieldL hI 0 rfl fo_iTerm_1 sc_int rfl ?_
      refine r_fieldL hI 1 rfl fo_iTerm_1 sc_int rfl ?_
      refine r_neq ?_
      by_cases e2 : n = n'
      · rw [decide_eq_true e2]
        repeat (first | refine guard_true ?_ | refine guard_ne (by decide) ?_ | refine guard_undef ?_ | refine r_pickT ?_ | refine r_pickF ?_)
        refine r_fieldL hI 0 rfl fo_iTerm_2 sc_string rfl ?_
        refine r_fieldL hI 1 rfl fo_iTerm_2 sc_string rfl ?_
        refine r_sneq ?_
        by_cases e3 : s = s'
        · rw [decide_eq_true e3]
          repeat (first | refine guard_true ?_ | refine guard_ne (by decide) ?_ | refine guard_undef ?_ | refine r_pickT ?_ | refine r_pickF ?_)
          refine r_fieldL hI 0 rfl fo_iTerm_3 sc_SiTerm rfl ?_
          refine r_lenSl hks sl_SiTerm ?_
          refine r_fieldL hI 1 rfl fo_iTerm_3 sc_SiTerm rfl ?_
          refine r_lenSl hks' sl_SiTerm ?_
          refine r_neq ?_
          repeat (first | refine guard_true ?_ | refine guard_ne (by decide) ?_ | refine guard_undef ?_ | refine r_pickT ?_ | refine r_pickF ?_)
          exact ⟨by rw [hdEq_mk, decide_eq_true e1, decide_eq_true e2, decide_eq_true e3, lenEq]; rfl, hI⟩
        · rw [decide_eq_false e3]
          repeat (first | refine guard_true ?_ | refine guard_ne (by decide) ?_ | refine guard_undef ?_ | refine r_pickT ?_ | refine r_pickF ?_)
          exact ⟨by rw [hdEq_mk, decide_eq_true e1, decide_eq_true e2, decide_eq_false e3]; rfl, hI⟩
      · rw [decide_eq_false e2]
        repeat (first | refine guard_true ?_ | refine guard_ne (by decide) ?_ | refine guard_undef ?_ | refine r_pickT ?_ | refine r_pickF ?_)
        exact ⟨by rw [hdEq_mk, decide_eq_true e1, decide_eq_false e2]; rfl, hI⟩
    · rw [decide_eq_false e1]
      repeat (first | refine guard_true ?_ | refine guard_ne (by decide) ?_ | refine guard_undef ?_ | refine r_pickT ?_ | refine r_pickF ?_)
      exact ⟨by rw [hdEq_mk, decide_eq_false e1]; rfl, hI⟩

  intro q _ _ _ _ _ _ _ _ _ _ _ _ _ _ _ _ _ _ _ _ _ _ _ _ _ _ _ w'
  rintro ⟨rfl, hI⟩
  rw [eqT_hd]
  cases hd : hdEq (.mk k n s ks) (.mk k' n' s' ks')
  · refine condV (fun _ => done hI rfl) (fun hb => by cases hb)
  refine condV (fun hb => by cases hb) (fun _ => ?_)
  have hle : ks.length = ks'.length := by
    rw [hdEq_mk] at hd
    simp only [Bool.and_eq_true, decide_eq_true_eq] at hd
    exact hd.2.2.2
  simp only [T.kids, Bool.true_and]
  refine ⟨fun i w' => ∃ j : Nat, j ≤ ks.length ∧ i = .int .i64 j ∧ eqL (ks.drop j) (ks'.drop j) = eqL ks ks' ∧ Inv w [] [.blk b1 (.cells #[.int .i64 k, .int .i64 n, .string s, kv] t_iTerm), .blk b2 (.cells #[.int .i64 k', .int .i64 n', .string s', kv'] t_iTerm)] S w', fun i _ => ks.length - (intOf i).toNat, ⟨0, Nat.zero_le _, rfl, rfl, hI⟩, ?_⟩
  intro t5 _ _ _ _ _ _ _ _ _ _ _ _ _ _ _ _ _ _ _ _ w'
  rintro ⟨j, hj, rfl, hrel, hI⟩
  refine r_fieldL hI 0 rfl fo_iTerm_3 sc_SiTerm rfl ?_
  refine r_lenSl hks sl_SiTerm ?_
  refine r_lss ?_
  refine condP (fun hji => ?_) (fun hji => ?_)
  · have hj1 : j < ks.length := by omega
    have hj2 : j < ks'.length := by omega
    obtain ⟨c1, o1, cap1, a1, E1, fz1, rfl, hS1, hR1⟩ := hks.at_ hj1
    obtain ⟨c2, o2, cap2, a2, E2, fz2, rfl, hS2, hR2⟩ := hks'.at_ hj2
    have hstep : eqL (ks.drop j) (ks'.drop j) = (eqT ks[j] ks'[j] && eqL (ks.drop (j + 1)) (ks'.drop (j + 1))) := by
      rw [List.drop_eq_getElem_cons hj1, List.drop_eq_getElem_cons hj2, eqL]
    refine ⟨fun D x52 x51 x50 x49 x48 x47 x46 x45 x44 x43 x42 x41 w_ => (D 0 = true → x41 = .pointer (some ⟨b1, 3, none⟩)) ∧ (D 1 = true → x42 = .slice (some ⟨c1, o1, none⟩) ks.length cap1) ∧ (D 2 = true → x43 = .int .i64 j) ∧ (D 3 = true → x44 = .pointer (some ⟨c1, o1 + j * 4, none⟩)) ∧ (D 4 = true → x45 = .agg (cellsAt a1 (o1 + j * 4) 4).toArray) ∧ (D 5 = true → x46 = .pointer (some ⟨b2, 3, none⟩)) ∧ (D 6 = true → x47 = .slice (some ⟨c2, o2, none⟩) ks'.length cap2) ∧ (D 7 = true → x48 = .int .i64 j) ∧ (D 8 = true → x49 = .pointer (some ⟨c2, o2 + j * 4, none⟩)) ∧ (D 9 = true → x50 = .agg (cellsAt a2 (o2 + j * 4) 4).toArray) ∧ (D 10 = true → x51 = .bool (eqT ks[j] ks'[j])) ∧ (D 11 = true → x52 = .bool (!eqT ks[j] ks'[j])) ∧ Inv w [] [.blk b1 (.cells #[.int .i64 k, .int .i64 n, .string s, .slice (some ⟨c1, o1, none⟩) ks.length cap1] t_iTerm), .blk b2 (.cells #[.int .i64 k', .int .i64 n', .string s', .slice (some ⟨c2, o2, none⟩) ks'.length cap2] t_iTerm)] S w_, ⟨fun h => Bool.noConfusion h, fun h => Bool.noConfusion h, fun h => Bool.noConfusion h, fun h => Bool.noConfusion h, fun h => Bool.noConfusion h, fun h => Bool.noConfusion h, fun h => Bool.noConfusion h, fun h => Bool.noConfusion h, fun h => Bool.noConfusion h, fun h => Bool.noConfusion h, fun h => Bool.noConfusion h, fun h => Bool.noConfusion h, hI.draw⟩, ⟨?_, ?_, ?_, ?_, ?_, ?_, ?_, ?_, ?_, ?_, ?_, ?_, trivial⟩, ?_⟩
    · intro D hD_  x52 x51 x50 x49 x48 x47 x46 x45 x44 x43 x42 x41 w_
      rintro ⟨h0_, h1_, h2_, h3_, h4_, h5_, h6_, h7_, h8_, h9_, h10_, h11_, hI⟩
      refine r_field fo_iTerm_3 ?_
      exact ⟨fun _ => rfl, h1_, h2_, h3_, h4_, h5_, h6_, h7_, h8_, h9_, h10_, h11_, hI⟩
    · intro D hD_ d0_0 x52 x51 x50 x49 x48 x47 x46 x45 x44 x43 x42 x41 w_
      rintro ⟨h0_, h1_, h2_, h3_, h4_, h5_, h6_, h7_, h8_, h9_, h10_, h11_, hI⟩
      obtain rfl := h0_ d0_0
      refine r_loadL hI 0 sc_SiTerm rfl rfl ?_
      exact ⟨h0_, fun _ => rfl, h2_, h3_, h4_, h5_, h6_, h7_, h8_, h9_, h10_, h11_, hI⟩
    · intro D hD_  x52 x51 x50 x49 x48 x47 x46 x45 x44 x43 x42 x41 w_
      rintro ⟨h0_, h1_, h2_, h3_, h4_, h5_, h6_, h7_, h8_, h9_, h10_, h11_, hI⟩
      exact ⟨h0_, h1_, fun _ => rfl, h3_, h4_, h5_, h6_, h7_, h8_, h9_, h10_, h11_, hI⟩
    · intro D hD_ d1_0 d2_1 x52 x51 x50 x49 x48 x47 x46 x45 x44 x43 x42 x41 w_
      rintro ⟨h0_, h1_, h2_, h3_, h4_, h5_, h6_, h7_, h8_, h9_, h10_, h11_, hI⟩
      obtain rfl := h1_ d1_0
      obtain rfl := h2_ d2_1
      refine r_indexAddr sl_SiTerm hj1 ?_
      exact ⟨h0_, h1_, h2_, fun _ => rfl, h4_, h5_, h6_, h7_, h8_, h9_, h10_, h11_, hI⟩
    · intro D hD_ d3_0 x52 x51 x50 x49 x48 x47 x46 x45 x44 x43 x42 x41 w_
      rintro ⟨h0_, h1_, h2_, h3_, h4_, h5_, h6_, h7_, h8_, h9_, h10_, h11_, hI⟩
      obtain rfl := h3_ d3_0
      refine r_loadA ag_iTerm hR1.length (fun j v hj => by rw [hI.cellS hS1]; exact cellsAt_get rfl j v hj) ?_
      exact ⟨h0_, h1_, h2_, h3_, fun _ => rfl, h5_, h6_, h7_, h8_, h9_, h10_, h11_, hI⟩
    · intro D hD_  x52 x51 x50 x49 x48 x47 x46 x45 x44 x43 x42 x41 w_
      rintro ⟨h0_, h1_, h2_, h3_, h4_, h5_, h6_, h7_, h8_, h9_, h10_, h11_, hI⟩
      refine r_field fo_iTerm_3 ?_
      exact ⟨h0_, h1_, h2_, h3_, h4_, fun _ => rfl, h6_, h7_, h8_, h9_, h10_, h11_, hI⟩
    · intro D hD_ d5_0 x52 x51 x50 x49 x48 x47 x46 x45 x44 x43 x42 x41 w_
      rintro ⟨h0_, h1_, h2_, h3_, h4_, h5_, h6_, h7_, h8_, h9_, h10_, h11_, hI⟩
      obtain rfl := h5_ d5_0
      refine r_loadL hI 1 sc_SiTerm rfl rfl ?_
      exact ⟨h0_, h1_, h2_, h3_, h4_, h5_, fun _ => rfl, h7_, h8_, h9_, h10_, h11_, hI⟩
    · intro D hD_  x52 x51 x50 x49 x48 x47 x46 x45 x44 x43 x42 x41 w_
      rintro ⟨h0_, h1_, h2_, h3_, h4_, h5_, h6_, h7_, h8_, h9_, h10_, h11_, hI⟩
      exact ⟨h0_, h1_, h2_, h3_, h4_, h5_, h6_, fun _ => rfl, h8_, h9_, h10_, h11_, hI⟩
    · intro D hD_ d6_0 d7_1 x52 x51 x50 x49 x48 x47 x46 x45 x44 x43 x42 x41 w_
      rintro ⟨h0_, h1_, h2_, h3_, h4_, h5_, h6_, h7_, h8_, h9_, h10_, h11_, hI⟩
      obtain rfl := h6_ d6_0
      obtain rfl := h7_ d7_1
      refine r_indexAddr sl_SiTerm hj2 ?_
      exact ⟨h0_, h1_, h2_, h3_, h4_, h5_, h6_, h7_, fun _ => rfl, h9_, h10_, h11_, hI⟩
    · intro D hD_ d8_0 x52 x51 x50 x49 x48 x47 x46 x45 x44 x43 x42 x41 w_
      rintro ⟨h0_, h1_, h2_, h3_, h4_, h5_, h6_, h7_, h8_, h9_, h10_, h11_, hI⟩
      obtain rfl := h8_ d8_0
      refine r_loadA ag_iTerm hR2.length (fun j v hj => by rw [hI.cellS hS2]; exact cellsAt_get rfl j v hj) ?_
      exact ⟨h0_, h1_, h2_, h3_, h4_, h5_, h6_, h7_, h8_, fun _ => rfl, h10_, h11_, hI⟩
    · intro D hD_ d4_0 d9_1 x52 x51 x50 x49 x48 x47 x46 x45 x44 x43 x42 x41 w_
      rintro ⟨h0_, h1_, h2_, h3_, h4_, h5_, h6_, h7_, h8_, h9_, h10_, h11_, hI⟩
      obtain rfl := h4_ d4_0
      obtain rfl := h9_ d9_1
      refine Run.callPure fn_s_TermSame nm_s_TermSame hI (ih _ (List.getElem_mem hj1) _ S _ _ hR1 hR2) fun w_ hI => ?_
      exact ⟨h0_, h1_, h2_, h3_, h4_, h5_, h6_, h7_, h8_, h9_, fun _ => rfl, h11_, hI⟩
    · intro D hD_ d10_0 x52 x51 x50 x49 x48 x47 x46 x45 x44 x43 x42 x41 w_
      rintro ⟨h0_, h1_, h2_, h3_, h4_, h5_, h6_, h7_, h8_, h9_, h10_, h11_, hI⟩
      obtain rfl := h10_ d10_0
      refine r_not ?_
      exact ⟨h0_, h1_, h2_, h3_, h4_, h5_, h6_, h7_, h8_, h9_, h10_, fun _ => rfl, hI⟩
    intro D d11_ d10_ d9_ d8_ d7_ d6_ d5_ d4_ d3_ d2_ d1_ d0_ x52 x51 x50 x49 x48 x47 x46 x45 x44 x43 x42 x41 w_
    rintro ⟨h0_, h1_, h2_, h3_, h4_, h5_, h6_, h7_, h8_, h9_, h10_, h11_, hI⟩
    obtain rfl := h11_ d11_
    obtain rfl := h10_ d10_
    obtain rfl := h9_ d9_
    obtain rfl := h8_ d8_
    obtain rfl := h7_ d7_
    obtain rfl := h6_ d6_
    obtain rfl := h5_ d5_
    obtain rfl := h4_ d4_
    obtain rfl := h3_ d3_
    obtain rfl := h2_ d2_
    obtain rfl := h1_ d1_
    obtain rfl := h0_ d0_
    clear h0_ h1_ h2_ h3_ h4_ h5_ h6_ h7_ h8_ h9_ h10_ h11_
    refine condV (fun hne => ?_) (fun he' => ?_)
    · exact done hI (by rw [← hrel, hstep]; simp at hne; rw [hne]; rfl)
    · refine r_add (by omega) ?_
      refine ⟨⟨j + 1, hj1, rfl, ?_, hI⟩, by simp [intOf]; omega⟩
      rw [← hrel, hstep]
      simp at he'
      rw [he', Bool.true_and]
  · have : j = ks.length := by omega
    subst this
    refine done hI ?_
    rw [← hrel, List.drop_length, hle, List.drop_length]
    rfl

end Go.Proofs.Ytnoieadimkgjcaa

/- Whether terms are the same: the program's side. -/
namespace Go.Proofs.Ytnoieadimkgjcaa
open Go Go.RowKit
attribute [local irreducible] Run CondV GuardV LoadV

theorem EqualFunc_of {xs : List T} (ih : ∀ t ∈ xs, ∀ (u : T) (S : Store) (cs ds : List Value), RdT S cs t → RdT S ds u → Pure Try.prog n_i_TermSame [.agg cs.toArray, .agg ds.toArray] S (.bool (eqT t u)))
    {ys : List T} {S : Store} {v u : Value} (h : RdSl S 4 (RdT S) v xs) (h' : RdSl S 4 (RdT S) u ys) : Pure Try.prog n_x_EqualFunc_Term [v, u, .func (.func n_i_TermSame) #[] #[]] S (.bool (eqL xs ys)) := by
  intro w hI
  have hlen : (xs.length : Int) ≤ 9223372036854775807 := by have := h.le; simp only [maxLen] at this; omega
  refine calls_x_EqualFunc_Term ?_
  unfold sh_x_EqualFunc_Term
  refine r_lenSl h sl_SiTerm ?_
  refine r_lenSl h' sl_SiTerm ?_
  refine r_neq ?_
  refine condV (fun hne => ?_) (fun he => ?_)
  · exact done hI (by rw [eqL_len (by simp at hne; omega)])
  have he : xs.length = ys.length := by simp at he; omega
  refine r_lenSl h sl_SiTerm ?_
  refine ⟨fun i w' => ∃ (k : Nat), k ≤ xs.length ∧ i = .int .i64 k ∧ eqL (xs.drop k) (ys.drop k) = eqL xs ys ∧ Inv w [] [] S w', fun i _ => xs.length - (intOf i).toNat, ⟨0, Nat.zero_le _, rfl, rfl, hI⟩, ?_⟩
  intro t5 _ _ _ _ _ _ _ _ _ _ _ _ _ _ _ _ _ _ w'
  rintro ⟨k, hk, rfl, hrel, hI⟩
  refine r_lss ?_
  refine condP (fun hki => ?_) (fun hki => ?_)
  · have hk1 : k < xs.length := by omega
    have hk2 : k < ys.length := by omega
    have hstep : eqL (xs.drop k) (ys.drop k) = (eqT xs[k] ys[k] && eqL (xs.drop (k + 1)) (ys.drop (k + 1))) := by
      rw [List.drop_eq_getElem_cons hk1, List.drop_eq_getElem_cons hk2, eqL]
    refine r_elem hI h sl_SiTerm ag_iTerm hk1 (fun _ _ => RdT.length) fun cs hcs => ?_
    have hlc := hcs.length
    refine r_alloc hI zo_iTerm fun b8 w' hI => ?_
    refine r_storeW hI 0 rfl ag_iTerm (by simpa using hlc) rfl (by simpa using hcs.one) fun w' hI => ?_
    refine r_elem hI h' sl_SiTerm ag_iTerm hk2 (fun _ _ => RdT.length) fun ds hds => ?_
    have hld := hds.length
    refine r_alloc hI zo_iTerm fun b9 w' hI => ?_
    refine r_storeW hI 1 rfl ag_iTerm (by simpa using hld) rfl (by simpa using hds.one) fun w' hI => ?_
    refine r_loadW hI 0 ag_iTerm rfl (by simpa using hlc) ?_
    refine r_loadW hI 1 ag_iTerm rfl (by simpa using hld) ?_
    refine Run.callPure fn_i_TermSame nm_i_TermSame hI (ih _ (List.getElem_mem hk1) _ S _ _ hcs hds) fun w' hI => ?_
    refine r_not ?_
    refine condV (fun hne => ?_) (fun he' => ?_)
    · exact done hI (by rw [← hrel, hstep]; simp at hne; rw [hne]; rfl)
    · refine r_add (by omega) ?_
      refine ⟨⟨k + 1, hk1, rfl, ?_, hI.nil⟩, by simp [intOf]; omega⟩
      rw [← hrel, hstep]
      simp at he'
      rw [he', Bool.true_and]
  · have : k = xs.length := by omega
    subst this
    refine done hI ?_
    rw [← hrel, List.drop_length, he, List.drop_length]
    rfl
theorem i_TermSame_calls : ∀ (t u : T) (S : Store) (cs ds : List Value), RdT S cs t → RdT S ds u → Pure Try.prog n_i_TermSame [.agg cs.toArray, .agg ds.toArray] S (.bool (eqT t u)) := by
  refine T.ind fun k n s ks ih u S cs ds h h' => ?_
  intro w hI
  obtain ⟨kv, rfl, _, _, _, hks⟩ := RdT.iff.1 h
  obtain ⟨kv', rfl, _, _, _, hks'⟩ := RdT.iff.1 h'
  obtain ⟨k', n', s', ks'⟩ := u
  simp only [T.name, T.kids, T.kind, T.n] at hks hks' ⊢
  refine calls_i_TermSame ?_
  unfold sh_i_TermSame
  refine r_box hI fun b1 w' hI => ?_
  refine r_box hI fun b2 w' hI => ?_
  refine r_fieldL hI 0 rfl fo_iTerm_0 sc_int rfl ?_
  refine r_fieldL hI 1 rfl fo_iTerm_0 sc_int rfl ?_
  refine r_eql ?_
  by_cases e1 : k = k'
  · rw [decide_eq_true e1]
    repeat (first | refine guard_true ?_ | refine guard_ne (by decide) ?_ | refine guard_undef ?_ | refine r_pickT ?_ | refine r_pickF ?_)
    refine r_fieldL hI 0 rfl fo_iTerm_1 sc_int rfl ?_
    refine r_fieldL hI 1 rfl fo_iTerm_1 sc_int rfl ?_
    refine r_eql ?_
    by_cases e2 : n = n'
    · rw [decide_eq_true e2]
      repeat (first | refine guard_true ?_ | refine guard_ne (by decide) ?_ | refine guard_undef ?_ | refine r_pickT ?_ | refine r_pickF ?_)
      refine r_fieldL hI 0 rfl fo_iTerm_2 sc_string rfl ?_
      refine r_fieldL hI 1 rfl fo_iTerm_2 sc_string rfl ?_
      refine r_seql ?_
      by_cases e3 : s = s'
      · rw [decide_eq_true e3]
        repeat (first | refine guard_true ?_ | refine guard_ne (by decide) ?_ | refine guard_undef ?_ | refine r_pickT ?_ | refine r_pickF ?_)
        refine r_fieldL hI 0 rfl fo_iTerm_3 sc_SiTerm rfl ?_
        refine r_fieldL hI 1 rfl fo_iTerm_3 sc_SiTerm rfl ?_
        refine Run.callPure fn_x_EqualFunc_Term nm_x_EqualFunc_Term hI (EqualFunc_of ih hks hks') fun w' hI => ?_
        repeat (first | refine guard_true ?_ | refine guard_ne (by decide) ?_ | refine guard_undef ?_ | refine r_pickT ?_ | refine r_pickF ?_)
        exact done hI (by rw [eqT, decide_eq_true e1, decide_eq_true e2, decide_eq_true e3]; rfl)
      · rw [decide_eq_false e3]
        repeat (first | refine guard_true ?_ | refine guard_ne (by decide) ?_ | refine guard_undef ?_ | refine r_pickT ?_ | refine r_pickF ?_)
        exact done hI (by rw [eqT, decide_eq_true e1, decide_eq_true e2, decide_eq_false e3]; rfl)
    · rw [decide_eq_false e2]
      repeat (first | refine guard_true ?_ | refine guard_ne (by decide) ?_ | refine guard_undef ?_ | refine r_pickT ?_ | refine r_pickF ?_)
      exact done hI (by rw [eqT, decide_eq_true e1, decide_eq_false e2]; rfl)
  · rw [decide_eq_false e1]
    repeat (first | refine guard_true ?_ | refine guard_ne (by decide) ?_ | refine guard_undef ?_ | refine r_pickT ?_ | refine r_pickF ?_)
    exact done hI (by rw [eqT, decide_eq_false e1]; rfl)

end Go.Proofs.Ytnoieadimkgjcaa

/- Maps from numbers to terms. -/
namespace Go.Proofs.Ytnoieadimkgjcaa
open Go Go.RowKit

theorem findNow_int {n : Int} : ∀ (l : List MapEntry) (i : Nat), (∀ e ∈ l, ∃ m, e.key = .int .i64 m) →
    (∃ j, ∃ e ∈ l, e.key = .int .i64 n ∧ Instr.findNow (.int .i64) (.int .i64 n) l i = some (some (j, e.val))) ∨ ((∀ e ∈ l, e.key ≠ .int .i64 n) ∧ Instr.findNow (.int .i64) (.int .i64 n) l i = some none)
  | [], i, _ => .inr ⟨by simp, rfl⟩
  | e :: l, i, h => by
    obtain ⟨m, hm⟩ := h e (List.mem_cons_self ..)
    have hs : Instr.sameNow (.int .i64) (.int .i64 n) e.key = some (n == m) := by rw [hm]; rfl
    by_cases hnm : n = m
    · refine .inl ⟨i, e, List.mem_cons_self .., by rw [hm, hnm], ?_⟩
      have : (n == m) = true := by simpa using hnm
      rw [Instr.findNow, hs, this]
    · have h2 : (n == m) = false := by simpa using hnm
      rcases findNow_int l (i + 1) (fun e he => h e (List.mem_cons_of_mem _ he)) with ⟨j, e', he', hk, hf⟩ | ⟨hk, hf⟩
      · exact .inl ⟨j, e', List.mem_cons_of_mem _ he', hk, by rw [Instr.findNow, hs, h2]; exact hf⟩
      · refine .inr ⟨fun x hx => ?_, by rw [Instr.findNow, hs, h2]; exact hf⟩
        rcases List.mem_cons.1 hx with rfl | hx
        · rw [hm]
          intro e'
          simp only [Value.int.injEq, true_and] at e'
          exact hnm e'.symm
        · exact hk x hx
section
variable {P : Program} {w w0 : World} {X : List Nat} {L : List Item} {S : Store} {K : Value → World → Prop}
attribute [local irreducible] Run CondV GuardV LoadV
theorem run_findKeyI {kt : TypeId} {d : TypeDesc} {k : Value} {l : List MapEntry} {a : Option (Nat × Value)} (hd : P.underlying kt = some d) (h : Instr.findNow d k l 0 = some a) : (Instr.findKey kt k l).run P w = .ok a w := by
  simp [Instr.findKey, run_underlying hd, Result.andThen, h]
theorem r_makeMap (h : Inv w0 X L S w) {T ty : TypeId} (hk : ∀ b w', Inv w0 X (L ++ [.blk b (.map #[] 0)]) S w' → K (.map (some b)) w') : Run P (sOp (.makeMap T none) ty) w K := by
  refine Run.of (v := .map (some w.heap.size)) (w' := { w with heap := w.heap.push (.map #[] 0) }) ?_ (hk _ _ (h.alloc _))
  simp [sOp, execOp, Instr.makeMap, newObj, Sem.run]
theorem r_lookup (h : Inv w0 X L S w) {T kt et ty : TypeId} {b clock : Nat} {es : Array MapEntry} {n : Int} {z v : Value} {ok : Bool} (i : Nat) (hT : P.underlying T = some (.map kt et)) (hkt : P.underlying kt = some (.int .i64))
    (hz : zeroOf P et = some z) (hi : L[i]? = some (.blk b (.map es clock)))
    (hf : (∃ j, Instr.findNow (.int .i64) (.int .i64 n) es.toList 0 = some (some (j, v)) ∧ ok = true) ∨ (Instr.findNow (.int .i64) (.int .i64 n) es.toList 0 = some none ∧ v = z ∧ ok = false))
    (hk : K (.tuple #[v, .bool ok]) w) : Run P (sOp (.lookup T (.const (.map (some b))) (.const (.int .i64 n)) true) ty) w K := by
  have hb : w.heap[b]? = some (.map es clock) := h.its _ (List.mem_of_getElem? hi)
  have hck : ∀ e, (Instr.checkKey e 10000 kt (.int .i64 n)).run P w = .ok () w := fun e => by
    rw [show (10000 : Nat) = 9999 + 1 from rfl, Instr.checkKey]
    simp [run_underlying hkt]
  obtain ⟨inf, hi1, hi2⟩ : ∃ inf, P.info? et = some inf ∧ inf.zero = some z := by
    unfold zeroOf at hz
    cases hinf : P.info? et with
    | none => rw [hinf] at hz; simp at hz
    | some inf => rw [hinf] at hz; exact ⟨inf, rfl, by simpa using hz⟩
  have hzv : (zeroValue et).run P w = .ok z w := by simp [zeroValue, typeInfo, hi1, hi2]
  refine Run.of ?_ hk
  have hg : (getObj b).run P w = .ok (.map es clock) w := by simp [getObj, Sem.run, hb]
  rcases hf with ⟨j, hf, rfl⟩ | ⟨hf, rfl, rfl⟩
  · have hfk := run_findKeyI (P := P) (w := w) hkt hf
    simp [sOp, execOp, ev0, evE, Instr.lookup, run_underlying hT, hg, hck, hfk]
  · have hfk := run_findKeyI (P := P) (w := w) hkt hf
    simp [sOp, execOp, ev0, evE, Instr.lookup, run_underlying hT, hg, hck, hfk, hzv]
theorem r_mapNew (h : Inv w0 X L S w) {T kt et ty : TypeId} {b clock : Nat} {es : Array MapEntry} {n : Int} {v : Value} (i : Nat) (hT : P.underlying T = some (.map kt et)) (hkt : P.underlying kt = some (.int .i64))
    (hi : L[i]? = some (.blk b (.map es clock))) (hf : Instr.findNow (.int .i64) (.int .i64 n) es.toList 0 = some none)
    (hk : ∀ w', Inv w0 X (L.set i (.blk b (.map (es.push { key := .int .i64 n, val := v, born := clock }) (clock + 1)))) S w' → K undef w') :
    Run P (sOp (.mapUpdate T (.const (.map (some b))) (.const (.int .i64 n)) (.const v)) ty) w K := by
  have hb : w.heap[b]? = some (.map es clock) := h.its _ (List.mem_of_getElem? hi)
  have hck : ∀ e, (Instr.checkKey e 10000 kt (.int .i64 n)).run P w = .ok () w := fun e => by
    rw [show (10000 : Nat) = 9999 + 1 from rfl, Instr.checkKey]
    simp [run_underlying hkt]
  have hg : (getObj b).run P w = .ok (.map es clock) w := by simp [getObj, Sem.run, hb]
  have hfk := run_findKeyI (P := P) (w := w) hkt hf
  refine Run.ofSkip (w' := { w with heap := w.heap.setIfInBounds b (.map (es.push { key := .int .i64 n, val := v, born := clock }) (clock + 1)) }) ?_ (hk _ (h.setBlk hi _ rfl))
  have hst : (setObj b (.map (es.push { key := .int .i64 n, val := v, born := clock }) (clock + 1))).run P w = .ok () { w with heap := w.heap.setIfInBounds b (.map (es.push { key := .int .i64 n, val := v, born := clock }) (clock + 1)) } := by simp [setObj, Sem.run, hb]
  simp [sOp, execOp, ev0, evE, Instr.mapUpdate, run_underlying hT, hg, hck, hfk, hst]
end

end Go.Proofs.Ytnoieadimkgjcaa

/- Marks in rows of predicates; trees lent and taken back. -/
import Derived.Test.YtnoieadimkgjcaaHeld
import Derived.Test.YtnoieadimkgjcaaPredL
namespace Go.Proofs.Ytnoieadimkgjcaa
open Go Go.RowKit

/- a tree of the function's own, handed to readers, and taken back -/
theorem Inv.lendAll {w0 w : World} {X : List Nat} {A : List Item} (M : Heaplet) {S : Store} (h : Inv w0 X (A ++ blks M) S w) :
    ∃ S', Sle S S' ∧ Ins S' M ∧ Inv w0 X A S' w ∧ ∀ B w', Inv w0 X B S' w' → Inv w0 X (B ++ blks M) S w' := by
  obtain ⟨S', h1, h2, h3, h4⟩ := Inv.publishAll M h
  have hnd := h.nd
  rw [feet_append, List.nodup_append] at hnd
  refine ⟨S', h2, h3, h1, fun B w' hB => ⟨hB.size, hB.os, hB.tape, hB.output, hB.old, fun it hit => ?_, ?_, fun b hb => ?_, fun b o hb => ⟨(hB.pub b o (h2 b o hb)).1, fun hb' => ?_⟩⟩⟩
  · rcases List.mem_append.1 hit with hit | hit
    · exact hB.its it hit
    · obtain ⟨p, hp, rfl⟩ := List.mem_map.1 hit
      exact (hB.pub _ _ (h3 p hp)).1
  · rw [feet_append, List.nodup_append]
    refine ⟨hB.nd, hnd.2.1, fun a ha b hb e => ?_⟩
    subst e
    obtain ⟨p, hp, rfl⟩ := mem_feet_blks.1 hb
    exact (hB.pub _ _ (h3 p hp)).2 ha
  · rw [feet_append] at hb
    rcases List.mem_append.1 hb with hb | hb
    · exact hB.new b hb
    · exact h.new b (by rw [feet_append]; exact List.mem_append_right _ hb)
  · rw [feet_append] at hb'
    rcases List.mem_append.1 hb' with hb' | hb'
    · exact (hB.pub b o (h2 b o hb)).2 hb'
    · exact (h.pub b o hb).2 (by rw [feet_append]; exact List.mem_append_right _ hb')
/- a row seen as its block -/
theorem Inv.openRow {w0 w : World} {X : List Nat} {A : List Item} {S : Store} {v : Value} {e : TypeId} {k n : Nat} {xs : List Value} (h : Inv w0 X (A ++ [.row v e k n xs]) S w) :
    xs.length = n * k ∧ ((v = .slice none 0 0 ∧ n = 0) ∨ ∃ g cap cur, v = .slice (some ⟨g, 0, none⟩) n cap ∧ n ≤ cap ∧ cap ≤ maxLen ∧ cur.size = cap * k ∧ cur.toList.take (n * k) = xs ∧ Inv w0 X (A ++ [.blk g (.cells cur e)]) S w) := by
  have hm : w.ownsRow 0 e k v n xs := h.its (.row v e k n xs) (by simp)
  obtain ⟨hl, hm⟩ := hm
  refine ⟨hl, ?_⟩
  rcases hm with hn | ⟨g, cap, cur, rfl, _, hg, hnc, hcm, hcs, ht⟩
  · exact .inl hn
  · have hf : feet (A ++ [Item.blk g (.cells cur e)]) = feet (A ++ [Item.row (.slice (some ⟨g, 0, none⟩) n cap) e k n xs]) := by
      simp [feet, Item.foot, Value.ownBlock]
    refine .inr ⟨g, cap, cur, rfl, hnc, hcm, hcs, ht, h.size, h.os, h.tape, h.output, h.old, fun it hit => ?_, by rw [hf]; exact h.nd, by rw [hf]; exact h.new, by rw [hf]; exact h.pub⟩
    rcases List.mem_append.1 hit with hit | hit
    · exact h.its it (List.mem_append_left _ hit)
    · simp at hit
      subst hit
      exact hg
theorem Inv.closeRow {w0 w : World} {X : List Nat} {A : List Item} {S : Store} {g cap k n : Nat} {cur : Array Value} {e : TypeId} (h : Inv w0 X (A ++ [.blk g (.cells cur e)]) S w) (hn : n ≤ cap) (hc : cap ≤ maxLen) (hs : cur.size = cap * k) :
    Inv w0 X (A ++ [.row (.slice (some ⟨g, 0, none⟩) n cap) e k n (cur.toList.take (n * k))]) S w := by
  have hg : w.heap[g]? = some (.cells cur e) := h.its (.blk g (.cells cur e)) (by simp)
  have hf : feet (A ++ [Item.row (.slice (some ⟨g, 0, none⟩) n cap) e k n (cur.toList.take (n * k))]) = feet (A ++ [Item.blk g (.cells cur e)]) := by
    simp [feet, Item.foot, Value.ownBlock]
  refine ⟨h.size, h.os, h.tape, h.output, h.old, fun it hit => ?_, by rw [hf]; exact h.nd, by rw [hf]; exact h.new, by rw [hf]; exact h.pub⟩
  rcases List.mem_append.1 hit with hit | hit
  · exact h.its it (List.mem_append_left _ hit)
  · simp at hit
    subst hit
    refine ⟨?_, .inr ⟨g, cap, cur, rfl, Nat.zero_le _, hg, hn, hc, hs, rfl⟩⟩
    rw [List.length_take, Array.length_toList, hs]
    exact Nat.min_eq_left (Nat.mul_le_mul_right k hn)

def mkPd : List Pd → Int → List Pd
  | [], _ => []
  | _ :: l, k => ⟨markS k, k + 1⟩ :: mkPd l (k + 2)
theorem mkPd_len : ∀ (l : List Pd) (k : Int), (mkPd l k).length = l.length
  | [], k => rfl
  | x :: l, k => by rw [mkPd]; simp [mkPd_len l]
theorem mkPd_at : ∀ (l : List Pd) (k : Int) (j : Nat) (h : j < (mkPd l k).length), (mkPd l k)[j] = ⟨markS (k + 2 * j), k + 2 * j + 1⟩
  | [], k, j, h => by simp [mkPd] at h
  | x :: l, k, 0, h => by simp [mkPd]
  | x :: l, k, j + 1, h => by
    simp only [mkPd, List.getElem_cons_succ]
    rw [mkPd_at l (k + 2) j (by simpa [mkPd] using h)]
    rw [show k + 2 + 2 * (j : Int) = k + 2 * ((j + 1 : Nat) : Int) by omega]
theorem cells_list {c : Array Value} {l : List Pd} (h : ∀ i (h : i < l.length), cellsAt c (i * 2) 2 = l[i].cells) : c.toList.take (l.length * 2) = pds l := by
  apply List.ext_getElem?
  intro i
  rw [List.getElem?_take]
  split
  · rename_i hi
    have hq : i / 2 < l.length := by omega
    have h1 := h (i / 2) hq
    have h2 := flat_at Pd.cells 2 (fun _ => rfl) l (i / 2) hq
    have e1 : (cellsAt c (i / 2 * 2) 2)[i % 2]? = c.toList[i]? := by
      rw [cellsAt, List.getElem?_take, if_pos (by omega), List.getElem?_drop]
      congr 1
      omega
    have e2 : (l[i / 2].cells)[i % 2]? = (pds l)[i]? := by
      rw [← h2, List.getElem?_take, if_pos (by omega), List.getElem?_drop, pds]
      congr 1
      omega
    rw [← e1, h1, e2]
  · rename_i hi
    have hl : (pds l).length = l.length * 2 := flat_len Pd.cells 2 (fun _ => rfl) l
    rw [List.getElem?_eq_none (by omega)]
section
attribute [local irreducible] Run CondV GuardV LoadV
theorem markPredS_calls {l : List Pd} {S : Store} {v : Value} {k : Int} (hk0 : 0 ≤ k) (hk : k + 2 * l.length ≤ 4611686018427387904) :
    Tri Try.prog n_l_markPredS [v, .int .i64 k] [rowP v l] S fun r I' S' => S' = S ∧ r = .int .i64 (k + 2 * l.length) ∧ I' = [rowP v (mkPd l k)] := by
  intro w hI
  refine calls_l_markPredS ?_
  unfold sh_l_markPredS
  obtain ⟨X, hX⟩ : ∃ X, X = feet [rowP v l] := ⟨_, rfl⟩
  rw [← hX] at hI ⊢
  obtain ⟨hl, ho⟩ := Inv.openRow (A := []) hI
  rcases ho with ⟨rfl, h0⟩ | ⟨g, cap, cur, rfl, hnc, hcm, hcs, ht, hI⟩
  · have : l = [] := List.eq_nil_of_length_eq_zero h0
    subst this
    refine ⟨fun i m w' => i = .int .i64 0 ∧ m = .int .i64 k ∧ Inv w X [rowP (.slice none 0 0) []] S w', fun _ _ _ => 0, ⟨rfl, rfl, hI⟩, ?_⟩
    intro t5 _ _ _ _ _ _ _ _ _ t1 _ _ _ _ _ _ _ _ _ _ _ _ w'
    rintro ⟨rfl, rfl, hI⟩
    refine r_len sl_SiPred ?_
    refine r_lss ?_
    refine condP (fun h => by simp at h) (fun _ => ?_)
    exact ⟨_, _, _, rfl, hI, Ext.refl _ _ _, rfl, by simp, rfl⟩
  · simp only [maxLen] at hcm
    refine ⟨fun i m w' => ∃ (j : Nat) (c' : Array Value), j ≤ l.length ∧ i = .int .i64 j ∧ m = .int .i64 (k + 2 * j) ∧ c'.size = cap * 2 ∧ (∀ i (h : i < (mkPd l k).length), i < j → cellsAt c' (i * 2) 2 = (mkPd l k)[i].cells) ∧ Inv w X [.blk g (.cells c' t_iPred)] S w',
      fun i _ _ => l.length - (intOf i).toNat, ⟨0, cur, Nat.zero_le _, rfl, by simp, hcs, fun i _ h => by omega, hI⟩, ?_⟩
    intro t5 _ _ _ _ _ _ _ _ _ t1 _ _ _ _ _ _ _ _ _ _ _ _ w'
    rintro ⟨j, c', hj, rfl, rfl, hcs', hdn, hI⟩
    refine r_len sl_SiPred ?_
    refine r_lss ?_
    refine condP (fun hji => ?_) (fun hji => ?_)
    · have hj' : j < l.length := by omega
      obtain ⟨c1, hc1⟩ : ∃ c1, c1 = putCells c' (j * 2 + 0) [.string (markS (k + 2 * j))] := ⟨_, rfl⟩
      obtain ⟨c2, hc2⟩ : ∃ c2, c2 = putCells c1 (j * 2 + 1) [.int .i64 (k + 2 * j + 1)] := ⟨_, rfl⟩
      have hs1 : c1.size = c'.size := by rw [hc1]; exact putCells_size _ _ _ (by simp; omega)
      have hs2 : c2.size = c'.size := by rw [hc2]; exact (putCells_size _ _ _ (by simp; omega)).trans hs1
      refine Run.callPure fn_l_markText nm_l_markText hI (markText_calls _ S (by omega)) fun w' hI => ?_
      refine r_indexAddr sl_SiPred hj' ?_
      refine r_field fo_iPred_0 ?_
      rw [Nat.zero_add]
      refine r_store hI 0 (n := 1) rfl (by decide +kernel) rfl (by omega) (by simp [Value.cells, Value.oneCell']) fun w' hI => ?_
      have hI : Inv w X [.blk g (.cells c1 t_iPred)] S w' := by rw [hc1]; exact hI
      refine r_add (by omega) ?_
      refine r_indexAddr sl_SiPred hj' ?_
      refine r_field fo_iPred_1 ?_
      rw [Nat.zero_add]
      refine r_store hI 0 (n := 1) rfl (by decide +kernel) rfl (by omega) (by simp [Value.cells, Value.oneCell']) fun w' hI => ?_
      have hI : Inv w X [.blk g (.cells c2 t_iPred)] S w' := by rw [hc2]; exact hI
      refine r_add (by omega) ?_
      refine r_add (by omega) ?_
      refine ⟨⟨j + 1, c2, hj', rfl, by congr 1; omega, by omega, fun i hi hij => ?_, hI⟩, by simp [intOf]; omega⟩
      by_cases e : i = j
      · subst e
        rw [mkPd_at, hc2, cellsAt_put1 (by omega) (by omega), hc1, cellsAt_put1 (by omega) (by omega)]
        obtain ⟨a, b, hab⟩ : ∃ a b, cellsAt c' (i * 2) 2 = [a, b] := by
          have hl2 : (cellsAt c' (i * 2) 2).length = 2 := by rw [cellsAt, List.length_take, List.length_drop, Array.length_toList]; omega
          match cellsAt c' (i * 2) 2, hl2 with
          | [a, b], _ => exact ⟨a, b, rfl⟩
        rw [hab]
        rfl
      · have : i * 2 + 2 ≤ j * 2 := by omega
        rw [hc2, cellsAt_put_ne (by simp; omega) (by simp; omega), hc1, cellsAt_put_ne (by simp; omega) (by simp; omega)]
        exact hdn i hi (by omega)
    · have : j = l.length := by omega
      subst this
      have hI := Inv.closeRow (A := []) (k := 2) (n := l.length) hI hnc (by simp only [maxLen]; omega) hcs'
      have hml := mkPd_len l k
      have hcl := cells_list (c := c') (l := mkPd l k) (fun i h => hdn i h (by omega))
      rw [hml] at hcl
      rw [hcl] at hI
      refine ⟨_, _, _, rfl, hI, Ext.refl _ _ _, rfl, rfl, ?_⟩
      simp [rowP, hml]
theorem heldPredS_calls {l : List Pd} {S : Store} {v : Value} {k : Int} (h : RdSl S 2 RdPd v (mkPd l k)) (hk0 : 0 ≤ k) (hk : k + 2 * l.length ≤ 4611686018427387904) :
    Pure Try.prog n_l_heldPredS [v, .int .i64 k] S (.int .i64 (k + 2 * l.length)) := by
  intro w hI
  have hlen := h.le
  have hml := mkPd_len l k
  simp only [maxLen] at hlen
  refine calls_l_heldPredS ?_
  unfold sh_l_heldPredS
  refine ⟨fun i m w' => ∃ (j : Nat), j ≤ l.length ∧ i = .int .i64 j ∧ m = .int .i64 (k + 2 * j) ∧ Inv w [] [] S w',
    fun i _ _ => l.length - (intOf i).toNat, ⟨0, Nat.zero_le _, rfl, by simp, hI⟩, ?_⟩
  intro t5 _ _ _ _ _ _ _ _ _ _ _ t1 _ _ _ _ _ _ _ _ _ _ _ _ _ _ _ w'
  rintro ⟨j, hj, rfl, rfl, hI⟩
  refine r_lenSl h sl_SiPred ?_
  refine r_lss ?_
  refine condP (fun hji => ?_) (fun hji => ?_)
  · have hj' : j < l.length := by omega
    have hjm : j < (mkPd l k).length := by omega
    obtain ⟨b, o, cap, c, E, fz, rfl, hS, hR⟩ := h.at_ hjm
    have hcell : cellsAt c (o + j * 2) 2 = [.string (markS (k + 2 * j)), .int .i64 (k + 2 * j + 1)] := by
      rw [mkPd_at] at hR
      exact hR
    refine ⟨fun D x19 x18 x17 x16 x15 x14 x13 x12 w_ => (D 0 = true → x12 = .slice (some ⟨b, o, none⟩) (mkPd l k).length cap) ∧ (D 1 = true → x13 = .int .i64 j) ∧ (D 2 = true → x14 = .pointer (some ⟨b, o + j * 2, none⟩)) ∧ (D 3 = true → x15 = .pointer (some ⟨b, o + j * 2, none⟩)) ∧ (D 4 = true → x16 = .string (markS (k + 2 * j))) ∧ (D 5 = true → x17 = .int .i64 (k + 2 * j)) ∧ (D 6 = true → x18 = .string (markS (k + 2 * j))) ∧ (D 7 = true → x19 = .bool false) ∧ Inv w [] [] S w_, ⟨fun h => Bool.noConfusion h, fun h => Bool.noConfusion h, fun h => Bool.noConfusion h, fun h => Bool.noConfusion h, fun h => Bool.noConfusion h, fun h => Bool.noConfusion h, fun h => Bool.noConfusion h, fun h => Bool.noConfusion h, hI.draw⟩, ⟨?_, ?_, ?_, ?_, ?_, ?_, ?_, ?_, trivial⟩, ?_⟩
    · intro D hD_  x19 x18 x17 x16 x15 x14 x13 x12 w_
      rintro ⟨h0_, h1_, h2_, h3_, h4_, h5_, h6_, h7_, hI⟩
      exact ⟨fun _ => rfl, h1_, h2_, h3_, h4_, h5_, h6_, h7_, hI⟩
    · intro D hD_  x19 x18 x17 x16 x15 x14 x13 x12 w_
      rintro ⟨h0_, h1_, h2_, h3_, h4_, h5_, h6_, h7_, hI⟩
      exact ⟨h0_, fun _ => rfl, h2_, h3_, h4_, h5_, h6_, h7_, hI⟩
    · intro D hD_ d0_0 d1_1 x19 x18 x17 x16 x15 x14 x13 x12 w_
      rintro ⟨h0_, h1_, h2_, h3_, h4_, h5_, h6_, h7_, hI⟩
      obtain rfl := h0_ d0_0
      obtain rfl := h1_ d1_1
      refine r_indexAddr sl_SiPred hjm ?_
      exact ⟨h0_, h1_, fun _ => rfl, h3_, h4_, h5_, h6_, h7_, hI⟩
    · intro D hD_ d2_0 x19 x18 x17 x16 x15 x14 x13 x12 w_
      rintro ⟨h0_, h1_, h2_, h3_, h4_, h5_, h6_, h7_, hI⟩
      obtain rfl := h2_ d2_0
      refine r_field fo_iPred_0 ?_
      exact ⟨h0_, h1_, h2_, fun _ => rfl, h4_, h5_, h6_, h7_, hI⟩
    · intro D hD_ d3_0 x19 x18 x17 x16 x15 x14 x13 x12 w_
      rintro ⟨h0_, h1_, h2_, h3_, h4_, h5_, h6_, h7_, hI⟩
      obtain rfl := h3_ d3_0
      refine r_load sc_string (by rw [hI.cellS hS]; exact cellsAt_get hcell 0 _ rfl) ?_
      exact ⟨h0_, h1_, h2_, h3_, fun _ => rfl, h5_, h6_, h7_, hI⟩
    · intro D hD_  x19 x18 x17 x16 x15 x14 x13 x12 w_
      rintro ⟨h0_, h1_, h2_, h3_, h4_, h5_, h6_, h7_, hI⟩
      exact ⟨h0_, h1_, h2_, h3_, h4_, fun _ => rfl, h6_, h7_, hI⟩
    · intro D hD_ d5_0 x19 x18 x17 x16 x15 x14 x13 x12 w_
      rintro ⟨h0_, h1_, h2_, h3_, h4_, h5_, h6_, h7_, hI⟩
      obtain rfl := h5_ d5_0
      refine Run.callPure fn_l_markText nm_l_markText hI (markText_calls _ S (by omega)) fun w_ hI => ?_
      exact ⟨h0_, h1_, h2_, h3_, h4_, h5_, fun _ => rfl, h7_, hI⟩
    · intro D hD_ d4_0 d6_1 x19 x18 x17 x16 x15 x14 x13 x12 w_
      rintro ⟨h0_, h1_, h2_, h3_, h4_, h5_, h6_, h7_, hI⟩
      obtain rfl := h4_ d4_0
      obtain rfl := h6_ d6_1
      refine r_sneq ?_; rw [decide_eq_true rfl]
      exact ⟨h0_, h1_, h2_, h3_, h4_, h5_, h6_, fun _ => rfl, hI⟩
    intro D d7_ d6_ d5_ d4_ d3_ d2_ d1_ d0_ x19 x18 x17 x16 x15 x14 x13 x12 w_
    rintro ⟨h0_, h1_, h2_, h3_, h4_, h5_, h6_, h7_, hI⟩
    obtain rfl := h7_ d7_
    obtain rfl := h6_ d6_
    obtain rfl := h5_ d5_
    obtain rfl := h4_ d4_
    obtain rfl := h3_ d3_
    obtain rfl := h2_ d2_
    obtain rfl := h1_ d1_
    obtain rfl := h0_ d0_
    clear h0_ h1_ h2_ h3_ h4_ h5_ h6_ h7_
    refine condV (fun hb => by cases hb) (fun _ => ?_)
    refine r_add (by omega) ?_
    refine r_indexAddr sl_SiPred hjm ?_
    refine r_field fo_iPred_1 ?_
    refine r_load sc_int (by rw [hI.cellS hS]; exact cellsAt_get hcell 1 _ rfl) ?_
    refine r_neq ?_
    refine condV (fun hb => by simp at hb) (fun _ => ?_)
    refine r_add (by omega) ?_
    refine r_add (by omega) ?_
    exact ⟨⟨j + 1, hj', rfl, by congr 1; omega, hI⟩, by simp [intOf]; omega⟩
  · have : j = l.length := by omega
    subst this
    exact done hI rfl
theorem eqPred_calls (x : Pd) (S : Store) : Pure Try.prog n_l_eqPred [.agg x.cells.toArray, .agg x.cells.toArray] S (.bool true) := by
  intro w hI
  obtain ⟨xs, xn⟩ := x
  refine calls_l_eqPred ?_
  unfold sh_l_eqPred
  refine r_box hI fun b1 w' hI => ?_
  refine r_box hI fun b2 w' hI => ?_
  refine r_fieldL hI 0 rfl fo_iPred_0 sc_string rfl ?_
  refine r_fieldL hI 1 rfl fo_iPred_0 sc_string rfl ?_
  refine r_sneq ?_
  refine condV (fun hb => by simp at hb) (fun _ => ?_)
  refine r_fieldL hI 0 rfl fo_iPred_1 sc_int rfl ?_
  refine r_fieldL hI 1 rfl fo_iPred_1 sc_int rfl ?_
  refine r_neq ?_
  exact condV (fun hb => by simp at hb) (fun _ => done hI rfl)
theorem eqPredS_calls {l : List Pd} {S : Store} {u v : Value} (h : RdSl S 2 RdPd u l) (h' : RdSl S 2 RdPd v l) : Pure Try.prog n_l_eqPredS [u, v] S (.bool true) := by
  intro w hI
  have hlen := h.le
  simp only [maxLen] at hlen
  refine calls_l_eqPredS ?_
  unfold sh_l_eqPredS
  refine r_lenSl h sl_SiPred ?_
  refine r_lenSl h' sl_SiPred ?_
  refine r_neq ?_
  refine condV (fun hb => by simp at hb) (fun _ => ?_)
  refine ⟨fun i w' => ∃ (j : Nat), j ≤ l.length ∧ i = .int .i64 j ∧ Inv w [] [] S w', fun i _ => l.length - (intOf i).toNat, ⟨0, Nat.zero_le _, rfl, hI⟩, ?_⟩
  intro t5 _ _ _ _ _ _ _ _ _ _ _ _ _ _ _ _ _ w'
  rintro ⟨j, hj, rfl, hI⟩
  refine r_lenSl h sl_SiPred ?_
  refine r_lss ?_
  refine condP (fun hji => ?_) (fun hji => ?_)
  · have hj' : j < l.length := by omega
    obtain ⟨b, o, cap, c, E, fz, rfl, hS, hR⟩ := h.at_ hj'
    obtain ⟨b2, o2, cap2, c2, E2, fz2, rfl, hS2, hR2⟩ := h'.at_ hj'
    have hc1 : cellsAt c (o + j * 2) 2 = l[j].cells := hR
    have hc2 : cellsAt c2 (o2 + j * 2) 2 = l[j].cells := hR2
    refine ⟨fun D x26 x25 x24 x23 x22 x21 x20 x19 x18 x17 w_ => (D 0 = true → x17 = .slice (some ⟨b, o, none⟩) l.length cap) ∧ (D 1 = true → x18 = .int .i64 j) ∧ (D 2 = true → x19 = .pointer (some ⟨b, o + j * 2, none⟩)) ∧ (D 3 = true → x20 = .agg l[j].cells.toArray) ∧ (D 4 = true → x21 = .slice (some ⟨b2, o2, none⟩) l.length cap2) ∧ (D 5 = true → x22 = .int .i64 j) ∧ (D 6 = true → x23 = .pointer (some ⟨b2, o2 + j * 2, none⟩)) ∧ (D 7 = true → x24 = .agg l[j].cells.toArray) ∧ (D 8 = true → x25 = .bool true) ∧ (D 9 = true → x26 = .bool false) ∧ Inv w [] [] S w_, ⟨fun h => Bool.noConfusion h, fun h => Bool.noConfusion h, fun h => Bool.noConfusion h, fun h => Bool.noConfusion h, fun h => Bool.noConfusion h, fun h => Bool.noConfusion h, fun h => Bool.noConfusion h, fun h => Bool.noConfusion h, fun h => Bool.noConfusion h, fun h => Bool.noConfusion h, hI.draw⟩, ⟨?_, ?_, ?_, ?_, ?_, ?_, ?_, ?_, ?_, ?_, trivial⟩, ?_⟩
    · intro D hD_  x26 x25 x24 x23 x22 x21 x20 x19 x18 x17 w_
      rintro ⟨h0_, h1_, h2_, h3_, h4_, h5_, h6_, h7_, h8_, h9_, hI⟩
      exact ⟨fun _ => rfl, h1_, h2_, h3_, h4_, h5_, h6_, h7_, h8_, h9_, hI⟩
    · intro D hD_  x26 x25 x24 x23 x22 x21 x20 x19 x18 x17 w_
      rintro ⟨h0_, h1_, h2_, h3_, h4_, h5_, h6_, h7_, h8_, h9_, hI⟩
      exact ⟨h0_, fun _ => rfl, h2_, h3_, h4_, h5_, h6_, h7_, h8_, h9_, hI⟩
    · intro D hD_ d0_0 d1_1 x26 x25 x24 x23 x22 x21 x20 x19 x18 x17 w_
      rintro ⟨h0_, h1_, h2_, h3_, h4_, h5_, h6_, h7_, h8_, h9_, hI⟩
      obtain rfl := h0_ d0_0
      obtain rfl := h1_ d1_1
      refine r_indexAddr sl_SiPred hj' ?_
      exact ⟨h0_, h1_, fun _ => rfl, h3_, h4_, h5_, h6_, h7_, h8_, h9_, hI⟩
    · intro D hD_ d2_0 x26 x25 x24 x23 x22 x21 x20 x19 x18 x17 w_
      rintro ⟨h0_, h1_, h2_, h3_, h4_, h5_, h6_, h7_, h8_, h9_, hI⟩
      obtain rfl := h2_ d2_0
      refine r_loadA (cs := l[j].cells) ag_iPred rfl (fun i v hi => by rw [hI.cellS hS]; exact cellsAt_get hc1 i v hi) ?_
      exact ⟨h0_, h1_, h2_, fun _ => rfl, h4_, h5_, h6_, h7_, h8_, h9_, hI⟩
    · intro D hD_  x26 x25 x24 x23 x22 x21 x20 x19 x18 x17 w_
      rintro ⟨h0_, h1_, h2_, h3_, h4_, h5_, h6_, h7_, h8_, h9_, hI⟩
      exact ⟨h0_, h1_, h2_, h3_, fun _ => rfl, h5_, h6_, h7_, h8_, h9_, hI⟩
    · intro D hD_  x26 x25 x24 x23 x22 x21 x20 x19 x18 x17 w_
      rintro ⟨h0_, h1_, h2_, h3_, h4_, h5_, h6_, h7_, h8_, h9_, hI⟩
      exact ⟨h0_, h1_, h2_, h3_, h4_, fun _ => rfl, h6_, h7_, h8_, h9_, hI⟩
    · intro D hD_ d4_0 d5_1 x26 x25 x24 x23 x22 x21 x20 x19 x18 x17 w_
      rintro ⟨h0_, h1_, h2_, h3_, h4_, h5_, h6_, h7_, h8_, h9_, hI⟩
      obtain rfl := h4_ d4_0
      obtain rfl := h5_ d5_1
      refine r_indexAddr sl_SiPred hj' ?_
      exact ⟨h0_, h1_, h2_, h3_, h4_, h5_, fun _ => rfl, h7_, h8_, h9_, hI⟩
    · intro D hD_ d6_0 x26 x25 x24 x23 x22 x21 x20 x19 x18 x17 w_
      rintro ⟨h0_, h1_, h2_, h3_, h4_, h5_, h6_, h7_, h8_, h9_, hI⟩
      obtain rfl := h6_ d6_0
      refine r_loadA (cs := l[j].cells) ag_iPred rfl (fun i v hi => by rw [hI.cellS hS2]; exact cellsAt_get hc2 i v hi) ?_
      exact ⟨h0_, h1_, h2_, h3_, h4_, h5_, h6_, fun _ => rfl, h8_, h9_, hI⟩
    · intro D hD_ d3_0 d7_1 x26 x25 x24 x23 x22 x21 x20 x19 x18 x17 w_
      rintro ⟨h0_, h1_, h2_, h3_, h4_, h5_, h6_, h7_, h8_, h9_, hI⟩
      obtain rfl := h3_ d3_0
      obtain rfl := h7_ d7_1
      refine Run.callPure fn_l_eqPred nm_l_eqPred hI (eqPred_calls _ S) fun w_ hI => ?_
      exact ⟨h0_, h1_, h2_, h3_, h4_, h5_, h6_, h7_, fun _ => rfl, h9_, hI⟩
    · intro D hD_ d8_0 x26 x25 x24 x23 x22 x21 x20 x19 x18 x17 w_
      rintro ⟨h0_, h1_, h2_, h3_, h4_, h5_, h6_, h7_, h8_, h9_, hI⟩
      obtain rfl := h8_ d8_0
      refine r_not ?_
      exact ⟨h0_, h1_, h2_, h3_, h4_, h5_, h6_, h7_, h8_, fun _ => rfl, hI⟩
    intro D d9_ d8_ d7_ d6_ d5_ d4_ d3_ d2_ d1_ d0_ x26 x25 x24 x23 x22 x21 x20 x19 x18 x17 w_
    rintro ⟨h0_, h1_, h2_, h3_, h4_, h5_, h6_, h7_, h8_, h9_, hI⟩
    obtain rfl := h9_ d9_
    obtain rfl := h8_ d8_
    obtain rfl := h7_ d7_
    obtain rfl := h6_ d6_
    obtain rfl := h5_ d5_
    obtain rfl := h4_ d4_
    obtain rfl := h3_ d3_
    obtain rfl := h2_ d2_
    obtain rfl := h1_ d1_
    obtain rfl := h0_ d0_
    clear h0_ h1_ h2_ h3_ h4_ h5_ h6_ h7_ h8_ h9_
    refine condV (fun hb => by cases hb) (fun _ => ?_)
    refine r_add (by omega) ?_
    exact ⟨⟨j + 1, hj', rfl, hI⟩, by simp [intOf]; omega⟩
  · exact done hI rfl
end

end Go.Proofs.Ytnoieadimkgjcaa

/- DropClause: both sides. -/
import Derived.Test.YtnoieadimkgjcaaDel
import Derived.Test.YtnoieadimkgjcaaGoals
namespace Go.Proofs.Ytnoieadimkgjcaa
open Go Go.RowKit
attribute [local irreducible] Run CondV GuardV LoadV

theorem Delete_calls {ys : List C} {S : Store} {L : Heaplet} {v : Value} {i : Nat} (hT : TrSl 5 TrC L v ys) (hi : i < ys.length) (hlen : ys.length ≤ 4000000000) :
    Tri Try.prog n_x_Delete_Clause [v, .int .i64 i, .int .i64 ((i : Int) + 1)] (blks L) S fun r I' S' => S' = S ∧ ∃ L', I' = blks L' ∧ TrSl 5 TrC L' r (ys.eraseIdx i) := by
  intro w hI
  obtain ⟨a, cap, rfl, hl, hc, hT⟩ := hT
  rcases hT with ⟨rfl, _⟩ | ⟨b, c, E, Ls, rfl, rfl, hLs, hsz, hT⟩
  · simp at hi
  obtain ⟨X, hX⟩ : ∃ X, X = feet (blks ((b, .cells c E) :: Ls.flatten)) := ⟨_, rfl⟩
  rw [← hX] at hI ⊢
  obtain ⟨n, hn⟩ : ∃ n, ys.length = n + 1 := ⟨ys.length - 1, by omega⟩
  have ei : ((i : Int) + 1) = ((i + 1 : Nat) : Int) := by omega
  rw [ei]
  refine calls_x_Delete_Clause ?_
  unfold sh_x_Delete_Clause
  refine r_len sl_SiClause ?_
  refine r_slMax (m := ys.length) sl_SiClause (Nat.le_succ i) (by omega) hl ?_
  refine r_eql ?_
  rw [decide_eq_false (by omega)]
  refine condV (fun hb => by cases hb) (fun _ => ?_)
  refine r_len sl_SiClause ?_
  obtain ⟨news, hnews⟩ : ∃ news, news = (c.toList.drop ((i + 1) * 5)).take ((n - i) * 5) := ⟨_, rfl⟩
  have hcsz : (n + 1) * 5 ≤ c.size := by omega
  have hnl : news.length = (n - i) * 5 := by
    rw [hnews, List.length_take, List.length_drop, Array.length_toList]
    omega
  have hnu : ∀ j u, news[j]? = some u → c[(i + 1) * 5 + j]? = some u := by
    intro j u hj
    rw [hnews, List.getElem?_take] at hj
    split at hj
    · rw [List.getElem?_drop] at hj
      rw [← Array.getElem?_toList]
      exact hj
    · cases hj
  have hone : ∀ u ∈ news, u.oneCell' = true := by
    intro u hu
    obtain ⟨j, hj, rfl⟩ := List.mem_iff_getElem.1 hu
    have hj5 : j / 5 + (i + 1) < ys.length := by omega
    have hc1 := (hT (j / 5 + (i + 1)) hj5 (by omega)).one
    refine hc1 _ ?_
    have hg := hnu j _ (List.getElem?_eq_getElem hj)
    have : (cellsAt c ((j / 5 + (i + 1)) * 5) 5)[j % 5]? = some news[j] := by
      rw [cellsAt, List.getElem?_take, if_pos (by omega), List.getElem?_drop, Array.getElem?_toList, ← hg]
      congr 1
      omega
    exact List.mem_of_getElem? this
  obtain ⟨c1, hc1⟩ : ∃ c1, c1 = putCells c (i * 5) news := ⟨_, rfl⟩
  have hs1 : c1.size = c.size := by rw [hc1]; exact putCells_size _ _ _ (by omega)
  have e0 : (if cap = 0 then some (⟨b, 0, none⟩ : Addr) else (some (⟨b, 0, none⟩ : Addr)).map (·.add (0 * 5))) = some ⟨b, 0, none⟩ := by
    rw [if_neg (by omega)]; rfl
  refine ⟨fun D x0 x26 x25 x24 x23 x22 x21 x20 w_ => (D 0 = true → x20 = .slice (some ⟨b, 0, none⟩) ys.length cap) ∧ (D 1 = true → x21 = .int .i64 i) ∧ (D 2 = true → x22 = .slice (some ⟨b, 0, none⟩) i cap) ∧ (D 3 = true → x23 = .slice (some ⟨b, 0, none⟩) ys.length cap) ∧ (D 4 = true → x24 = .int .i64 ((i + 1 : Nat) : Int)) ∧ (D 5 = true → x25 = .slice (some (if cap = i + 1 then ⟨b, 0, none⟩ else ⟨b, (i + 1) * 5, none⟩)) (n - i) (cap - (i + 1))) ∧ (D 6 = true → True) ∧ (D 7 = true → True) ∧ (D 7 = false → x0 = .slice (some ⟨b, 0, none⟩) ys.length cap) ∧ (D 7 = true → x0 = .slice (some ⟨b, 0, none⟩) n cap) ∧ (D 7 = true → D 0 = true ∧ D 3 = true ∧ D 6 = true) ∧ (D 6 = true → x26 = .slice (some ⟨b, 0, none⟩) n cap) ∧ Inv w X (.blk b (.cells (match D 6 with | true => c1 | false => c) E) :: blks Ls.flatten) S w_, ⟨fun h => Bool.noConfusion h, fun h => Bool.noConfusion h, fun h => Bool.noConfusion h, fun h => Bool.noConfusion h, fun h => Bool.noConfusion h, fun h => Bool.noConfusion h, fun h => Bool.noConfusion h, fun h => Bool.noConfusion h, ⟨fun _ => rfl, fun h => Bool.noConfusion h, fun h => Bool.noConfusion h, fun h => Bool.noConfusion h, hI.draw⟩⟩, ⟨?_, ?_, ?_, ?_, ?_, ?_, ?_, ?_, trivial⟩, ?_⟩
  · intro D hD_  x0 x26 x25 x24 x23 x22 x21 x20 w_
    rintro ⟨h0_, h1_, h2_, h3_, h4_, h5_, h6_, h7_, ⟨e0', e7, k7, e6, hI⟩⟩
    have f7 : D 7 = false := Bool.eq_false_iff.2 fun h => by rw [(k7 h).1] at hD_; cases hD_
    have q0 := e0' f7
    subst q0
    have k7 : setD D 0 7 = true → setD D 0 0 = true ∧ setD D 0 3 = true ∧ setD D 0 6 = true := fun h => absurd h (by rw [show setD D 0 7 = D 7 from rfl, f7]; decide)
    exact ⟨fun _ => by first | assumption | trivial, h1_, h2_, h3_, h4_, h5_, h6_, h7_, ⟨e0', e7, k7, e6, hI⟩⟩
  · intro D hD_  x0 x26 x25 x24 x23 x22 x21 x20 w_
    rintro ⟨h0_, h1_, h2_, h3_, h4_, h5_, h6_, h7_, ⟨e0', e7, k7, e6, hI⟩⟩
    exact ⟨h0_, fun _ => rfl, h2_, h3_, h4_, h5_, h6_, h7_, ⟨e0', e7, k7, e6, hI⟩⟩
  · intro D hD_ d0_0 d1_1 x0 x26 x25 x24 x23 x22 x21 x20 w_
    rintro ⟨h0_, h1_, h2_, h3_, h4_, h5_, h6_, h7_, ⟨e0', e7, k7, e6, hI⟩⟩
    have g0_ := h0_ d0_0
    obtain rfl := h1_ d1_1
    subst g0_
    refine r_slTo sl_SiClause (by omega) ?_
    rw [e0]
    exact ⟨h0_, h1_, fun _ => by first | assumption | trivial, h3_, h4_, h5_, h6_, h7_, ⟨e0', e7, k7, e6, hI⟩⟩
  · intro D hD_  x0 x26 x25 x24 x23 x22 x21 x20 w_
    rintro ⟨h0_, h1_, h2_, h3_, h4_, h5_, h6_, h7_, ⟨e0', e7, k7, e6, hI⟩⟩
    have f7 : D 7 = false := Bool.eq_false_iff.2 fun h => by rw [(k7 h).2.1] at hD_; cases hD_
    have q0 := e0' f7
    subst q0
    have k7 : setD D 3 7 = true → setD D 3 0 = true ∧ setD D 3 3 = true ∧ setD D 3 6 = true := fun h => absurd h (by rw [show setD D 3 7 = D 7 from rfl, f7]; decide)
    exact ⟨h0_, h1_, h2_, fun _ => by first | assumption | trivial, h4_, h5_, h6_, h7_, ⟨e0', e7, k7, e6, hI⟩⟩
  · intro D hD_  x0 x26 x25 x24 x23 x22 x21 x20 w_
    rintro ⟨h0_, h1_, h2_, h3_, h4_, h5_, h6_, h7_, ⟨e0', e7, k7, e6, hI⟩⟩
    exact ⟨h0_, h1_, h2_, h3_, fun _ => rfl, h5_, h6_, h7_, ⟨e0', e7, k7, e6, hI⟩⟩
  · intro D hD_ d3_0 d4_1 x0 x26 x25 x24 x23 x22 x21 x20 w_
    rintro ⟨h0_, h1_, h2_, h3_, h4_, h5_, h6_, h7_, ⟨e0', e7, k7, e6, hI⟩⟩
    have g3_ := h3_ d3_0
    obtain rfl := h4_ d4_1
    subst g3_
    refine r_slFrom sl_SiClause (by omega) ?_
    have ea : (if cap = i + 1 then some (⟨b, 0, none⟩ : Addr) else (some (⟨b, 0, none⟩ : Addr)).map (·.add ((i + 1) * 5))) = some (if cap = i + 1 then ⟨b, 0, none⟩ else ⟨b, (i + 1) * 5, none⟩) := by
      split <;> simp [Addr.add]
    have em : ys.length - (i + 1) = n - i := by omega
    rw [ea, em]
    exact ⟨h0_, h1_, h2_, h3_, h4_, fun _ => by first | assumption | trivial, h6_, h7_, ⟨e0', e7, k7, e6, hI⟩⟩
  · intro D hD_ d2_0 d5_1 x0 x26 x25 x24 x23 x22 x21 x20 w_
    rintro ⟨h0_, h1_, h2_, h3_, h4_, h5_, h6_, h7_, ⟨e0', e7, k7, e6, hI⟩⟩
    have g2_ := h2_ d2_0
    have g5_ := h5_ d5_1
    subst g2_ g5_
    have f7 : D 7 = false := Bool.eq_false_iff.2 fun h => by rw [(k7 h).2.2] at hD_; cases hD_
    rw [hD_] at hI
    refine r_appendIn (o := (i + 1) * 5) hI 0 news (by by_cases hq : cap = i + 1; right; omega; left; rw [if_neg hq]) mk_SiClause rfl hnl hnu hone (by omega) (by show i * 5 + news.length ≤ c.size; omega) fun w_ hI => ?_
    have ei2 : i + (n - i) = n := by omega
    rw [ei2]
    have e6 : setD D 6 6 = true → Value.slice (some ⟨b, 0, none⟩) n cap = .slice (some ⟨b, 0, none⟩) n cap := fun _ => rfl
    have k7 : setD D 6 7 = true → setD D 6 0 = true ∧ setD D 6 3 = true ∧ setD D 6 6 = true := fun h => absurd h (by rw [show setD D 6 7 = D 7 from rfl, f7]; decide)
    have hI : Inv w X (.blk b (.cells (match setD D 6 6 with | true => c1 | false => c) E) :: blks Ls.flatten) S w_ := by
      show Inv w X (.blk b (.cells c1 E) :: blks Ls.flatten) S w_
      rw [hc1]
      exact hI
    exact ⟨h0_, h1_, h2_, h3_, h4_, h5_, fun _ => by first | assumption | trivial, h7_, ⟨e0', e7, k7, e6, hI⟩⟩
  · intro D hD_ d6_0 d6_1 d0_2 d1_3 d2_4 d3_5 d4_6 d5_7 d6_8 x0 x26 x25 x24 x23 x22 x21 x20 w_
    rintro ⟨h0_, h1_, h2_, h3_, h4_, h5_, h6_, h7_, ⟨e0', e7, k7, e6, hI⟩⟩
    have g6_ := h6_ d6_0
    have q6 := e6 d6_0
    subst q6
    have e0' : setD D 7 7 = false → Value.slice (some ⟨b, 0, none⟩) n cap = .slice (some ⟨b, 0, none⟩) ys.length cap := fun h => Bool.noConfusion h
    have e7 : setD D 7 7 = true → Value.slice (some ⟨b, 0, none⟩) n cap = .slice (some ⟨b, 0, none⟩) n cap := fun _ => rfl
    have k7 : setD D 7 7 = true → setD D 7 0 = true ∧ setD D 7 3 = true ∧ setD D 7 6 = true := fun _ => ⟨d0_2, d3_5, d6_0⟩
    exact ⟨h0_, h1_, h2_, h3_, h4_, h5_, h6_, fun _ => by first | assumption | trivial, ⟨e0', e7, k7, e6, hI⟩⟩
  intro D d7_ d6_ d5_ d4_ d3_ d2_ d1_ d0_ x0 x26 x25 x24 x23 x22 x21 x20 w_
  rintro ⟨h0_, h1_, h2_, h3_, h4_, h5_, h6_, h7_, ⟨e0', e7, k7, e6, hI⟩⟩
  have g7_ := h7_ d7_
  have g6_ := h6_ d6_
  have g5_ := h5_ d5_
  obtain rfl := h4_ d4_
  have g3_ := h3_ d3_
  have g2_ := h2_ d2_
  obtain rfl := h1_ d1_
  have g0_ := h0_ d0_
  clear h0_ h1_ h2_ h3_ h4_ h5_ h6_ h7_
  have q7 := e7 d7_
  subst q7
  rw [d6_] at hI
  have hI : Inv w X (.blk b (.cells c1 E) :: blks Ls.flatten) S w_ := hI
  refine r_len sl_SiClause ?_
  rw [hn]
  refine r_slMid sl_SiClause (Nat.le_succ n) (by omega) ?_
  rw [if_neg (by omega)]
  have hz5 : (Builtin.zeroCells (Value.agg #[.int .i64 0, .int .i64 0, .string ⟨#[]⟩, .slice none 0 0, .slice none 0 0]).cells 1).toList = [.int .i64 0, .int .i64 0, .string ⟨#[]⟩, .slice none 0 0, .slice none 0 0] := by kernel_rfl
  have en : n + 1 - n = 1 := by omega
  rw [en]
  have ead : (some (⟨b, 0, none⟩ : Addr)).map (·.add (n * 5)) = some ⟨b, n * 5, none⟩ := by rw [Option.map_some, add_lit, Nat.zero_add]
  rw [ead]
  refine r_clear (n := 1) (o := n * 5) hI 0 mk_SiClause rfl (by omega) (by omega) (by rw [hz5]; simp [Value.oneCell']) fun w' hI => ?_
  rw [hz5] at hI
  obtain ⟨c2, hc2⟩ : ∃ c2, c2 = putCells c1 (n * 5) [.int .i64 0, .int .i64 0, .string ⟨#[]⟩, .slice none 0 0, .slice none 0 0] := ⟨_, rfl⟩
  have hs2 : c2.size = c.size := by rw [hc2]; exact (putCells_size _ _ _ (by simp only [List.length_cons, List.length_nil]; omega)).trans hs1
  have hI : Inv w X (blks ((b, .cells c2 E) :: (Ls.eraseIdx i).flatten)) S w' := by
    have h1 : Inv w X (blks ((b, .cells c2 E) :: Ls.flatten)) S w' := by rw [hc2]; exact hI
    refine h1.sub ?_
    exact ((sub_flatten (List.eraseIdx_sublist Ls i)).map _).cons_cons _
  have hel : (ys.eraseIdx i).length = n := by rw [List.length_eraseIdx, if_pos hi]; omega
  have hLl : (Ls.eraseIdx i).length = n := by rw [List.length_eraseIdx, if_pos (by omega)]; omega
  refine ⟨_, _, _, rfl, hI, Ext.refl _ _ _, rfl, _, rfl, _, cap, by rw [hel], by omega, hc, .inr ⟨b, c2, E, Ls.eraseIdx i, rfl, rfl, by omega, by omega, fun j h1 h2 => ?_⟩⟩
  have hjn : j < n := by omega
  have hcell : cellsAt c2 (j * 5) 5 = cellsAt c1 (j * 5) 5 := by
    rw [hc2, cellsAt_put_ne (by simp; omega) (by simp; omega)]
  rw [hcell, List.getElem_eraseIdx, List.getElem_eraseIdx]
  by_cases hji : j < i
  · have hcell2 : cellsAt c1 (j * 5) 5 = cellsAt c (j * 5) 5 := by
      rw [hc1, cellsAt_put_ne (by omega) (by omega)]
    rw [dif_pos hji, dif_pos hji, hcell2]
    exact hT j (by omega) (by omega)
  · rw [dif_neg hji, dif_neg hji]
    have hcell2 : cellsAt c1 (j * 5) 5 = cellsAt c ((j + 1) * 5) 5 := by
      have e1 : j * 5 = i * 5 + (j - i) * 5 := by omega
      rw [hc1, e1, cellsAt_put_in (by omega) (by omega), hnews, List.drop_take, List.take_take, List.drop_drop, cellsAt]
      have e2 : min 5 ((n - i) * 5 - (j - i) * 5) = 5 := by omega
      have e3 : (i + 1) * 5 + (j - i) * 5 = (j + 1) * 5 := by omega
      rw [e2, e3]
    rw [hcell2]
    exact hT (j + 1) (by omega) (by omega)

end Go.Proofs.Ytnoieadimkgjcaa

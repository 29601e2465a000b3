/- SliceProgram: both sides. -/
import Derived.Test.YtnoieadimkgjcaaMove
namespace Go.Proofs.Ytnoieadimkgjcaa
open Go Go.RowKit
attribute [local irreducible] Run CondV GuardV LoadV

def inP (l : List Pd) (c : C) : Bool := hasP l (predT c.head)
def slicePs (p : List C) (q : List T) : List C := if (progB p && queryB q) = true then p.filter (inP (reachP p (goalsP [] q))) else []
theorem filter_w (f : C → Bool) (p : List C) : (p.filter f).length + wP (p.filter f) ≤ p.length + wP p := by
  have := wP_filter f p
  omega
theorem s_SliceProgram_calls {p : List C} {q : List T} {S : Store} {v u : Value} (h : RdSl S 5 (RdC S) v p) (hq : RdSl S 4 (RdT S) u q) (hw : p.length + wP p ≤ 1048576) (hw2 : q.length + wL q ≤ 1048576) :
    Tri Try.prog n_s_SliceProgram [v, u] [] S (PostCB S (slicePs p q) (progB p && queryB q)) := by
  intro w hI
  have hgl := goalsP_len q []
  refine calls_s_SliceProgram ?_
  unfold sh_s_SliceProgram
  refine ⟨fun t w' => t = .bool (!(progB p && queryB q)) ∧ Inv w [] [] S w', ?_, ?_⟩
  · refine Run.callPure fn_s_ProgramValid nm_s_ProgramValid hI (s_ProgramValid_calls h (by omega)) fun w' hI => ?_
    refine r_not ?_
    cases hv : progB p
    · repeat (first | refine guard_true ?_ | refine guard_ne (by decide) ?_ | refine guard_undef ?_ | refine r_pickT ?_ | refine r_pickF ?_)
      exact ⟨rfl, hI⟩
    · repeat (first | refine guard_true ?_ | refine guard_ne (by decide) ?_ | refine guard_undef ?_ | refine r_pickT ?_ | refine r_pickF ?_)
      refine Run.callPure fn_s_QueryValid nm_s_QueryValid hI (s_QueryValid_calls hq (by omega)) fun w' hI => ?_
      refine r_not ?_
      repeat (first | refine guard_true ?_ | refine guard_ne (by decide) ?_ | refine guard_undef ?_ | refine r_pickT ?_ | refine r_pickF ?_)
      exact ⟨rfl, hI⟩
  intro t _ _ _ _ _ _ _ w'
  rintro ⟨rfl, hI⟩
  rw [slicePs]
  generalize (progB p && queryB q) = ok
  cases ok
  · refine condV (fun _ => ?_) (fun hb => by cases hb)
    refine r_slice0 hI mk_SiClause fun v0 w' hI => ?_
    rw [if_neg (by decide)]
    have hI : Inv w [] ([] ++ (rowG v0 t_iClause 5 [] :: blks ([] : List Heaplet).flatten)) S w' := hI
    obtain ⟨L, hT, hI⟩ := Inv.rowTree (R := TrC) hI (Grown.nil 5 TrC)
    exact ⟨_, _, _, rfl, hI, Ext.refl _ _ _, rfl, _, L, rfl, rfl, hT⟩
  refine condV (fun hb => by cases hb) (fun _ => ?_)
  rw [if_pos rfl]
  refine r_slice0 hI mk_SiPred fun v0 w' hI => ?_
  refine Run.call (A := []) fn_s_l14Goals nm_s_l14Goals hI (s_l14Goals_calls [] hq (by simp; omega)) fun v' I' S2 w' => ?_
  rintro ⟨rfl, rfl⟩ _ hI
  refine Run.call (A := []) fn_s_l14Reach nm_s_l14Reach hI (s_l14Reach_calls (goalsP [] q) h (by omega) (by omega) (by simp at hgl; omega)) fun t22 I' S' w' => ?_
  rintro ⟨rfl, rfl⟩ _ hI
  generalize reachP p (goalsP [] q) = l at hI
  have hfw := filter_w (inP l) p
  have hI : Inv w [] ([] ++ [rowP t22 l]) S' w' := hI
  obtain ⟨S1, hle, hrd, hI, _⟩ := hI.lend
  have hrl := hrd.preds
  have h1 := h.monoC hle
  refine r_slice0 hI mk_SiClause fun v1 w' hI => ?_
  refine ⟨fun i t w' => ∃ (k : Nat) (c1 : List (List Value)) (l1 : List C), k ≤ p.length ∧ i = .int .i64 k ∧ Rows 5 (RdC S1) c1 l1 ∧ l1 ++ (p.drop k).filter (inP l) = p.filter (inP l) ∧
      Inv w [] [rowG t t_iClause 5 c1] S1 w', fun i _ _ => p.length - (intOf i).toNat, ⟨0, [], [], Nat.zero_le _, rfl, Rows.nil _ _, rfl, hI⟩, ?_⟩
  intro t8 _ _ t7 _ _ _ _ _ _ _ _ _ _ _ _ _ _ _ _ _ _ _ w'
  rintro ⟨k, c1, l1, hk, rfl, hR1, hr1, hI⟩
  have hl1 : l1.length ≤ p.length := by
    have h1 := congrArg List.length hr1
    have h2 := List.length_filter_le (inP l) p
    simp only [List.length_append] at h1
    omega
  have hcl1 := hR1.hc
  refine r_lenSl h1 sl_SiClause ?_
  refine r_lss ?_
  refine condP (fun hki => ?_) (fun hki => ?_)
  · have hk' : k < p.length := by omega
    rw [← filter_snoc _ p k hk' l1] at hr1
    refine ⟨fun t w' => ∃ c1', Rows 5 (RdC S1) c1' (if inP l p[k] = true then l1 ++ [p[k]] else l1) ∧ Inv w [] [rowG t t_iClause 5 c1'] S1 w', ?_, ?_⟩
    · have h0 := h1
      obtain ⟨b, o, cap, c, E, fz, rfl, hS, hR⟩ := h1.at_ hk'
      obtain ⟨hd, ks2, hcs, g1, g2⟩ := hR
      obtain ⟨kv, rfl, _, _, hs1, hk1⟩ := RdT.iff.1 g1
      refine r_indexAddr sl_SiClause hk' ?_
      refine r_field fo_iClause_0 ?_
      rw [Nat.add_zero]
      refine r_loadA (cs := [.int .i64 p[k].head.kind, .int .i64 p[k].head.n, .string p[k].head.name, kv]) ag_iTerm rfl (fun j v hj => by rw [hI.cellS hS]; exact cellsAt_get hcs j v (by match j, hj with | 0, hj => exact hj | 1, hj => exact hj | 2, hj => exact hj | 3, hj => exact hj | j + 4, hj => simp at hj)) ?_
      refine Run.callPure fn_s_l14Of nm_s_l14Of hI (s_l14Of_calls g1) fun w' hI => ?_
      refine Run.callPure fn_s_l14Has nm_s_l14Has hI (l14Has_calls (predT p[k].head) hrl) fun w' hI => ?_
      refine condV (fun hb => ?_) (fun hb => ?_)
      · refine r_elem hI h0 sl_SiClause ag_iClause hk' (fun _ _ => RdC.length) fun cs hcs => ?_
        refine r_append1 hI 0 cs mk_SiClause (by omega) (by omega) rfl hcs.length hcs.one (by omega) (by omega) fun v' w' hI => ?_
        refine ⟨c1 ++ [cs], ?_, hI⟩
        rw [if_pos (show inP l p[k] = true from hb)]; exact hR1.snoc hcs hcs.length
      · refine ⟨c1, ?_, hI⟩
        rw [if_neg (by rw [inP, hb]; decide)]; exact hR1
    · intro t _ _ _ _ _ _ _ _ _ _ _ _ _ _ _ w'
      rintro ⟨c1', hR1, hI⟩
      refine r_add (by omega) ?_
      exact ⟨⟨k + 1, c1', _, hk', rfl, hR1, hr1, hI⟩, by simp [intOf]; omega⟩
  · have : k = p.length := by omega
    subst this
    rw [List.drop_length, List.filter_nil, List.append_nil] at hr1
    have hI : Inv w [] ([] ++ [rowG t7 t_iClause 5 c1]) S1 w' := hI
    obtain ⟨S3, hle3, hrd3, hI, _⟩ := hI.lend
    rw [hr1] at hR1
    have hrr : RdSl S3 5 (RdC S3) t7 (p.filter (inP l)) := (RowRd.rows hR1 hrd3).mono (Sle.refl _) fun _ _ h => h.mono hle3
    refine Run.call0 fn_s_l14Copy nm_s_l14Copy hI (l14Copy_calls hrr (by omega)) fun v3 I' S' w' => ?_
    rintro ⟨rfl, L, rfl, hT⟩ _ hI
    exact ⟨_, _, _, rfl, hI.less (hle.trans hle3), Ext.refl _ _ _, rfl, _, L, rfl, rfl, hT⟩
theorem reachOf_if (p : List C) (q : List T) (h : (progB p && queryB q) = true) : reachOf p q = reachP p (goalsP [] q) := by rw [reachOf, if_pos h]
theorem i_SliceProgram_calls {p : List C} {q : List T} {S : Store} {v u : Value} (h : RdSl S 5 (RdC S) v p) (hq : RdSl S 4 (RdT S) u q) (hw : p.length + wP p ≤ 1048576) (hw2 : q.length + wL q ≤ 1048576) :
    Tri Try.prog n_i_SliceProgram [v, u] [] S (PostCB S (slicePs p q) (progB p && queryB q)) := by
  intro w hI
  have hro := reachOf_if p q
  refine calls_i_SliceProgram ?_
  unfold sh_i_SliceProgram
  refine ⟨fun t w' => t = .bool (!(progB p && queryB q)) ∧ Inv w [] [] S w', ?_, ?_⟩
  · refine Run.callPure fn_i_ProgramValid nm_i_ProgramValid hI (iProgramValid_calls h) fun w' hI => ?_
    refine r_not ?_
    cases hv : progB p
    · repeat (first | refine guard_true ?_ | refine guard_ne (by decide) ?_ | refine guard_undef ?_ | refine r_pickT ?_ | refine r_pickF ?_)
      exact ⟨rfl, hI⟩
    · repeat (first | refine guard_true ?_ | refine guard_ne (by decide) ?_ | refine guard_undef ?_ | refine r_pickT ?_ | refine r_pickF ?_)
      refine Run.callPure fn_i_QueryValid nm_i_QueryValid hI (iQueryValid_calls hq) fun w' hI => ?_
      refine r_not ?_
      repeat (first | refine guard_true ?_ | refine guard_ne (by decide) ?_ | refine guard_undef ?_ | refine r_pickT ?_ | refine r_pickF ?_)
      exact ⟨rfl, hI⟩
  intro t _ _ _ _ _ _ _ w'
  rintro ⟨rfl, hI⟩
  rw [slicePs]
  have hcalls := i_ReachOf_calls h hq hw hw2
  generalize (progB p && queryB q) = ok at hro
  cases ok
  · refine condV (fun _ => ?_) (fun hb => by cases hb)
    rw [if_neg (by decide)]
    exact ⟨_, _, _, rfl, hI, Ext.refl _ _ _, rfl, _, [], rfl, rfl, TrSl.nil (by simp [maxLen])⟩
  refine condV (fun hb => by cases hb) (fun _ => ?_)
  rw [if_pos rfl]
  rw [hro rfl] at hcalls
  refine Run.call0 fn_i_ReachOf nm_i_ReachOf hI hcalls fun t22 I' S' w' => ?_
  rintro ⟨rfl, rfl⟩ _ hI
  generalize reachP p (goalsP [] q) = l at hI
  have hfw := filter_w (inP l) p
  have hI : Inv w [] ([] ++ [rowP t22 l]) S' w' := hI
  obtain ⟨S1, hle, hrd, hI, _⟩ := hI.lend
  have hrl := hrd.preds
  have h1 := h.monoC hle
  refine r_lenSl h1 sl_SiClause ?_
  refine ⟨fun i t w' => ∃ (k : Nat) (c1 : List (List Value)) (l1 : List C), k ≤ p.length ∧ i = .int .i64 k ∧ Rows 5 (RdC S1) c1 l1 ∧ l1 ++ (p.drop k).filter (inP l) = p.filter (inP l) ∧
      Inv w [] [rowG t t_iClause 5 c1] S1 w', fun i _ _ => p.length - (intOf i).toNat, ⟨0, [], [], Nat.zero_le _, rfl, Rows.nil _ _, rfl, hI.rowNil t_iClause 5⟩, ?_⟩
  intro t23 _ t7 _ _ _ _ _ _ _ _ _ _ _ _ _ w'
  rintro ⟨k, c1, l1, hk, rfl, hR1, hr1, hI⟩
  have hl1 : l1.length ≤ p.length := by
    have h1 := congrArg List.length hr1
    have h2 := List.length_filter_le (inP l) p
    simp only [List.length_append] at h1
    omega
  have hcl1 := hR1.hc
  refine r_lss ?_
  refine condP (fun hki => ?_) (fun hki => ?_)
  · have hk' : k < p.length := by omega
    rw [← filter_snoc _ p k hk' l1] at hr1
    refine ⟨fun t w' => ∃ c1', Rows 5 (RdC S1) c1' (if inP l p[k] = true then l1 ++ [p[k]] else l1) ∧ Inv w [] [rowG t t_iClause 5 c1'] S1 w', ?_, ?_⟩
    · refine r_elem hI h1 sl_SiClause ag_iClause hk' (fun _ _ => RdC.length) fun cs hcs => ?_
      have hcs0 := hcs
      obtain ⟨hd, ks, rfl, g1, g2⟩ := hcs
      have g1' := g1
      obtain ⟨kv, rfl, _, _, hs, hks⟩ := RdT.iff.1 g1
      have hc0 : RdC S1 [.int .i64 p[k].head.kind, .int .i64 p[k].head.n, .string p[k].head.name, kv, ks] p[k] := hcs0
      refine r_alloc hI zo_iClause fun b9 w' hI => ?_
      refine r_storeW hI 1 rfl ag_iClause rfl rfl hc0.one fun w' hI => ?_
      have hI : Inv w [] [rowG t7 t_iClause 5 c1, .blk b9 (.cells #[.int .i64 p[k].head.kind, .int .i64 p[k].head.n, .string p[k].head.name, kv, ks] t_iClause)] S1 w' := hI
      refine r_field fo_iClause_0 ?_
      refine r_loadLA hI 1 [.int .i64 p[k].head.kind, .int .i64 p[k].head.n, .string p[k].head.name, kv] ag_iTerm rfl rfl sub4 ?_
      refine Run.callPure fn_i_pred nm_i_pred hI (i_pred_calls g1') fun w' hI => ?_
      refine Run.callPure fn_x_Contains_Pred nm_x_Contains_Pred hI (Contains_Pred_calls (predT p[k].head) hrl) fun w' hI => ?_
      refine condV (fun hb => ?_) (fun hb => ?_)
      · refine r_loadW hI 1 ag_iClause rfl rfl ?_
        refine r_append1 hI 0 [.int .i64 p[k].head.kind, .int .i64 p[k].head.n, .string p[k].head.name, kv, ks] mk_SiClause (by omega) (by omega) rfl rfl hc0.one (by omega) (by omega) fun v' w' hI => ?_
        refine ⟨c1 ++ [_], ?_, hI.pick [true, false]⟩
        rw [if_pos (show inP l p[k] = true from hb)]; exact hR1.snoc hc0 rfl
      · refine ⟨c1, ?_, hI.pick [true, false]⟩
        rw [if_neg (by rw [inP, hb]; decide)]; exact hR1
    · intro t _ _ _ _ _ _ _ _ _ _ _ _ w'
      rintro ⟨c1', hR1, hI⟩
      refine r_add (by omega) ?_
      exact ⟨⟨k + 1, c1', _, hk', rfl, hR1, hr1, hI⟩, by simp [intOf]; omega⟩
  · have : k = p.length := by omega
    subst this
    rw [List.drop_length, List.filter_nil, List.append_nil] at hr1
    have hI : Inv w [] ([] ++ [rowG t7 t_iClause 5 c1]) S1 w' := hI
    obtain ⟨S3, hle3, hrd3, hI, _⟩ := hI.lend
    rw [hr1] at hR1
    have hrr : RdSl S3 5 (RdC S3) t7 (p.filter (inP l)) := (RowRd.rows hR1 hrd3).mono (Sle.refl _) fun _ _ h => h.mono hle3
    refine Run.call0 fn_i_ownProgram nm_i_ownProgram hI (ownProgram_calls hrr (by omega)) fun v3 I' S' w' => ?_
    rintro ⟨rfl, L, rfl, hT⟩ _ hI
    exact ⟨_, _, _, rfl, hI.less (hle.trans hle3), Ext.refl _ _ _, rfl, _, L, rfl, rfl, hT⟩

end Go.Proofs.Ytnoieadimkgjcaa

/- Lists of predicates: asked and grown, on both sides. -/
import Derived.Test.YtnoieadimkgjcaaUnf
namespace Go.Proofs.Ytnoieadimkgjcaa
open Go Go.RowKit
attribute [local irreducible] Run CondV GuardV LoadV

def pds (l : List Pd) : List Value := l.flatMap Pd.cells
abbrev rowP (v : Value) (l : List Pd) : Item := .row v t_iPred 2 l.length (pds l)
theorem pds_snoc (l : List Pd) (x : Pd) : pds l ++ x.cells = pds (l ++ [x]) := by simp [pds]
theorem RowRd.preds {S : Store} {v : Value} {e : TypeId} {l : List Pd} (h : RowRd S v e 2 l.length (pds l)) : RdSl S 2 RdPd v l :=
  RowRd.rd (f := Pd.cells) (fun _ => rfl) (fun _ _ => rfl) h
def hasP (l : List Pd) (x : Pd) : Bool := l.any fun y => eqPd x y
def addP (l : List Pd) (x : Pd) : List Pd := if hasP l x = true then l else l ++ [x]
theorem eqPd_comm (x y : Pd) : eqPd x y = eqPd y x := by
  rw [eqPd_iff, eqPd_iff, Bool.eq_iff_iff]
  simp only [decide_eq_true_eq]
  exact ⟨Eq.symm, Eq.symm⟩

theorem l14Has_calls (x : Pd) {l : List Pd} {S : Store} {v : Value} (h : RdSl S 2 RdPd v l) : Pure Try.prog n_s_l14Has [v, .agg x.cells.toArray] S (.bool (hasP l x)) := by
  intro w hI
  have hlen := h.le
  simp only [maxLen] at hlen
  obtain ⟨xs, xn⟩ := x
  refine calls_s_l14Has ?_
  unfold sh_s_l14Has
  refine r_box hI fun b3 w' hI => ?_
  have hI : Inv w [] [.blk b3 (.cells #[.string xs, .int .i64 xn] t_iPred)] S w' := hI
  refine ⟨fun i w' => ∃ k : Nat, k ≤ l.length ∧ i = .int .i64 k ∧ hasP (l.drop k) ⟨xs, xn⟩ = hasP l ⟨xs, xn⟩ ∧ Inv w [] [.blk b3 (.cells #[.string xs, .int .i64 xn] t_iPred)] S w', fun i _ => l.length - (intOf i).toNat, ⟨0, Nat.zero_le _, rfl, rfl, hI⟩, ?_⟩
  intro t5 _ _ _ t17 t16 t15 t14 t13 t12 _ _ _ _ w'
  rintro ⟨k, hk, rfl, hrel, hI⟩
  refine r_lenSl h sl_SiPred ?_
  refine r_lss ?_
  refine condP (fun hki => ?_) (fun hki => ?_)
  · have hk' : k < l.length := by omega
    have hstep : hasP (l.drop k) ⟨xs, xn⟩ = (eqPd ⟨xs, xn⟩ l[k] || hasP (l.drop (k + 1)) ⟨xs, xn⟩) := any_drop _ l k hk'
    obtain ⟨b, o, cap, c, E, fz, rfl, hS, hR⟩ := h.at_ hk'
    have hR' : cellsAt c (o + k * 2) 2 = [.string l[k].name, .int .i64 l[k].arity] := hR
    refine ⟨fun D x17 x16 x15 x14 x13 x12 w_ => (D 0 = true → x12 = .slice (some ⟨b, o, none⟩) l.length cap) ∧ (D 1 = true → x13 = .int .i64 k) ∧ (D 2 = true → x14 = .pointer (some ⟨b, o + k * 2, none⟩)) ∧ (D 3 = true → x15 = .agg #[.string l[k].name, .int .i64 l[k].arity]) ∧ (D 4 = true → x16 = .agg #[.string xs, .int .i64 xn]) ∧ (D 5 = true → x17 = .bool (eqPd l[k] ⟨xs, xn⟩)) ∧ Inv w [] [.blk b3 (.cells #[.string xs, .int .i64 xn] t_iPred)] S w_, ⟨fun h => Bool.noConfusion h, fun h => Bool.noConfusion h, fun h => Bool.noConfusion h, fun h => Bool.noConfusion h, fun h => Bool.noConfusion h, fun h => Bool.noConfusion h, hI.draw⟩, ⟨?_, ?_, ?_, ?_, ?_, ?_, trivial⟩, ?_⟩
    · intro D hD_  x17 x16 x15 x14 x13 x12 w_
      rintro ⟨h0_, h1_, h2_, h3_, h4_, h5_, hI⟩
      exact ⟨fun _ => rfl, h1_, h2_, h3_, h4_, h5_, hI⟩
    · intro D hD_  x17 x16 x15 x14 x13 x12 w_
      rintro ⟨h0_, h1_, h2_, h3_, h4_, h5_, hI⟩
      exact ⟨h0_, fun _ => rfl, h2_, h3_, h4_, h5_, hI⟩
    · intro D hD_ d0_0 d1_1 x17 x16 x15 x14 x13 x12 w_
      rintro ⟨h0_, h1_, h2_, h3_, h4_, h5_, hI⟩
      obtain rfl := h0_ d0_0
      obtain rfl := h1_ d1_1
      refine r_indexAddr sl_SiPred hk' ?_
      exact ⟨h0_, h1_, fun _ => rfl, h3_, h4_, h5_, hI⟩
    · intro D hD_ d2_0 x17 x16 x15 x14 x13 x12 w_
      rintro ⟨h0_, h1_, h2_, h3_, h4_, h5_, hI⟩
      obtain rfl := h2_ d2_0
      refine r_loadA (cs := [.string l[k].name, .int .i64 l[k].arity]) ag_iPred rfl (fun j v hj => by rw [hI.cellS hS]; exact cellsAt_get hR' j v hj) ?_
      exact ⟨h0_, h1_, h2_, fun _ => rfl, h4_, h5_, hI⟩
    · intro D hD_  x17 x16 x15 x14 x13 x12 w_
      rintro ⟨h0_, h1_, h2_, h3_, h4_, h5_, hI⟩
      refine r_loadW hI 0 ag_iPred rfl rfl ?_
      exact ⟨h0_, h1_, h2_, h3_, fun _ => rfl, h5_, hI⟩
    · intro D hD_ d3_0 d4_1 x17 x16 x15 x14 x13 x12 w_
      rintro ⟨h0_, h1_, h2_, h3_, h4_, h5_, hI⟩
      obtain rfl := h3_ d3_0
      obtain rfl := h4_ d4_1
      refine r_peql ?_
      exact ⟨h0_, h1_, h2_, h3_, h4_, fun _ => rfl, hI⟩
    intro D d5_ d4_ d3_ d2_ d1_ d0_ x17 x16 x15 x14 x13 x12 w_
    rintro ⟨h0_, h1_, h2_, h3_, h4_, h5_, hI⟩
    obtain rfl := h5_ d5_
    obtain rfl := h4_ d4_
    obtain rfl := h3_ d3_
    obtain rfl := h2_ d2_
    obtain rfl := h1_ d1_
    obtain rfl := h0_ d0_
    clear h0_ h1_ h2_ h3_ h4_ h5_
    refine condV (fun hb => done hI ?_) (fun hb => ?_)
    · rw [← hrel, hstep, eqPd_comm, hb]; rfl
    · refine r_add (by omega) ?_
      exact ⟨⟨k + 1, hk', rfl, by rw [← hrel, hstep, eqPd_comm, hb]; rfl, hI⟩, by simp [intOf]; omega⟩
  · have : k = l.length := by omega
    subst this
    exact done hI (by rw [← hrel, List.drop_length]; rfl)
theorem Index_Pred_calls (x : Pd) {l : List Pd} {S : Store} {v : Value} (h : RdSl S 2 RdPd v l) :
    Pure Try.prog n_x_Index_Pred [v, .agg x.cells.toArray] S (.int .i64 (indexF (σ := Unit) (fun _ y => (eqPd x y, ())) () l 0).1) := by
  intro w hI
  have hlen := h.le
  simp only [maxLen] at hlen
  obtain ⟨xs, xn⟩ := x
  refine calls_x_Index_Pred ?_
  unfold sh_x_Index_Pred
  refine r_box hI fun b3 w' hI => ?_
  have hI : Inv w [] [.blk b3 (.cells #[.string xs, .int .i64 xn] t_iPred)] S w' := hI
  refine r_lenSl h sl_SiPred ?_
  refine ⟨fun i w' => ∃ k : Nat, k ≤ l.length ∧ i = .int .i64 k ∧ indexF (σ := Unit) (fun _ y => (eqPd ⟨xs, xn⟩ y, ())) () (l.drop k) k = indexF (σ := Unit) (fun _ y => (eqPd ⟨xs, xn⟩ y, ())) () l 0 ∧ Inv w [] [.blk b3 (.cells #[.string xs, .int .i64 xn] t_iPred)] S w',
    fun i _ => l.length - (intOf i).toNat, ⟨0, Nat.zero_le _, rfl, rfl, hI⟩, ?_⟩
  intro t8 _ _ _ t16 t15 t14 t13 t12 t11 _ _ _ w'
  rintro ⟨k, hk, rfl, hrel, hI⟩
  refine r_lss ?_
  refine condP (fun hki => ?_) (fun hki => ?_)
  · have hk' : k < l.length := by omega
    rw [List.drop_eq_getElem_cons hk', indexF] at hrel
    obtain ⟨b, o, cap, c, E, fz, rfl, hS, hR⟩ := h.at_ hk'
    have hR' : cellsAt c (o + k * 2) 2 = [.string l[k].name, .int .i64 l[k].arity] := hR
    refine ⟨fun D x16 x15 x14 x13 x12 x11 w_ => (D 0 = true → x11 = .agg #[.string xs, .int .i64 xn]) ∧ (D 1 = true → x12 = .slice (some ⟨b, o, none⟩) l.length cap) ∧ (D 2 = true → x13 = .int .i64 k) ∧ (D 3 = true → x14 = .pointer (some ⟨b, o + k * 2, none⟩)) ∧ (D 4 = true → x15 = .agg #[.string l[k].name, .int .i64 l[k].arity]) ∧ (D 5 = true → x16 = .bool (eqPd ⟨xs, xn⟩ l[k])) ∧ Inv w [] [.blk b3 (.cells #[.string xs, .int .i64 xn] t_iPred)] S w_, ⟨fun h => Bool.noConfusion h, fun h => Bool.noConfusion h, fun h => Bool.noConfusion h, fun h => Bool.noConfusion h, fun h => Bool.noConfusion h, fun h => Bool.noConfusion h, hI.draw⟩, ⟨?_, ?_, ?_, ?_, ?_, ?_, trivial⟩, ?_⟩
    · intro D hD_  x16 x15 x14 x13 x12 x11 w_
      rintro ⟨h0_, h1_, h2_, h3_, h4_, h5_, hI⟩
      refine r_loadW hI 0 ag_iPred rfl rfl ?_
      exact ⟨fun _ => rfl, h1_, h2_, h3_, h4_, h5_, hI⟩
    · intro D hD_  x16 x15 x14 x13 x12 x11 w_
      rintro ⟨h0_, h1_, h2_, h3_, h4_, h5_, hI⟩
      exact ⟨h0_, fun _ => rfl, h2_, h3_, h4_, h5_, hI⟩
    · intro D hD_  x16 x15 x14 x13 x12 x11 w_
      rintro ⟨h0_, h1_, h2_, h3_, h4_, h5_, hI⟩
      exact ⟨h0_, h1_, fun _ => rfl, h3_, h4_, h5_, hI⟩
    · intro D hD_ d1_0 d2_1 x16 x15 x14 x13 x12 x11 w_
      rintro ⟨h0_, h1_, h2_, h3_, h4_, h5_, hI⟩
      obtain rfl := h1_ d1_0
      obtain rfl := h2_ d2_1
      refine r_indexAddr sl_SiPred hk' ?_
      exact ⟨h0_, h1_, h2_, fun _ => rfl, h4_, h5_, hI⟩
    · intro D hD_ d3_0 x16 x15 x14 x13 x12 x11 w_
      rintro ⟨h0_, h1_, h2_, h3_, h4_, h5_, hI⟩
      obtain rfl := h3_ d3_0
      refine r_loadA (cs := [.string l[k].name, .int .i64 l[k].arity]) ag_iPred rfl (fun j v hj => by rw [hI.cellS hS]; exact cellsAt_get hR' j v hj) ?_
      exact ⟨h0_, h1_, h2_, h3_, fun _ => rfl, h5_, hI⟩
    · intro D hD_ d0_0 d4_1 x16 x15 x14 x13 x12 x11 w_
      rintro ⟨h0_, h1_, h2_, h3_, h4_, h5_, hI⟩
      obtain rfl := h0_ d0_0
      obtain rfl := h4_ d4_1
      refine r_peql ?_
      exact ⟨h0_, h1_, h2_, h3_, h4_, fun _ => rfl, hI⟩
    intro D d5_ d4_ d3_ d2_ d1_ d0_ x16 x15 x14 x13 x12 x11 w_
    rintro ⟨h0_, h1_, h2_, h3_, h4_, h5_, hI⟩
    obtain rfl := h5_ d5_
    obtain rfl := h4_ d4_
    obtain rfl := h3_ d3_
    obtain rfl := h2_ d2_
    obtain rfl := h1_ d1_
    obtain rfl := h0_ d0_
    clear h0_ h1_ h2_ h3_ h4_ h5_
    refine condV (fun he => done hI ?_) (fun he => ?_)
    · rw [← hrel, if_pos (by simpa using he)]
    · refine r_add (by omega) ?_
      rw [if_neg (by simpa using he)] at hrel
      exact ⟨⟨k + 1, hk', rfl, hrel, hI⟩, by simp [intOf]; omega⟩
  · have : k = l.length := by omega
    subst this
    rw [List.drop_length, indexF] at hrel
    exact done hI (by rw [← hrel])
theorem Contains_Pred_calls (x : Pd) {l : List Pd} {S : Store} {v : Value} (h : RdSl S 2 RdPd v l) : Pure Try.prog n_x_Contains_Pred [v, .agg x.cells.toArray] S (.bool (hasP l x)) := by
  intro w hI
  obtain ⟨xs, xn⟩ := x
  refine calls_x_Contains_Pred ?_
  unfold sh_x_Contains_Pred
  refine r_box hI fun b3 w' hI => ?_
  refine r_loadW hI 0 ag_iPred rfl rfl ?_
  refine Run.callPure fn_x_Index_Pred nm_x_Index_Pred hI (Index_Pred_calls ⟨xs, xn⟩ h) fun w' hI => ?_
  refine r_geq (done hI ?_)
  rw [(indexF_any _ l () 0).1, anyF_pure]; rfl
abbrev PostP (S : Store) (r : List Pd) : Value → List Item → Store → Prop := fun v I' S' => I' = [rowP v r] ∧ S' = S
theorem addPred_calls (x : Pd) (l : List Pd) (v : Value) (S : Store) (hl : l.length ≤ 1000000000) : Tri Try.prog n_i_addPred [v, .agg x.cells.toArray] [rowP v l] S (PostP S (addP l x)) := by
  intro w hI
  obtain ⟨xs, xn⟩ := x
  refine calls_i_addPred ?_
  unfold sh_i_addPred
  refine r_box hI fun b3 w' hI => ?_
  have hI := hI.perm (M := [.blk b3 (.cells #[.string xs, .int .i64 xn] t_iPred), rowP v l]) (List.Perm.swap _ _ _)
  refine r_loadW hI 0 ag_iPred rfl rfl ?_
  obtain ⟨S1, hle, hrd, hI, hback⟩ := Inv.lend (A := [_]) hI
  refine Run.callPure fn_x_Contains_Pred nm_x_Contains_Pred hI (Contains_Pred_calls ⟨xs, xn⟩ hrd.preds) fun w' hI => ?_
  have hI := hback _ _ hI
  refine condV (fun hb => ?_) (fun hb => ?_)
  · rw [addP, if_pos hb]
    exact ⟨_, _, _, rfl, Inv.pick hI [false, true], Ext.refl _ _ _, rfl, rfl⟩
  · rw [addP, if_neg (by rw [hb]; decide)]
    refine r_loadW hI 0 ag_iPred rfl rfl ?_
    refine r_slice1 hI mk_SiPred rfl (by omega) (by omega) fun b w' hI => ?_
    refine r_append hI 1 (k := 2) [.string xs, .int .i64 xn] mk_SiPred (by omega) rfl rfl ?_ ?_ (by omega) (by omega) fun v' w' hI => ?_
    · intro j u hj
      rw [hI.cellL (i := 2) rfl]
      match j with
      | 0 | 1 => simpa [Value.cells] using hj
      | j + 2 => simp at hj
    · simp [Value.oneCell']
    · have hI := hI.pick [false, true, false]
      have e : Item.row v' t_iPred 2 (l.length + 1) (pds l ++ [.string xs, .int .i64 xn]) = rowP v' (l ++ [⟨xs, xn⟩]) := by
        rw [show ([.string xs, .int .i64 xn] : List Value) = Pd.cells ⟨xs, xn⟩ from rfl, pds_snoc]; simp [rowP]
      refine ⟨_, _, _, rfl, hI, Ext.refl _ _ _, ?_, rfl⟩
      show [Item.row v' t_iPred 2 (l.length + 1) (pds l ++ [.string xs, .int .i64 xn])] = _
      rw [e]

end Go.Proofs.Ytnoieadimkgjcaa

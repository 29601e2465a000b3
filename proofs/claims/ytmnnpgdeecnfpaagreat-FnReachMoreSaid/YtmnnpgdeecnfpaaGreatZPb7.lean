/- spec.l4Clause. -/
import Derived.Test.YtmnnpgdeecnfpaaGreatZPb6
import Derived.Test.YtmnnpgdeecnfpaaGreatZPb2
import Derived.Test.YtmnnpgdeecnfpaaGreatZPb1
namespace Go.Proofs.YtmnnpgdeecnfpaaGreat
open Go Go.RowKit
section
variable {br : Nat} {sl : Value} {ys : List Nat}
attribute [local irreducible] Run CondV GuardV LoadV
end
end Go.Proofs.YtmnnpgdeecnfpaaGreat

/- What calls what, and what can be reached: both sides. -/
namespace Go.Proofs.YtmnnpgdeecnfpaaGreat
open Go Go.RowKit
attribute [local irreducible] Run CondV GuardV LoadV

def addItems (B blk rA rB rC : Item) (d0 d2 d4 d5 : Bool) : List Item :=
  B :: ((match d4 with | true => [blk] | false => []) ++ (match d5, d2, d0 with | true, _, _ => [rC] | false, true, _ => [rB] | false, false, true => [rA] | false, false, false => []))
theorem l14Add_calls (x : Pd) (l : List Pd) (v : Value) (S : Store) (hl : l.length ≤ 1000000000) : Tri Tryz.prog n_s_l14Add [v, .agg x.cells.toArray] [rowP v l] S (PostP S (addP l x)) := by
  intro w hJ
  obtain ⟨xs, xn⟩ := x
  obtain ⟨X, hX⟩ : ∃ X, X = feet [rowP v l] := ⟨_, rfl⟩
  rw [← hX] at hJ ⊢
  refine calls_s_l14Add ?_
  unfold sh_s_l14Add
  refine r_box hJ fun b3 w' hJ => ?_
  have hJ := hJ.perm (M := [.blk b3 (.cells #[.string xs, .int .i64 xn] t_iPred), rowP v l]) (List.Perm.swap _ _ _)
  refine r_loadW hJ 0 ag_iPred rfl rfl ?_
  obtain ⟨S1, hle, hrd, hI, hback⟩ := Inv.lend (A := [_]) hJ
  have h := hrd.preds
  refine Run.callPure fn_s_l14Has nm_s_l14Has hI (l14Has_calls ⟨xs, xn⟩ h) fun w' hI => ?_
  refine condV (fun hb => ?_) (fun hb => ?_)
  · rw [addP, if_pos hb]
    exact ⟨_, _, _, rfl, Inv.pick (hback _ _ hI) [false, true], Ext.refl _ _ _, rfl, rfl⟩
  · rw [addP, if_neg (by rw [hb]; decide)]
    refine ⟨fun D x4 x14 x13 x12 x11 x10 x9 w_ => (D 0 = true → True) ∧ (D 1 = true → x10 = v) ∧ (D 2 = true → True) ∧ (D 3 = true → x12 = .agg #[.string xs, .int .i64 xn]) ∧ (D 4 = true → True) ∧ (D 5 = true → True) ∧ (D 6 = true → True) ∧ ∃ b13 : Nat, (D 4 = true → x13 = .slice (some ⟨b13, 0, none⟩) 1 1) ∧ (D 2 = true → D 0 = true) ∧ (D 5 = true → D 2 = true) ∧ (D 5 = true → D 4 = true) ∧ (D 6 = true → D 5 = true ∧ x4 = x14) ∧ Inv w X (addItems (.blk b3 (.cells #[.string xs, .int .i64 xn] t_iPred)) (.blk b13 (.cells #[.string xs, .int .i64 xn] t_iPred)) (rowP x9 []) (rowP x11 l) (rowP x14 (l ++ [⟨xs, xn⟩])) (D 0) (D 2) (D 4) (D 5)) S1 w_, ⟨fun h => Bool.noConfusion h, fun h => Bool.noConfusion h, fun h => Bool.noConfusion h, fun h => Bool.noConfusion h, fun h => Bool.noConfusion h, fun h => Bool.noConfusion h, fun h => Bool.noConfusion h, ⟨0, fun h => Bool.noConfusion h, fun h => Bool.noConfusion h, fun h => Bool.noConfusion h, fun h => Bool.noConfusion h, fun h => Bool.noConfusion h, hI.draw⟩⟩, ⟨?_, ?_, ?_, ?_, ?_, ?_, ?_, trivial⟩, ?_⟩
    · intro D hD_  x4 x14 x13 x12 x11 x10 x9 w_
      rintro ⟨h0_, h1_, h2_, h3_, h4_, h5_, h6_, ⟨b13, k4, k2, k5, k54, k6, hI⟩⟩
      have e2 : D 2 = false := Bool.eq_false_iff.2 fun h => by rw [k2 h] at hD_; cases hD_
      have e5 : D 5 = false := Bool.eq_false_iff.2 fun h => by rw [k5 h] at e2; cases e2
      refine r_slice0 hI mk_SiPred fun v9 w_ hI => ?_
      have k2 := fun (h : setD D 0 2 = true) => (show setD D 0 0 = true from rfl)
      have hI : Inv w X (addItems (.blk b3 (.cells #[.string xs, .int .i64 xn] t_iPred)) (.blk b13 (.cells #[.string xs, .int .i64 xn] t_iPred)) (rowP v9 []) (rowP x11 l) (rowP x14 (l ++ [⟨xs, xn⟩])) true (D 2) (D 4) (D 5)) S1 w_ := by
        rw [e2, e5] at hI ⊢
        rw [hD_] at hI
        cases h4 : D 4 <;> rw [h4] at hI <;> exact hI
      exact ⟨fun _ => by first | assumption | trivial, h1_, h2_, h3_, h4_, h5_, h6_, ⟨b13, k4, k2, k5, k54, k6, hI⟩⟩
    · intro D hD_  x4 x14 x13 x12 x11 x10 x9 w_
      rintro ⟨h0_, h1_, h2_, h3_, h4_, h5_, h6_, ⟨b13, k4, k2, k5, k54, k6, hI⟩⟩
      exact ⟨h0_, fun _ => rfl, h2_, h3_, h4_, h5_, h6_, ⟨b13, k4, k2, k5, k54, k6, hI⟩⟩
    · intro D hD_ d0_0 d1_1 x4 x14 x13 x12 x11 x10 x9 w_
      rintro ⟨h0_, h1_, h2_, h3_, h4_, h5_, h6_, ⟨b13, k4, k2, k5, k54, k6, hI⟩⟩
      have g0_ := h0_ d0_0
      obtain rfl := h1_ d1_1
      have e5 : D 5 = false := Bool.eq_false_iff.2 fun h => by rw [k5 h] at hD_; cases hD_
      have hI : Inv w X (addItems (.blk b3 (.cells #[.string xs, .int .i64 xn] t_iPred)) (.blk b13 (.cells #[.string xs, .int .i64 xn] t_iPred)) (rowP x9 []) (rowP x11 l) (rowP x14 (l ++ [⟨xs, xn⟩])) true false (D 4) false) S1 w_ := by
        rw [e5, hD_, d0_0] at hI
        exact hI
      have k2 := fun (h : setD D 2 2 = true) => (show setD D 2 0 = true from d0_0)
      have k5 := fun (h : setD D 2 5 = true) => (show setD D 2 2 = true from rfl)
      cases h4 : D 4
      · rw [h4] at hI
        refine r_appendSl (f := Pd.cells) hI 1 mk_SiPred (by omega) rfl h (fun _ _ h => h) (fun _ => rfl) (fun y c hc => by simp [Pd.cells] at hc; rcases hc with rfl | rfl <;> rfl) (by simp; omega) (by omega) fun v' w_ hI => ?_
        have hI : Inv w X (addItems (.blk b3 (.cells #[.string xs, .int .i64 xn] t_iPred)) (.blk b13 (.cells #[.string xs, .int .i64 xn] t_iPred)) (rowP x9 []) (rowP v' l) (rowP x14 (l ++ [⟨xs, xn⟩])) (D 0) true (D 4) (D 5)) S1 w_ := by
          rw [d0_0, h4, e5]
          have e : Item.row v' t_iPred 2 (([] : List Pd).length + l.length) (pds [] ++ l.flatMap Pd.cells) = rowP v' l := by simp [rowP, pds]
          exact e ▸ hI
        exact ⟨h0_, h1_, fun _ => trivial, h3_, h4_, h5_, h6_, ⟨b13, k4, k2, k5, k54, k6, hI⟩⟩
      rw [h4] at hI
      refine r_appendSl (f := Pd.cells) hI 2 mk_SiPred (by omega) rfl h (fun _ _ h => h) (fun _ => rfl) (fun y c hc => by simp [Pd.cells] at hc; rcases hc with rfl | rfl <;> rfl) (by simp; omega) (by omega) fun v' w_ hI => ?_
      have hI : Inv w X (addItems (.blk b3 (.cells #[.string xs, .int .i64 xn] t_iPred)) (.blk b13 (.cells #[.string xs, .int .i64 xn] t_iPred)) (rowP x9 []) (rowP v' l) (rowP x14 (l ++ [⟨xs, xn⟩])) (D 0) true (D 4) (D 5)) S1 w_ := by
        rw [d0_0, h4, e5]
        have e : Item.row v' t_iPred 2 (([] : List Pd).length + l.length) (pds [] ++ l.flatMap Pd.cells) = rowP v' l := by simp [rowP, pds]
        exact e ▸ hI
      exact ⟨h0_, h1_, fun _ => by first | assumption | trivial, h3_, h4_, h5_, h6_, ⟨b13, k4, k2, k5, k54, k6, hI⟩⟩
    · intro D hD_  x4 x14 x13 x12 x11 x10 x9 w_
      rintro ⟨h0_, h1_, h2_, h3_, h4_, h5_, h6_, ⟨b13, k4, k2, k5, k54, k6, hI⟩⟩
      refine r_loadW hI 0 ag_iPred rfl rfl ?_
      exact ⟨h0_, h1_, h2_, fun _ => rfl, h4_, h5_, h6_, ⟨b13, k4, k2, k5, k54, k6, hI⟩⟩
    · intro D hD_ d3_0 x4 x14 x13 x12 x11 x10 x9 w_
      rintro ⟨h0_, h1_, h2_, h3_, h4_, h5_, h6_, ⟨b13, k4, k2, k5, k54, k6, hI⟩⟩
      obtain rfl := h3_ d3_0
      have e5 : D 5 = false := Bool.eq_false_iff.2 fun h => by rw [k54 h] at hD_; cases hD_
      refine r_slice1 hI mk_SiPred rfl (by omega) (by omega) fun b13 w_ hI => ?_
      have k4 := fun (_ : setD D 4 4 = true) => (rfl : Value.slice (some ⟨b13, 0, none⟩) 1 1 = _)
      have k54 := fun (_ : setD D 4 5 = true) => (rfl : setD D 4 4 = true)
      have hI : Inv w X (addItems (.blk b3 (.cells #[.string xs, .int .i64 xn] t_iPred)) (.blk b13 (.cells #[.string xs, .int .i64 xn] t_iPred)) (rowP x9 []) (rowP x11 l) (rowP x14 (l ++ [⟨xs, xn⟩])) (D 0) (D 2) true (D 5)) S1 w_ := by
        rw [e5, hD_] at hI
        rw [e5]
        cases h0 : D 0 <;> cases h2 : D 2 <;> rw [h0, h2] at hI
        · exact hI
        · exact hI.perm ((List.Perm.swap _ _ _).cons _)
        · exact hI.perm ((List.Perm.swap _ _ _).cons _)
        · exact hI.perm ((List.Perm.swap _ _ _).cons _)
      exact ⟨h0_, h1_, h2_, h3_, fun _ => by first | assumption | trivial, h5_, h6_, ⟨b13, k4, k2, k5, k54, k6, hI⟩⟩
    · intro D hD_ d2_0 d4_1 d2_2 x4 x14 x13 x12 x11 x10 x9 w_
      rintro ⟨h0_, h1_, h2_, h3_, h4_, h5_, h6_, ⟨b13, k4, k2, k5, k54, k6, hI⟩⟩
      have g2_ := h2_ d2_0
      have g4_ := h4_ d4_1
      obtain rfl := k4 d4_1
      rw [d4_1, d2_0, hD_] at hI
      refine r_append hI 2 (k := 2) [.string xs, .int .i64 xn] mk_SiPred (by omega) rfl rfl ?_ ?_ (by omega) (by omega) fun v' w_ hI => ?_
      · intro j u hj
        rw [hI.cellL (i := 1) rfl]
        match j with
        | 0 | 1 => simpa [Value.cells] using hj
        | j + 2 => simp at hj
      · simp [Value.oneCell']
      have e : Item.row v' t_iPred 2 (l.length + 1) (pds l ++ [.string xs, .int .i64 xn]) = rowP v' (l ++ [⟨xs, xn⟩]) := by
        rw [show ([.string xs, .int .i64 xn] : List Value) = Pd.cells ⟨xs, xn⟩ from rfl, pds_snoc]; simp [rowP]
      have hI : Inv w X (addItems (.blk b3 (.cells #[.string xs, .int .i64 xn] t_iPred)) (.blk b13 (.cells #[.string xs, .int .i64 xn] t_iPred)) (rowP x9 []) (rowP x11 l) (rowP v' (l ++ [⟨xs, xn⟩])) (D 0) (D 2) (D 4) true) S1 w_ := by
        rw [d4_1]
        exact e ▸ hI
      have k5 := fun (_ : setD D 5 5 = true) => d2_0
      have k54 := fun (_ : setD D 5 5 = true) => d4_1
      have k6 : setD D 5 6 = true → setD D 5 5 = true ∧ x4 = v' := fun h => absurd (k6 h).1 (by rw [hD_]; decide)
      exact ⟨h0_, h1_, h2_, h3_, h4_, fun _ => by first | assumption | trivial, h6_, ⟨b13, k4, k2, k5, k54, k6, hI⟩⟩
    · intro D hD_ d5_0 d5_1 d0_2 d1_3 d2_4 d3_5 d4_6 d5_7 x4 x14 x13 x12 x11 x10 x9 w_
      rintro ⟨h0_, h1_, h2_, h3_, h4_, h5_, h6_, ⟨b13, k4, k2, k5, k54, k6, hI⟩⟩
      have g5_ := h5_ d5_0
      have k6 := fun (_ : setD D 6 6 = true) => (⟨d5_0, rfl⟩ : D 5 = true ∧ x14 = x14)
      exact ⟨h0_, h1_, h2_, h3_, h4_, h5_, fun _ => by first | assumption | trivial, ⟨b13, k4, k2, k5, k54, k6, hI⟩⟩
    intro D d6_ d5_ d4_ d3_ d2_ d1_ d0_ x4 x14 x13 x12 x11 x10 x9 w_
    rintro ⟨h0_, h1_, h2_, h3_, h4_, h5_, h6_, ⟨b13, k4, k2, k5, k54, k6, hI⟩⟩
    have g6_ := h6_ d6_
    have g5_ := h5_ d5_
    have g4_ := h4_ d4_
    obtain rfl := h3_ d3_
    have g2_ := h2_ d2_
    obtain rfl := h1_ d1_
    have g0_ := h0_ d0_
    clear h0_ h1_ h2_ h3_ h4_ h5_ h6_
    obtain ⟨_, rfl⟩ := k6 d6_
    rw [d5_, d4_] at hI
    exact ⟨_, _, _, rfl, (hI.less hle).pick [false, false, true], Ext.refl _ _ _, rfl, rfl⟩

end Go.Proofs.YtmnnpgdeecnfpaaGreat

/- The graph of calls: the plain form. -/
namespace Go.Proofs.YtmnnpgdeecnfpaaGreat
open Go Go.RowKit
attribute [local irreducible] Run CondV GuardV LoadV

def goalsP (l : List Pd) (ts : List T) : List Pd := ts.foldl (fun l t => if plainB t = true then addP l (predT t) else l) l
def callsFrom (l : List Pd) (p : List C) (x : Pd) : List Pd := p.foldl (fun l c => if eqPd (predT c.head) x = true then goalsP l c.body else l) l
def callsP (p : List C) (x : Pd) : List Pd := callsFrom [] p x
def addAll (l m : List Pd) : List Pd := m.foldl addP l
def reachF : Nat → List C → List Pd → Nat → List Pd
  | 0, _, l, _ => l
  | n + 1, p, l, i => if h : i < l.length then reachF n p (addAll l (callsP p l[i])) (i + 1) else l
def gPs (p : List C) : List Pd := p.flatMap fun c => c.body.map predT
def reachP (p : List C) (l : List Pd) : List Pd := reachF (l.length + (gPs p).length) p l 0
theorem goalsP_drop (l : List Pd) (ts : List T) (k : Nat) (h : k < ts.length) : goalsP l (ts.drop k) = goalsP (if plainB ts[k] = true then addP l (predT ts[k]) else l) (ts.drop (k + 1)) := by
  rw [List.drop_eq_getElem_cons h]; rfl
theorem callsFrom_drop (l : List Pd) (p : List C) (x : Pd) (k : Nat) (h : k < p.length) : callsFrom l (p.drop k) x = callsFrom (if eqPd (predT p[k].head) x = true then goalsP l p[k].body else l) (p.drop (k + 1)) x := by
  rw [List.drop_eq_getElem_cons h]; rfl
theorem addAll_drop (l m : List Pd) (k : Nat) (h : k < m.length) : addAll l (m.drop k) = addAll (addP l m[k]) (m.drop (k + 1)) := by
  rw [List.drop_eq_getElem_cons h]; rfl
theorem addP_len (l : List Pd) (x : Pd) : (addP l x).length ≤ l.length + 1 := by
  unfold addP
  split
  · omega
  · simp
theorem goalsP_len : ∀ (ts : List T) (l : List Pd), (goalsP l ts).length ≤ l.length + ts.length
  | [], l => Nat.le_refl _
  | t :: ts, l => by
    have h := goalsP_len ts (if plainB t = true then addP l (predT t) else l)
    have h2 := addP_len l (predT t)
    have e : goalsP l (t :: ts) = goalsP (if plainB t = true then addP l (predT t) else l) ts := rfl
    rw [e, List.length_cons]
    split at h <;> rename_i hp
    · rw [if_pos hp]; omega
    · rw [if_neg hp]; omega
theorem gPs_cons (c : C) (p : List C) : (gPs (c :: p)).length = c.body.length + (gPs p).length := by simp [gPs]
theorem gPs_le : ∀ p : List C, (gPs p).length ≤ wP p
  | [] => by simp [gPs]
  | c :: p => by
    have := gPs_le p
    rw [gPs_cons]
    simp only [wP, wC]
    omega
theorem callsFrom_len (x : Pd) : ∀ (p : List C) (l : List Pd), (callsFrom l p x).length ≤ l.length + (gPs p).length
  | [], l => Nat.le_add_right _ _
  | c :: p, l => by
    have h := callsFrom_len x p (if eqPd (predT c.head) x = true then goalsP l c.body else l)
    have h2 := goalsP_len c.body l
    have e : callsFrom l (c :: p) x = callsFrom (if eqPd (predT c.head) x = true then goalsP l c.body else l) p x := rfl
    rw [e, gPs_cons]
    split at h <;> rename_i hp
    · rw [if_pos hp]; omega
    · rw [if_neg hp]; omega
theorem goalsP_mem : ∀ (ts : List T) (l : List Pd) (y : Pd), y ∈ goalsP l ts → y ∈ l ∨ y ∈ ts.map predT
  | [], l, y, h => .inl h
  | t :: ts, l, y, h => by
    have e : goalsP l (t :: ts) = goalsP (if plainB t = true then addP l (predT t) else l) ts := rfl
    rw [e] at h
    rcases goalsP_mem ts _ y h with h | h
    · split at h
      · unfold addP at h
        split at h
        · exact .inl h
        · rcases List.mem_append.1 h with h | h
          · exact .inl h
          · simp at h; subst h; exact .inr (by simp)
      · exact .inl h
    · exact .inr (by simp at h ⊢; exact .inr h)
theorem callsFrom_mem (x : Pd) : ∀ (p : List C) (l : List Pd) (y : Pd), y ∈ callsFrom l p x → y ∈ l ∨ y ∈ gPs p
  | [], l, y, h => .inl h
  | c :: p, l, y, h => by
    have e : callsFrom l (c :: p) x = callsFrom (if eqPd (predT c.head) x = true then goalsP l c.body else l) p x := rfl
    have hG : ∀ z, z ∈ gPs (c :: p) ↔ z ∈ c.body.map predT ∨ z ∈ gPs p := fun z => by simp only [gPs, List.flatMap_cons, List.mem_append]
    rw [e] at h
    rcases callsFrom_mem x p _ y h with h | h
    · split at h
      · rcases goalsP_mem _ _ _ h with h | h
        · exact .inl h
        · exact .inr ((hG y).2 (.inl h))
      · exact .inl h
    · exact .inr ((hG y).2 (.inr h))
theorem callsP_mem {p : List C} {x y : Pd} (h : y ∈ callsP p x) : y ∈ gPs p := by
  rcases callsFrom_mem x p [] y h with h | h
  · simp at h
  · exact h
theorem callsP_len (p : List C) (x : Pd) : (callsP p x).length ≤ (gPs p).length := by
  have := callsFrom_len x p []
  simp at this
  exact this
/- what may still come in -/
def pot (G l : List Pd) : Nat := (G.filter fun g => !hasP l g).length
theorem pot_le (G l : List Pd) : pot G l ≤ G.length := List.length_filter_le ..
theorem hasP_snoc (l : List Pd) (x g : Pd) : hasP (l ++ [x]) g = (hasP l g || eqPd g x) := by simp [hasP]
theorem pot_snoc_le (l : List Pd) (x : Pd) : ∀ G : List Pd, pot G (l ++ [x]) ≤ pot G l
  | [] => Nat.le_refl _
  | g :: G => by
    have := pot_snoc_le l x G
    unfold pot at *
    rw [List.filter_cons, List.filter_cons, hasP_snoc]
    cases hasP l g <;> cases eqPd g x <;> simp <;> omega
theorem pot_snoc_lt (l : List Pd) (x : Pd) (hx : hasP l x = false) : ∀ G : List Pd, x ∈ G → pot G (l ++ [x]) + 1 ≤ pot G l
  | g :: G, h => by
    by_cases e : x = g
    · subst e
      have := pot_snoc_le l x G
      unfold pot at *
      rw [List.filter_cons, List.filter_cons, hasP_snoc, hx, eqPd_iff]
      simp
      omega
    · have h' : x ∈ G := by
        rcases List.mem_cons.1 h with h | h
        · exact absurd h e
        · exact h
      have := pot_snoc_lt l x hx G h'
      unfold pot at *
      rw [List.filter_cons, List.filter_cons, hasP_snoc]
      have e2 : eqPd g x = false := by rw [eqPd_iff]; exact decide_eq_false fun h => e h.symm
      rw [e2]
      cases hasP l g <;> simp <;> omega
theorem addP_pot {G l : List Pd} {x : Pd} (hx : x ∈ G) : (addP l x).length + pot G (addP l x) ≤ l.length + pot G l := by
  unfold addP
  split
  · exact Nat.le_refl _
  · rename_i h
    have := pot_snoc_lt l x (Bool.eq_false_iff.2 h) G hx
    rw [List.length_append, List.length_singleton]
    omega

/- rows of predicates: their length, an element -/
section
variable {P : Program} {w w0 : World} {X : List Nat} {L : List Item} {S : Store} {K : Value → World → Prop}
theorem Inv.toEnd {it : Item} (h : Inv w0 X L S w) (i : Nat) (hi : L[i]? = some it) : Inv w0 X ((L.take i ++ L.drop (i + 1)) ++ [it]) S w := by
  obtain ⟨h1, _⟩ := set_split hi it
  refine h.perm ?_
  conv => rhs; rw [h1]
  rw [List.append_assoc]
  exact List.Perm.append_left _ List.perm_append_comm
theorem r_lenRow (h : Inv w0 X L S w) {T ty : TypeId} {cs : List Bool} {v : Value} {l : List Pd} {Ek : TypeId × Nat} (i : Nat) (hi : L[i]? = some (rowP v l)) (hu : sliceOf P T = some Ek)
    (hk : K (.int .i64 l.length) w) : Run P (sBuiltin .len #[T] ty cs [v]) w K := by
  obtain ⟨S1, _, hrd, _, _⟩ := (h.toEnd i hi).lend
  exact r_lenSl hrd.preds hu hk
theorem r_elemRow (h : Inv w0 X L S w) {T U ty ty' E : TypeId} {v : Value} {l : List Pd} (i : Nat) (hi : L[i]? = some (rowP v l)) (hu : sliceOf P T = some (E, 2)) (hU : aggN P U = some 2)
    {j : Nat} (hj : j < l.length) (hk : K (.agg l[j].cells.toArray) w) :
    Run P (sOp (.indexAddr T (.const v) (.const (.int .i64 j))) ty) w fun p w' => Run P (sOp (.load U (.const p)) ty') w' K := by
  obtain ⟨S1, _, hrd, hI, _⟩ := (h.toEnd i hi).lend
  exact r_elem hI hrd.preds hu hU hj (fun cs x h => by rw [h]; rfl) fun cs hcs => by rw [hcs]; exact hk
end

theorem s_l14Goals_calls {ts : List T} {S : Store} {u v : Value} (l : List Pd) (h : RdSl S 4 (RdT S) u ts) (hl : l.length + ts.length ≤ 1000000000) : Tri Tryz.prog n_s_l14Goals [v, u] [rowP v l] S (PostP S (goalsP l ts)) := by
  intro w hI
  obtain ⟨X, hX⟩ : ∃ X, X = feet [rowP v l] := ⟨_, rfl⟩
  rw [← hX] at hI ⊢
  refine calls_s_l14Goals ?_
  unfold sh_s_l14Goals
  refine ⟨fun i t w' => ∃ (k : Nat) (m : List Pd), k ≤ ts.length ∧ i = .int .i64 k ∧ goalsP m (ts.drop k) = goalsP l ts ∧ m.length ≤ l.length + k ∧ Inv w X [rowP t m] S w', fun i _ _ => ts.length - (intOf i).toNat, ⟨0, l, Nat.zero_le _, rfl, rfl, Nat.le_refl _, hI⟩, ?_⟩
  intro t5 _ _ t0 _ _ _ _ _ _ _ _ _ _ _ _ _ _ _ _ w'
  rintro ⟨k, m, hk, rfl, hrel, hml, hI⟩
  refine r_lenSl h sl_SiTerm ?_
  refine r_lss ?_
  refine condP (fun hki => ?_) (fun hki => ?_)
  · have hk' : k < ts.length := by omega
    rw [goalsP_drop m ts k hk'] at hrel
    refine ⟨fun t w' => Inv w X [rowP t (if plainB ts[k] = true then addP m (predT ts[k]) else m)] S w', ?_, ?_⟩
    · refine r_elem hI h sl_SiTerm ag_iTerm hk' (fun _ _ => RdT.length) fun cs hcs => ?_
      refine Run.callPure fn_s_l4Plain nm_s_l4Plain hI (l4Plain_calls hcs) fun w' hI => ?_
      refine condV (fun hb => ?_) (fun hb => ?_)
      · refine r_elem hI h sl_SiTerm ag_iTerm hk' (fun _ _ => RdT.length) fun cs hcs => ?_
        refine Run.callPure fn_s_l14Of nm_s_l14Of hI (s_l14Of_calls hcs) fun w' hI => ?_
        refine Run.call (A := []) fn_s_l14Add nm_s_l14Add hI (l14Add_calls (predT ts[k]) m t0 S (by omega)) fun v' I' S' w' => ?_
        rintro ⟨rfl, rfl⟩ _ hI
        rw [if_pos hb]
        exact hI
      · rw [if_neg (by rw [hb]; decide)]
        exact hI
    · intro t0 _ _ _ _ _ _ _ _ _ _ _ _ w' hI
      refine r_add (by omega) ?_
      refine ⟨⟨k + 1, _, hk', rfl, hrel, ?_, hI⟩, by simp [intOf]; omega⟩
      have := addP_len m (predT ts[k])
      split <;> omega
  · have : k = ts.length := by omega
    subst this
    rw [List.drop_length] at hrel
    have hrel : m = goalsP l ts := hrel
    rw [← hrel]
    exact ⟨_, _, _, rfl, hI, Ext.refl _ _ _, rfl, rfl⟩

end Go.Proofs.YtmnnpgdeecnfpaaGreat

/- What the clauses for a name call: both sides. -/
namespace Go.Proofs.YtmnnpgdeecnfpaaGreat
open Go Go.RowKit
attribute [local irreducible] Run CondV GuardV LoadV

theorem i_called_calls {ts : List T} {S : Store} {u v : Value} (l : List Pd) (h : RdSl S 4 (RdT S) u ts) (hl : l.length + ts.length ≤ 1000000000) : Tri Tryz.prog n_i_called [u, v] [rowP v l] S (PostP S (goalsP l ts)) := by
  intro w hI
  obtain ⟨X, hX⟩ : ∃ X, X = feet [rowP v l] := ⟨_, rfl⟩
  rw [← hX] at hI ⊢
  refine calls_i_called ?_
  unfold sh_i_called
  refine r_lenSl h sl_SiTerm ?_
  refine ⟨fun i t w' => ∃ (k : Nat) (m : List Pd), k ≤ ts.length ∧ i = .int .i64 k ∧ goalsP m (ts.drop k) = goalsP l ts ∧ m.length ≤ l.length + k ∧ Inv w X [rowP t m] S w', fun i _ _ => ts.length - (intOf i).toNat, ⟨0, l, Nat.zero_le _, rfl, rfl, Nat.le_refl _, hI⟩, ?_⟩
  intro t9 _ t1 _ _ _ _ _ _ _ _ _ _ w'
  rintro ⟨k, m, hk, rfl, hrel, hml, hI⟩
  refine r_lss ?_
  refine condP (fun hki => ?_) (fun hki => ?_)
  · have hk' : k < ts.length := by omega
    rw [goalsP_drop m ts k hk'] at hrel
    refine ⟨fun t w' => Inv w X [rowP t (if plainB ts[k] = true then addP m (predT ts[k]) else m)] S w', ?_, ?_⟩
    · refine r_elem hI h sl_SiTerm ag_iTerm hk' (fun _ _ => RdT.length) fun cs hcs => ?_
      have hlc := hcs.length
      refine r_alloc hI zo_iTerm fun b6 w' hI => ?_
      refine r_storeW hI 1 rfl ag_iTerm (by simpa using hlc) rfl (by simpa using hcs.one) fun w' hI => ?_
      refine r_loadW hI 1 ag_iTerm rfl (by simpa using hlc) ?_
      refine Run.callPure fn_i_isPlain nm_i_isPlain hI (isPlain_calls hcs) fun w' hI => ?_
      refine condV (fun hb => ?_) (fun hb => ?_)
      · refine r_loadW hI 1 ag_iTerm rfl (by simpa using hlc) ?_
        refine Run.callPure fn_i_pred nm_i_pred hI (i_pred_calls hcs) fun w' hI => ?_
        have hI := hI.pick [true, false]
        refine Run.call (A := []) fn_i_addPred nm_i_addPred hI (addPred_calls (predT ts[k]) m t1 S (by omega)) fun v' I' S' w' => ?_
        rintro ⟨rfl, rfl⟩ _ hI
        rw [if_pos hb]
        exact hI
      · rw [if_neg (by rw [hb]; decide)]
        exact hI.pick [true, false]
    · intro t0 _ _ _ _ _ _ _ _ _ w' hI
      refine r_add (by omega) ?_
      refine ⟨⟨k + 1, _, hk', rfl, hrel, ?_, hI⟩, by simp [intOf]; omega⟩
      have := addP_len m (predT ts[k])
      split <;> omega
  · have : k = ts.length := by omega
    subst this
    rw [List.drop_length] at hrel
    have hrel : m = goalsP l ts := hrel
    rw [← hrel]
    exact ⟨_, _, _, rfl, hI, Ext.refl _ _ _, rfl, rfl⟩

theorem wP_at : ∀ (p : List C) (k : Nat) (h : k < p.length), p[k].body.length + (gPs (p.drop (k + 1))).length = (gPs (p.drop k)).length := by
  intro p k h
  rw [List.drop_eq_getElem_cons h, gPs_cons]

theorem s_l14Calls_calls {p : List C} {S : Store} {v : Value} (x : Pd) (h : RdSl S 5 (RdC S) v p) (hw : wP p ≤ 1100000) : Tri Tryz.prog n_s_l14Calls [v, .agg x.cells.toArray] [] S (PostP S (callsP p x)) := by
  intro w hI
  have hlen := h.le
  simp only [maxLen] at hlen
  have hg := gPs_le p
  obtain ⟨xs, xn⟩ := x
  refine calls_s_l14Calls ?_
  unfold sh_s_l14Calls
  refine r_box hI fun b3 w' hI => ?_
  refine r_slice0 hI mk_SiPred fun v0 w' hI => ?_
  refine ⟨fun i t w' => ∃ (k : Nat) (l : List Pd), k ≤ p.length ∧ i = .int .i64 k ∧ callsFrom l (p.drop k) ⟨xs, xn⟩ = callsP p ⟨xs, xn⟩ ∧ l.length + (gPs (p.drop k)).length ≤ 1100000 ∧
      Inv w [] [.blk b3 (.cells #[.string xs, .int .i64 xn] t_iPred), rowP t l] S w', fun i _ _ => p.length - (intOf i).toNat, ⟨0, [], Nat.zero_le _, rfl, rfl, by simp; omega, hI⟩, ?_⟩
  intro t6 _ _ t5 _ _ _ _ _ _ _ t21 t20 t19 t18 t17 t16 t15 t14 _ _ _ _ w'
  rintro ⟨k, l, hk, rfl, hrel, hl, hI⟩
  refine r_lenSl h sl_SiClause ?_
  refine r_lss ?_
  refine condP (fun hki => ?_) (fun hki => ?_)
  · have hk' : k < p.length := by omega
    rw [callsFrom_drop l p _ k hk'] at hrel
    have hgk := wP_at p k hk'
    have hgl := goalsP_len p[k].body l
    refine ⟨fun t w' => Inv w [] [.blk b3 (.cells #[.string xs, .int .i64 xn] t_iPred), rowP t (if eqPd (predT p[k].head) ⟨xs, xn⟩ = true then goalsP l p[k].body else l)] S w', ?_, ?_⟩
    · obtain ⟨b, o, cap, c, E, fz, rfl, hS, hR⟩ := h.at_ hk'
      obtain ⟨hd, ks2, hcs, h1, h2⟩ := hR
      obtain ⟨kv, rfl, _, _, hs1, hk1⟩ := RdT.iff.1 h1
      refine ⟨fun D x21 x20 x19 x18 x17 x16 x15 x14 w_ => (D 0 = true → x14 = .slice (some ⟨b, o, none⟩) p.length cap) ∧ (D 1 = true → x15 = .int .i64 k) ∧ (D 2 = true → x16 = .pointer (some ⟨b, o + k * 5, none⟩)) ∧ (D 3 = true → x17 = .pointer (some ⟨b, o + k * 5, none⟩)) ∧ (D 4 = true → x18 = .agg #[.int .i64 p[k].head.kind, .int .i64 p[k].head.n, .string p[k].head.name, kv]) ∧ (D 5 = true → x19 = .agg #[.string p[k].head.name, .int .i64 p[k].head.kids.length]) ∧ (D 6 = true → x20 = .agg #[.string xs, .int .i64 xn]) ∧ (D 7 = true → x21 = .bool (eqPd (predT p[k].head) ⟨xs, xn⟩)) ∧ Inv w [] [.blk b3 (.cells #[.string xs, .int .i64 xn] t_iPred), rowP t5 l] S w_, ⟨fun h => Bool.noConfusion h, fun h => Bool.noConfusion h, fun h => Bool.noConfusion h, fun h => Bool.noConfusion h, fun h => Bool.noConfusion h, fun h => Bool.noConfusion h, fun h => Bool.noConfusion h, fun h => Bool.noConfusion h, hI.draw⟩, ⟨?_, ?_, ?_, ?_, ?_, ?_, ?_, ?_, trivial⟩, ?_⟩
      · intro D hD_  x21 x20 x19 x18 x17 x16 x15 x14 w_
        rintro ⟨h0_, h1_, h2_, h3_, h4_, h5_, h6_, h7_, hI⟩
        exact ⟨fun _ => rfl, h1_, h2_, h3_, h4_, h5_, h6_, h7_, hI⟩
      · intro D hD_  x21 x20 x19 x18 x17 x16 x15 x14 w_
        rintro ⟨h0_, h1_, h2_, h3_, h4_, h5_, h6_, h7_, hI⟩
        exact ⟨h0_, fun _ => rfl, h2_, h3_, h4_, h5_, h6_, h7_, hI⟩
      · intro D hD_ d0_0 d1_1 x21 x20 x19 x18 x17 x16 x15 x14 w_
        rintro ⟨h0_, h1_, h2_, h3_, h4_, h5_, h6_, h7_, hI⟩
        obtain rfl := h0_ d0_0
        obtain rfl := h1_ d1_1
        refine r_indexAddr sl_SiClause hk' ?_
        exact ⟨h0_, h1_, fun _ => rfl, h3_, h4_, h5_, h6_, h7_, hI⟩
      · intro D hD_ d2_0 x21 x20 x19 x18 x17 x16 x15 x14 w_
        rintro ⟨h0_, h1_, h2_, h3_, h4_, h5_, h6_, h7_, hI⟩
        obtain rfl := h2_ d2_0
        refine r_field fo_iClause_0 ?_
        exact ⟨h0_, h1_, h2_, fun _ => rfl, h4_, h5_, h6_, h7_, hI⟩
      · intro D hD_ d3_0 x21 x20 x19 x18 x17 x16 x15 x14 w_
        rintro ⟨h0_, h1_, h2_, h3_, h4_, h5_, h6_, h7_, hI⟩
        obtain rfl := h3_ d3_0
        refine r_loadA (cs := [.int .i64 p[k].head.kind, .int .i64 p[k].head.n, .string p[k].head.name, kv]) ag_iTerm rfl (fun j v hj => by rw [hI.cellS hS]; exact cellsAt_get hcs j v (by match j, hj with | 0, hj => exact hj | 1, hj => exact hj | 2, hj => exact hj | 3, hj => exact hj | j + 4, hj => simp at hj)) ?_
        exact ⟨h0_, h1_, h2_, h3_, fun _ => rfl, h5_, h6_, h7_, hI⟩
      · intro D hD_ d4_0 x21 x20 x19 x18 x17 x16 x15 x14 w_
        rintro ⟨h0_, h1_, h2_, h3_, h4_, h5_, h6_, h7_, hI⟩
        obtain rfl := h4_ d4_0
        refine Run.callPure fn_s_l14Of nm_s_l14Of hI (s_l14Of_calls h1) fun w_ hI => ?_
        exact ⟨h0_, h1_, h2_, h3_, h4_, fun _ => rfl, h6_, h7_, hI⟩
      · intro D hD_  x21 x20 x19 x18 x17 x16 x15 x14 w_
        rintro ⟨h0_, h1_, h2_, h3_, h4_, h5_, h6_, h7_, hI⟩
        refine r_loadW hI 0 ag_iPred rfl rfl ?_
        exact ⟨h0_, h1_, h2_, h3_, h4_, h5_, fun _ => rfl, h7_, hI⟩
      · intro D hD_ d5_0 d6_1 x21 x20 x19 x18 x17 x16 x15 x14 w_
        rintro ⟨h0_, h1_, h2_, h3_, h4_, h5_, h6_, h7_, hI⟩
        obtain rfl := h5_ d5_0
        obtain rfl := h6_ d6_1
        refine r_peql ?_
        exact ⟨h0_, h1_, h2_, h3_, h4_, h5_, h6_, fun _ => rfl, hI⟩
      intro D d7_ d6_ d5_ d4_ d3_ d2_ d1_ d0_ x21 x20 x19 x18 x17 x16 x15 x14 w_
      rintro ⟨h0_, h1_, h2_, h3_, h4_, h5_, h6_, h7_, hI⟩
      obtain rfl := h7_ d7_
      obtain rfl := h6_ d6_
      obtain rfl := h5_ d5_
      obtain rfl := h4_ d4_
      obtain rfl := h3_ d3_
      obtain rfl := h2_ d2_
      obtain rfl := h1_ d1_
      obtain rfl := h0_ d0_
      clear h0_ h1_ h2_ h3_ h4_ h5_ h6_ h7_
      refine condV (fun hb => ?_) (fun hb => ?_)
      · refine r_indexAddr sl_SiClause hk' ?_
        refine r_field fo_iClause_1 ?_
        refine r_load sc_SiTerm (by rw [hI.cellS hS]; exact cellsAt_get hcs 4 _ rfl) ?_
        refine Run.call (A := [_]) fn_s_l14Goals nm_s_l14Goals hI (s_l14Goals_calls l h2 (by omega)) fun v' I' S' w' => ?_
        rintro ⟨rfl, rfl⟩ _ hI
        rw [if_pos hb]
        exact hI
      · rw [if_neg (by rw [hb]; decide)]
        exact hI
    · intro t5 _ _ _ _ _ _ _ _ _ _ _ _ _ _ _ w' hI
      refine r_add (by omega) ?_
      refine ⟨⟨k + 1, _, hk', rfl, hrel, ?_, hI⟩, by simp [intOf]; omega⟩
      split <;> omega
  · have : k = p.length := by omega
    subst this
    rw [List.drop_length] at hrel
    have hrel : l = callsP p ⟨xs, xn⟩ := hrel
    rw [← hrel]
    exact ⟨_, _, _, rfl, hI.pick [false, true], Ext.refl _ _ _, rfl, rfl⟩

/- the program's side goes over the clauses' numbers -/
def callsAt (p : List C) (l : List Pd) (ns : List Int) : List Pd := ns.foldl (fun l n => match p[n.toNat]? with | some c => goalsP l c.body | none => l) l
theorem callsAt_pos (p : List C) (x : Pd) : ∀ (q : List C) (k : Nat) (l : List Pd), p.drop k = q → callsAt p l (posOf (fun c => eqPd (predT c.head) x) q k) = callsFrom l q x
  | [], k, l, _ => rfl
  | c :: q, k, l, e => by
    have hk : k < p.length := by
      have : (p.drop k).length = (c :: q).length := by rw [e]
      simp at this; omega
    have hc : p[k]? = some c := by
      have := List.drop_eq_getElem_cons hk
      rw [e] at this
      rw [List.getElem?_eq_getElem hk]
      simp only [List.cons.injEq] at this
      rw [← this.1]
    have e' : p.drop (k + 1) = q := by rw [← List.drop_drop, e]; rfl
    have hrec := callsAt_pos p x q (k + 1)
    rw [posOf]
    by_cases hx : eqPd (predT c.head) x = true
    · rw [if_pos hx]
      have : callsAt p l ((k : Int) :: posOf (fun c => eqPd (predT c.head) x) q (k + 1)) = callsAt p (goalsP l c.body) (posOf (fun c => eqPd (predT c.head) x) q (k + 1)) := by
        simp only [callsAt, List.foldl_cons, Int.toNat_natCast, hc]
      rw [this, hrec _ e']
      show _ = callsFrom (if eqPd (predT c.head) x = true then goalsP l c.body else l) q x
      rw [if_pos hx]
    · rw [if_neg hx, hrec _ e']
      show _ = callsFrom (if eqPd (predT c.head) x = true then goalsP l c.body else l) q x
      rw [if_neg hx]
def bodiesN (p : List C) (ns : List Int) : Nat := (ns.map fun n => match p[n.toNat]? with | some c => c.body.length | none => 0).sum
theorem bodiesN_pos (p : List C) (f : C → Bool) : ∀ (q : List C) (k : Nat), p.drop k = q → bodiesN p (posOf f q k) ≤ (gPs q).length
  | [], k, _ => Nat.zero_le _
  | c :: q, k, e => by
    have hk : k < p.length := by
      have : (p.drop k).length = (c :: q).length := by rw [e]
      simp at this; omega
    have hc : p[k]? = some c := by
      have := List.drop_eq_getElem_cons hk
      rw [e] at this
      rw [List.getElem?_eq_getElem hk]
      simp only [List.cons.injEq] at this
      rw [← this.1]
    have e' : p.drop (k + 1) = q := by rw [← List.drop_drop, e]; rfl
    have hrec := bodiesN_pos p f q (k + 1) e'
    rw [posOf, gPs_cons]
    split
    · have : bodiesN p ((k : Int) :: posOf f q (k + 1)) = c.body.length + bodiesN p (posOf f q (k + 1)) := by
        simp only [bodiesN, List.map_cons, List.sum_cons, Int.toNat_natCast, hc]
      omega
    · omega

theorem i_callsOf_calls {p : List C} {S : Store} {v : Value} (x : Pd) (h : RdSl S 5 (RdC S) v p) (hp : p.length ≤ 1100000) (hw : wP p ≤ 1100000) : Tri Tryz.prog n_i_callsOf [v, .agg x.cells.toArray] [] S (PostP S (callsP p x)) := by
  intro w hI
  have hg := gPs_le p
  have hcall := callsAt_pos p x p 0 [] rfl
  have hb := bodiesN_pos p (fun c => eqPd (predT c.head) x) p 0 rfl
  have hn := posOf_len (fun c => eqPd (predT c.head) x) p 0
  have hat := posOf_at (fun c => eqPd (predT c.head) x) p 0
  obtain ⟨xs, xn⟩ := x
  refine calls_i_callsOf ?_
  unfold sh_i_callsOf
  refine r_box hI fun b3 w' hI => ?_
  refine r_loadW hI 0 ag_iPred rfl rfl ?_
  refine Run.call0 fn_i_clausesFor nm_i_clausesFor hI (clausesFor_calls ⟨xs, xn⟩ h (by omega)) fun v1 I' S2 w_ => ?_
  rintro ⟨rfl, rfl⟩ _ hI
  generalize posOf (fun c => eqPd (predT c.head) ⟨xs, xn⟩) p 0 = ns at hcall hb hn hat hI
  have hI : Inv w [] ([.blk b3 (.cells #[.string xs, .int .i64 xn] t_iPred)] ++ [rowI v1 ns]) S2 w_ := hI
  obtain ⟨S1, hle, hrd, hI, _⟩ := hI.lend
  have hr := hrd.ints
  have h' := h.monoC hle
  refine r_lenSl hr sl_Sint ?_
  refine ⟨fun i t w' => ∃ (k : Nat) (l : List Pd), k ≤ ns.length ∧ i = .int .i64 k ∧ callsAt p l (ns.drop k) = callsP p ⟨xs, xn⟩ ∧ l.length + bodiesN p (ns.drop k) ≤ 1100000 ∧
      Inv w [] [.blk b3 (.cells #[.string xs, .int .i64 xn] t_iPred), rowP t l] S1 w', fun i _ _ => ns.length - (intOf i).toNat, ⟨0, [], Nat.zero_le _, rfl, hcall, by simp; omega, hI.rowNil t_iPred 2⟩, ?_⟩
  intro t12 _ t5 _ _ _ _ _ _ _ _ _ _ _ w'
  rintro ⟨k, l, hk, rfl, hrel, hl, hI⟩
  refine r_lss ?_
  refine condP (fun hki => ?_) (fun hki => ?_)
  · have hk' : k < ns.length := by omega
    obtain ⟨j, _, hj0, hj, _⟩ := hat ns[k] (List.getElem_mem hk')
    have hj0 : ns[k] = (j : Int) := by omega
    rw [List.drop_eq_getElem_cons hk'] at hrel hl
    have hpj : p[ns[k].toNat]? = some p[j] := by rw [hj0, Int.toNat_natCast, List.getElem?_eq_getElem hj]
    have hrel : callsAt p (goalsP l p[j].body) (ns.drop (k + 1)) = callsP p ⟨xs, xn⟩ := by
      rw [← hrel]
      simp only [callsAt, List.foldl_cons, hpj]
    have hl : l.length + (p[j].body.length + bodiesN p (ns.drop (k + 1))) ≤ 1100000 := by
      simp only [bodiesN, List.map_cons, List.sum_cons, hpj] at hl
      exact hl
    have hgl := goalsP_len p[j].body l
    refine r_elem1 hI hr sl_Sint sc_int hk' (fun cs hcs => hcs) ?_
    rw [hj0]
    obtain ⟨b, o, cap, c, E, fz, rfl, hS, hR⟩ := h'.at_ hj
    obtain ⟨hd, ks2, hcs, h1, h2⟩ := hR
    obtain ⟨kv, rfl, _⟩ := RdT.iff.1 h1
    refine r_indexAddr sl_SiClause hj ?_
    refine r_field fo_iClause_1 ?_
    refine r_load sc_SiTerm (by rw [hI.cellS hS]; exact cellsAt_get hcs 4 _ rfl) ?_
    refine Run.call (A := [_]) fn_i_called nm_i_called hI (i_called_calls l h2 (by omega)) fun v' I' S' w' => ?_
    rintro ⟨rfl, rfl⟩ _ hI
    refine r_add (by omega) ?_
    exact ⟨⟨k + 1, _, hk', rfl, hrel, by omega, hI⟩, by simp [intOf]; omega⟩
  · have : k = ns.length := by omega
    subst this
    rw [List.drop_length] at hrel
    have hrel : l = callsP p ⟨xs, xn⟩ := hrel
    rw [← hrel]
    exact ⟨_, _, _, rfl, (hI.less hle).pick [false, true], Ext.refl _ _ _, rfl, rfl⟩

end Go.Proofs.YtmnnpgdeecnfpaaGreat

/- What some predicates can lead to: both sides. -/
namespace Go.Proofs.YtmnnpgdeecnfpaaGreat
open Go Go.RowKit
attribute [local irreducible] Run CondV GuardV LoadV

theorem reachF_end (n : Nat) (p : List C) (l : List Pd) (i : Nat) (h : ¬ i < l.length) : reachF n p l i = l := by
  cases n with
  | zero => rfl
  | succ n => rw [reachF, dif_neg h]
theorem addP_ge (l : List Pd) (x : Pd) : l.length ≤ (addP l x).length := by
  unfold addP
  split
  · exact Nat.le_refl _
  · simp
theorem s_l14Reach_calls {p : List C} {S : Store} {pv v : Value} (l : List Pd) (h : RdSl S 5 (RdC S) pv p) (hp : p.length ≤ 1100000) (hw : wP p ≤ 1100000) (hl : l.length ≤ 1100000) :
    Tri Tryz.prog n_s_l14Reach [pv, v] [rowP v l] S (PostP S (reachP p l)) := by
  intro w hI
  have hg := gPs_le p
  have : p.length + wP p ≤ 2200000 := by omega
  obtain ⟨X, hX⟩ : ∃ X, X = feet [rowP v l] := ⟨_, rfl⟩
  rw [← hX] at hI ⊢
  refine calls_s_l14Reach ?_
  unfold sh_s_l14Reach
  obtain ⟨M, hM⟩ : ∃ M, M = l.length + (gPs p).length := ⟨_, rfl⟩
  have hr : reachP p l = reachF M p l 0 := by rw [reachP, hM]
  rw [hr]
  have hpot := pot_le (gPs p) l
  refine ⟨fun i t w' => ∃ (k : Nat) (m : List Pd), k ≤ m.length ∧ i = .int .i64 k ∧ reachF (M - k) p m k = reachF M p l 0 ∧ m.length + pot (gPs p) m ≤ M ∧ Inv w X [rowP t m] S w', fun i _ _ => M - (intOf i).toNat, ⟨0, l, Nat.zero_le _, rfl, rfl, by omega, hI⟩, ?_⟩
  intro t6 _ _ _ _ t5 _ _ _ _ _ _ _ _ _ _ _ _ _ _ _ _ _ _ _ _ _ _ w'
  rintro ⟨k, m, hk, rfl, hrel, hm, hI⟩
  refine r_lenRow hI 0 rfl sl_SiPred ?_
  refine r_lss ?_
  refine condP (fun hki => ?_) (fun hki => ?_)
  · have hk' : k < m.length := by omega
    obtain ⟨n, hn⟩ : ∃ n, M - k = n + 1 := ⟨M - k - 1, by omega⟩
    rw [hn, reachF, dif_pos hk'] at hrel
    refine r_elemRow hI 0 rfl sl_SiPred ag_iPred hk' ?_
    have hc := callsP_len p m[k]
    have hcm : ∀ y ∈ callsP p m[k], y ∈ gPs p := fun y hy => callsP_mem hy
    have hcalls : ∀ x : Pd, Tri Tryz.prog n_s_l14Calls [pv, .agg x.cells.toArray] [] S (PostP S (callsP p x)) := fun x => s_l14Calls_calls x h hw
    refine Run.call0 fn_s_l14Calls nm_s_l14Calls hI (hcalls m[k]) fun u I' S2 w' => ?_
    rintro ⟨rfl, rfl⟩ _ hI
    generalize callsP p m[k] = cs at hc hcm hrel hI
    have hI := hI.perm (M := [rowP u cs, rowP t5 m]) (List.Perm.swap _ _ _)
    refine ⟨fun i t w' => ∃ (j : Nat) (m' : List Pd), j ≤ cs.length ∧ i = .int .i64 j ∧ addAll m' (cs.drop j) = addAll m cs ∧ m'.length + pot (gPs p) m' ≤ M ∧ m.length ≤ m'.length ∧ Inv w X [rowP u cs, rowP t m'] S2 w', fun i _ _ => cs.length - (intOf i).toNat, ⟨0, m, Nat.zero_le _, rfl, rfl, hm, Nat.le_refl _, hI⟩, ?_⟩
    intro t8 _ _ t5 _ _ _ _ _ _ _ _ _ _ w'
    rintro ⟨j, m', hj, rfl, hrel2, hm', hmm, hI⟩
    refine r_lenRow hI 0 rfl sl_SiPred ?_
    refine r_lss ?_
    refine condP (fun hji => ?_) (fun hji => ?_)
    · have hj' : j < cs.length := by omega
      rw [addAll_drop m' cs j hj'] at hrel2
      have hpp := addP_pot (l := m') (hcm _ (List.getElem_mem hj'))
      have hge := addP_ge m' cs[j]
      refine r_elemRow hI 0 rfl sl_SiPred ag_iPred hj' ?_
      refine Run.call (A := [_]) fn_s_l14Add nm_s_l14Add hI (l14Add_calls cs[j] m' t5 S2 (by omega)) fun v' I' S3 w' => ?_
      rintro ⟨rfl, rfl⟩ _ hI
      refine r_add (by omega) ?_
      exact ⟨⟨j + 1, _, hj', rfl, hrel2, by omega, by omega, hI⟩, by simp [intOf]; omega⟩
    · have : j = cs.length := by omega
      subst this
      rw [List.drop_length] at hrel2
      have hrel2 : m' = addAll m cs := hrel2
      subst hrel2
      refine r_add (by omega) ?_
      exact ⟨⟨k + 1, _, by omega, rfl, by rw [show M - (k + 1) = n by omega]; exact hrel, hm', hI.pick [false, true]⟩, by simp [intOf]; omega⟩
  · have : k = m.length := by omega
    rw [reachF_end _ _ _ _ (by omega)] at hrel
    rw [← hrel]
    exact ⟨_, _, _, rfl, hI, Ext.refl _ _ _, rfl, rfl⟩
theorem i_reach_calls {p : List C} {S : Store} {pv v : Value} (l : List Pd) (h : RdSl S 5 (RdC S) pv p) (hp : p.length ≤ 1100000) (hw : wP p ≤ 1100000) (hl : l.length ≤ 1100000) :
    Tri Tryz.prog n_i_reach [pv, v] [rowP v l] S (PostP S (reachP p l)) := by
  intro w hI
  have hg := gPs_le p
  have : p.length + wP p ≤ 2200000 := by omega
  obtain ⟨X, hX⟩ : ∃ X, X = feet [rowP v l] := ⟨_, rfl⟩
  rw [← hX] at hI ⊢
  refine calls_i_reach ?_
  unfold sh_i_reach
  obtain ⟨M, hM⟩ : ∃ M, M = l.length + (gPs p).length := ⟨_, rfl⟩
  have hr : reachP p l = reachF M p l 0 := by rw [reachP, hM]
  rw [hr]
  have hpot := pot_le (gPs p) l
  refine ⟨fun i t w' => ∃ (k : Nat) (m : List Pd), k ≤ m.length ∧ i = .int .i64 k ∧ reachF (M - k) p m k = reachF M p l 0 ∧ m.length + pot (gPs p) m ≤ M ∧ Inv w X [rowP t m] S w', fun i _ _ => M - (intOf i).toNat, ⟨0, l, Nat.zero_le _, rfl, rfl, by omega, hI⟩, ?_⟩
  intro t5 _ _ _ t1 _ _ _ _ _ _ _ _ _ _ _ _ _ _ _ _ _ _ _ w'
  rintro ⟨k, m, hk, rfl, hrel, hm, hI⟩
  refine r_lenRow hI 0 rfl sl_SiPred ?_
  refine r_lss ?_
  refine condP (fun hki => ?_) (fun hki => ?_)
  · have hk' : k < m.length := by omega
    obtain ⟨n, hn⟩ : ∃ n, M - k = n + 1 := ⟨M - k - 1, by omega⟩
    rw [hn, reachF, dif_pos hk'] at hrel
    refine r_elemRow hI 0 rfl sl_SiPred ag_iPred hk' ?_
    have hc := callsP_len p m[k]
    have hcm : ∀ y ∈ callsP p m[k], y ∈ gPs p := fun y hy => callsP_mem hy
    have hcalls : ∀ x : Pd, Tri Tryz.prog n_i_callsOf [pv, .agg x.cells.toArray] [] S (PostP S (callsP p x)) := fun x => i_callsOf_calls x h hp hw
    refine Run.call0 fn_i_callsOf nm_i_callsOf hI (hcalls m[k]) fun u I' S2 w' => ?_
    rintro ⟨rfl, rfl⟩ _ hI
    generalize callsP p m[k] = cs at hc hcm hrel hI
    have hI := hI.perm (M := [rowP u cs, rowP t1 m]) (List.Perm.swap _ _ _)
    refine r_lenRow hI 0 rfl sl_SiPred ?_
    refine ⟨fun i t w' => ∃ (j : Nat) (m' : List Pd), j ≤ cs.length ∧ i = .int .i64 j ∧ addAll m' (cs.drop j) = addAll m cs ∧ m'.length + pot (gPs p) m' ≤ M ∧ m.length ≤ m'.length ∧ Inv w X [rowP u cs, rowP t m'] S2 w', fun i _ _ => cs.length - (intOf i).toNat, ⟨0, m, Nat.zero_le _, rfl, rfl, hm, Nat.le_refl _, hI⟩, ?_⟩
    intro t21 _ t1 _ _ _ _ _ _ _ w'
    rintro ⟨j, m', hj, rfl, hrel2, hm', hmm, hI⟩
    refine r_lss ?_
    refine condP (fun hji => ?_) (fun hji => ?_)
    · have hj' : j < cs.length := by omega
      rw [addAll_drop m' cs j hj'] at hrel2
      have hpp := addP_pot (l := m') (hcm _ (List.getElem_mem hj'))
      have hge := addP_ge m' cs[j]
      refine r_elemRow hI 0 rfl sl_SiPred ag_iPred hj' ?_
      refine r_alloc hI zo_iPred fun b7 w' hI => ?_
      refine r_storeW hI 2 rfl ag_iPred rfl rfl (by simp [Pd.cells, Value.oneCell']) fun w' hI => ?_
      refine r_loadW hI 2 ag_iPred rfl rfl ?_
      have hI := hI.pick [true, true, false]
      refine Run.call (A := [_]) fn_i_addPred nm_i_addPred hI (addPred_calls cs[j] m' t1 S2 (by omega)) fun v' I' S3 w' => ?_
      rintro ⟨rfl, rfl⟩ _ hI
      refine r_add (by omega) ?_
      exact ⟨⟨j + 1, _, hj', rfl, hrel2, by omega, by omega, hI⟩, by simp [intOf]; omega⟩
    · have : j = cs.length := by omega
      subst this
      rw [List.drop_length] at hrel2
      have hrel2 : m' = addAll m cs := hrel2
      subst hrel2
      refine r_add (by omega) ?_
      exact ⟨⟨k + 1, _, by omega, rfl, by rw [show M - (k + 1) = n by omega]; exact hrel, hm', hI.pick [false, true]⟩, by simp [intOf]; omega⟩
  · have : k = m.length := by omega
    rw [reachF_end _ _ _ _ (by omega)] at hrel
    rw [← hrel]
    exact ⟨_, _, _, rfl, hI, Ext.refl _ _ _, rfl, rfl⟩

end Go.Proofs.YtmnnpgdeecnfpaaGreat

/- Which predicates can lead to themselves: both sides. -/
namespace Go.Proofs.YtmnnpgdeecnfpaaGreat
open Go Go.RowKit
attribute [local irreducible] Run CondV GuardV LoadV

end Go.Proofs.YtmnnpgdeecnfpaaGreat

/- PredsOf, CallsOf, ReachOf: both sides. -/
namespace Go.Proofs.YtmnnpgdeecnfpaaGreat
open Go Go.RowKit
attribute [local irreducible] Run CondV GuardV LoadV

def callsOf (p : List C) (x : Pd) : List Pd := if progB p = true then callsP p x else []
def reachOf (p : List C) (q : List T) : List Pd := if (progB p && queryB q) = true then reachP p (goalsP [] q) else []
theorem i_CallsOf_calls {p : List C} {S : Store} {v : Value} (x : Pd) (h : RdSl S 5 (RdC S) v p) (hw : p.length + wP p ≤ 1048576) : Tri Tryz.prog n_i_CallsOf [v, .agg x.cells.toArray] [] S (PostP S (callsOf p x)) := by
  intro w hI
  obtain ⟨xs, xn⟩ := x
  refine calls_i_CallsOf ?_
  unfold sh_i_CallsOf
  refine r_box hI fun b3 w' hI => ?_
  refine Run.callPure fn_i_ProgramValid nm_i_ProgramValid hI (iProgramValid_calls h) fun w' hI => ?_
  refine r_not ?_
  refine condV (fun hb => ?_) (fun hb => ?_)
  · rw [callsOf, if_neg (by simp at hb; simp [hb])]
    exact ⟨_, _, _, rfl, (hI.rowNil t_iPred 2).pick [false, true], Ext.refl _ _ _, rfl, rfl⟩
  · rw [callsOf, if_pos (by simpa using hb)]
    refine r_loadW hI 0 ag_iPred rfl rfl ?_
    refine Run.call0 fn_i_callsOf nm_i_callsOf hI (i_callsOf_calls ⟨xs, xn⟩ h (by omega) (by omega)) fun v' I' S' w' => ?_
    rintro ⟨rfl, rfl⟩ _ hI
    exact ⟨_, _, _, rfl, hI.pick [false, true], Ext.refl _ _ _, rfl, rfl⟩

theorem s_ReachOf_calls {p : List C} {q : List T} {S : Store} {v u : Value} (h : RdSl S 5 (RdC S) v p) (hq : RdSl S 4 (RdT S) u q) (hw : p.length + wP p ≤ 1048576) (hw2 : q.length + wL q ≤ 1048576) : Tri Tryz.prog n_s_ReachOf [v, u] [] S (PostP S (reachOf p q)) := by
  intro w hI
  have hgl := goalsP_len q []
  refine calls_s_ReachOf ?_
  unfold sh_s_ReachOf
  refine ⟨fun t w' => t = .bool (!(progB p && queryB q)) ∧ Inv w [] [] S w', ?_, ?_⟩
  · refine Run.callPure fn_s_ProgramValid nm_s_ProgramValid hI (s_ProgramValid_calls h (by omega)) fun w' hI => ?_
    refine r_not ?_
    cases hv : progB p
    · repeat (first | refine guard_true ?_ | refine guard_ne (by decide) ?_ | refine guard_undef ?_ | refine r_pickT ?_ | refine r_pickF ?_)
      exact ⟨rfl, hI⟩
    · repeat (first | refine guard_true ?_ | refine guard_ne (by decide) ?_ | refine guard_undef ?_ | refine r_pickT ?_ | refine r_pickF ?_)
      refine Run.callPure fn_s_QueryValid nm_s_QueryValid hI (s_QueryValid_calls hq (by omega)) fun w' hI => ?_
      refine r_not ?_
      repeat (first | refine guard_true ?_ | refine guard_ne (by decide) ?_ | refine guard_undef ?_ | refine r_pickT ?_ | refine r_pickF ?_)
      exact ⟨rfl, hI⟩
  intro t _ _ _ _ _ _ _ w'
  rintro ⟨rfl, hI⟩
  refine condV (fun hb => ?_) (fun hb => ?_)
  · rw [reachOf, if_neg (by rw [Bool.not_eq_true'] at hb; rw [hb]; decide)]
    refine r_slice0 hI mk_SiPred fun v0 w' hI => ?_
    exact ⟨_, _, _, rfl, hI, Ext.refl _ _ _, rfl, rfl⟩
  · rw [reachOf, if_pos (by simpa using hb)]
    refine r_slice0 hI mk_SiPred fun v0 w' hI => ?_
    refine Run.call (A := []) fn_s_l14Goals nm_s_l14Goals hI (s_l14Goals_calls [] hq (by simp; omega)) fun v' I' S' w' => ?_
    rintro ⟨rfl, rfl⟩ _ hI
    refine Run.call (A := []) fn_s_l14Reach nm_s_l14Reach hI (s_l14Reach_calls (goalsP [] q) h (by omega) (by omega) (by simp at hgl; omega)) fun v' I' S' w' => ?_
    rintro ⟨rfl, rfl⟩ _ hI
    exact ⟨_, _, _, rfl, hI, Ext.refl _ _ _, rfl, rfl⟩
theorem i_ReachOf_calls {p : List C} {q : List T} {S : Store} {v u : Value} (h : RdSl S 5 (RdC S) v p) (hq : RdSl S 4 (RdT S) u q) (hw : p.length + wP p ≤ 1048576) (hw2 : q.length + wL q ≤ 1048576) : Tri Tryz.prog n_i_ReachOf [v, u] [] S (PostP S (reachOf p q)) := by
  intro w hI
  have hgl := goalsP_len q []
  refine calls_i_ReachOf ?_
  unfold sh_i_ReachOf
  refine ⟨fun t w' => t = .bool (!(progB p && queryB q)) ∧ Inv w [] [] S w', ?_, ?_⟩
  · refine Run.callPure fn_i_ProgramValid nm_i_ProgramValid hI (iProgramValid_calls h) fun w' hI => ?_
    refine r_not ?_
    cases hv : progB p
    · repeat (first | refine guard_true ?_ | refine guard_ne (by decide) ?_ | refine guard_undef ?_ | refine r_pickT ?_ | refine r_pickF ?_)
      exact ⟨rfl, hI⟩
    · repeat (first | refine guard_true ?_ | refine guard_ne (by decide) ?_ | refine guard_undef ?_ | refine r_pickT ?_ | refine r_pickF ?_)
      refine Run.callPure fn_i_QueryValid nm_i_QueryValid hI (iQueryValid_calls hq) fun w' hI => ?_
      refine r_not ?_
      repeat (first | refine guard_true ?_ | refine guard_ne (by decide) ?_ | refine guard_undef ?_ | refine r_pickT ?_ | refine r_pickF ?_)
      exact ⟨rfl, hI⟩
  intro t _ _ _ _ _ _ _ w'
  rintro ⟨rfl, hI⟩
  refine condV (fun hb => ?_) (fun hb => ?_)
  · rw [reachOf, if_neg (by rw [Bool.not_eq_true'] at hb; rw [hb]; decide)]
    exact ⟨_, _, _, rfl, hI.rowNil t_iPred 2, Ext.refl _ _ _, rfl, rfl⟩
  · rw [reachOf, if_pos (by simpa using hb)]
    refine Run.call (A := []) fn_i_called nm_i_called (hI.rowNil t_iPred 2) (i_called_calls [] hq (by simp; omega)) fun v' I' S' w' => ?_
    rintro ⟨rfl, rfl⟩ _ hI
    refine Run.call (A := []) fn_i_reach nm_i_reach hI (i_reach_calls (goalsP [] q) h (by omega) (by omega) (by simp at hgl; omega)) fun v' I' S' w' => ?_
    rintro ⟨rfl, rfl⟩ _ hI
    exact ⟨_, _, _, rfl, hI, Ext.refl _ _ _, rfl, rfl⟩

end Go.Proofs.YtmnnpgdeecnfpaaGreat

/- A predicate that comes in: its size, its copy, its reading. -/
namespace Go.Proofs.YtmnnpgdeecnfpaaGreat
open Go Go.ChangeShapes Go.WideShapes Go.ChangeAt Go.RowKit
section
attribute [local irreducible] Run CondV GuardV LoadV
end
theorem two {cs : List Value} (h : cs.length = 2) : ∃ a b, cs = [a, b] := by
  match cs, h with
  | [a, b], _ => exact ⟨a, b, rfl⟩
end Go.Proofs.YtmnnpgdeecnfpaaGreat

/- spec.l14Pred, DrawPredsOf, DrawCallsOf, DrawRecursivePred. -/
namespace Go.Proofs.YtmnnpgdeecnfpaaGreat
open Go Go.RowKit
theorem RdSl.monoP {S S' : Store} {v : Value} {ys : List Pd} (hs : Sle S S') (h : RdSl S 2 RdPd v ys) : RdSl S' 2 RdPd v ys := h.mono hs fun _ _ h => h
section
variable {br : Nat} {sl : Value} {ys : List Nat}
attribute [local irreducible] Run CondV GuardV LoadV
theorem Pd.one (x : Pd) : ∀ u ∈ x.cells, u.oneCell' = true := by
  intro u hu
  have hu' : u ∈ ([.string x.name, .int .i64 x.arity] : List Value) := hu
  simp at hu'
  rcases hu' with rfl | rfl <;> rfl
end
end Go.Proofs.YtmnnpgdeecnfpaaGreat

/- Whether terms are the same: both sides. -/
namespace Go.Proofs.YtmnnpgdeecnfpaaGreat
open Go Go.RowKit
attribute [local irreducible] Run CondV GuardV LoadV

end Go.Proofs.YtmnnpgdeecnfpaaGreat

/- Whether terms are the same: the program's side. -/
namespace Go.Proofs.YtmnnpgdeecnfpaaGreat
open Go Go.RowKit
attribute [local irreducible] Run CondV GuardV LoadV

end Go.Proofs.YtmnnpgdeecnfpaaGreat

/- What the laws compare with: pgPreds, pgPred, impl.ClauseSame, pgClauses; bytes that come in. -/
namespace Go.Proofs.YtmnnpgdeecnfpaaGreat
open Go Go.ChangeShapes Go.WideShapes Go.ChangeAt Go.RowKit
theorem un_u8 : Tryz.prog.underlying t_uint8 = some (.int .u8) := by kernel_rfl
theorem trod_u8 {H : Type} {enc : TypeId × Value → H} {W : World} {sp : Nat → Bool} {held : Bool} {fuel : Nat} {cs : List Value} {x : DataW H × List MemPlace} (h : DataW.trod enc Tryz.prog W 0 sp held fuel t_uint8 cs = some x) :
    ∃ n, RdU8 cs n := by
  cases fuel with
  | zero => simp [DataW.trod] at h
  | succ n =>
    unfold DataW.trod at h
    rw [un_u8] at h
    split at h <;> simp_all
    rename_i k1 k2 m he
    subst he
    obtain ⟨⟨_, h⟩, _⟩ := h
    simp only [Lit.wf, Bool.and_eq_true, decide_eq_true_eq] at h
    have h1 : 0 ≤ m ∧ m ≤ 255 := h
    exact ⟨m.toNat, by rw [RdU8, Int.toNat_of_nonneg (by omega)]; exact ⟨rfl, by omega⟩⟩
theorem trod_bytes {H : Type} {enc : TypeId × Value → H} {W : World} {sp : Nat → Bool} {held : Bool} {fuel : Nat} {v : Value} {x : DataW H × List MemPlace} (h : DataW.trod enc Tryz.prog W 0 sp held fuel t_Suint8 [v] = some x) :
    ∃ ys, RdSl (heapS W) 1 RdU8 v ys := trod_sl sl_Suint8 (by omega) h fun _ _ _ _ hy => trod_u8 hy
section
variable {w0 w : World} {X : List Nat} {L : List Item} {S : Store} {K : Value → World → Prop}
attribute [local irreducible] Run CondV GuardV LoadV
theorem pgPred_calls (x : Pd) {l : List Pd} {v : Value} (h : RdSl S 2 RdPd v l) : Pure Tryz.prog n_l_pgPred [v, .agg x.cells.toArray] S (.bool (hasP l x)) := by
  intro w hI
  have hlen := h.le
  simp only [maxLen] at hlen
  obtain ⟨xs, xn⟩ := x
  refine calls_l_pgPred ?_
  unfold sh_l_pgPred
  refine r_box hI fun b3 w' hI => ?_
  have hI : Inv w [] [.blk b3 (.cells #[.string xs, .int .i64 xn] t_iPred)] S w' := hI
  refine ⟨fun i w' => ∃ k : Nat, k ≤ l.length ∧ i = .int .i64 k ∧ hasP (l.drop k) ⟨xs, xn⟩ = hasP l ⟨xs, xn⟩ ∧ Inv w [] [.blk b3 (.cells #[.string xs, .int .i64 xn] t_iPred)] S w', fun i _ => l.length - (intOf i).toNat, ⟨0, Nat.zero_le _, rfl, rfl, hI⟩, ?_⟩
  intro t5 _ _ _ t17 t16 t15 t14 t13 t12 _ _ _ _ w'
  rintro ⟨k, hk, rfl, hrel, hI⟩
  refine r_lenSl h sl_SiPred ?_
  refine r_lss ?_
  refine condP (fun hki => ?_) (fun hki => ?_)
  · have hk' : k < l.length := by omega
    have hstep : hasP (l.drop k) ⟨xs, xn⟩ = (eqPd ⟨xs, xn⟩ l[k] || hasP (l.drop (k + 1)) ⟨xs, xn⟩) := any_drop _ l k hk'
    obtain ⟨b, o, cap, c, E, fz, rfl, hS, hR⟩ := h.at_ hk'
    have hR' : cellsAt c (o + k * 2) 2 = [.string l[k].name, .int .i64 l[k].arity] := hR
    refine ⟨fun D x17 x16 x15 x14 x13 x12 w_ => (D 0 = true → x12 = .slice (some ⟨b, o, none⟩) l.length cap) ∧ (D 1 = true → x13 = .int .i64 k) ∧ (D 2 = true → x14 = .pointer (some ⟨b, o + k * 2, none⟩)) ∧ (D 3 = true → x15 = .agg #[.string l[k].name, .int .i64 l[k].arity]) ∧ (D 4 = true → x16 = .agg #[.string xs, .int .i64 xn]) ∧ (D 5 = true → x17 = .bool (eqPd l[k] ⟨xs, xn⟩)) ∧ Inv w [] [.blk b3 (.cells #[.string xs, .int .i64 xn] t_iPred)] S w_, ⟨fun h => Bool.noConfusion h, fun h => Bool.noConfusion h, fun h => Bool.noConfusion h, fun h => Bool.noConfusion h, fun h => Bool.noConfusion h, fun h => Bool.noConfusion h, hI.draw⟩, ⟨?_, ?_, ?_, ?_, ?_, ?_, trivial⟩, ?_⟩
    · intro D hD_  x17 x16 x15 x14 x13 x12 w_
      rintro ⟨h0_, h1_, h2_, h3_, h4_, h5_, hI⟩
      exact ⟨fun _ => rfl, h1_, h2_, h3_, h4_, h5_, hI⟩
    · intro D hD_  x17 x16 x15 x14 x13 x12 w_
      rintro ⟨h0_, h1_, h2_, h3_, h4_, h5_, hI⟩
      exact ⟨h0_, fun _ => rfl, h2_, h3_, h4_, h5_, hI⟩
    · intro D hD_ d0_0 d1_1 x17 x16 x15 x14 x13 x12 w_
      rintro ⟨h0_, h1_, h2_, h3_, h4_, h5_, hI⟩
      obtain rfl := h0_ d0_0
      obtain rfl := h1_ d1_1
      refine r_indexAddr sl_SiPred hk' ?_
      exact ⟨h0_, h1_, fun _ => rfl, h3_, h4_, h5_, hI⟩
    · intro D hD_ d2_0 x17 x16 x15 x14 x13 x12 w_
      rintro ⟨h0_, h1_, h2_, h3_, h4_, h5_, hI⟩
      obtain rfl := h2_ d2_0
      refine r_loadA (cs := [.string l[k].name, .int .i64 l[k].arity]) ag_iPred rfl (fun j v hj => by rw [hI.cellS hS]; exact cellsAt_get hR' j v hj) ?_
      exact ⟨h0_, h1_, h2_, fun _ => rfl, h4_, h5_, hI⟩
    · intro D hD_  x17 x16 x15 x14 x13 x12 w_
      rintro ⟨h0_, h1_, h2_, h3_, h4_, h5_, hI⟩
      refine r_loadW hI 0 ag_iPred rfl rfl ?_
      exact ⟨h0_, h1_, h2_, h3_, fun _ => rfl, h5_, hI⟩
    · intro D hD_ d3_0 d4_1 x17 x16 x15 x14 x13 x12 w_
      rintro ⟨h0_, h1_, h2_, h3_, h4_, h5_, hI⟩
      obtain rfl := h3_ d3_0
      obtain rfl := h4_ d4_1
      refine r_peql ?_
      exact ⟨h0_, h1_, h2_, h3_, h4_, fun _ => rfl, hI⟩
    intro D d5_ d4_ d3_ d2_ d1_ d0_ x17 x16 x15 x14 x13 x12 w_
    rintro ⟨h0_, h1_, h2_, h3_, h4_, h5_, hI⟩
    obtain rfl := h5_ d5_
    obtain rfl := h4_ d4_
    obtain rfl := h3_ d3_
    obtain rfl := h2_ d2_
    obtain rfl := h1_ d1_
    obtain rfl := h0_ d0_
    clear h0_ h1_ h2_ h3_ h4_ h5_
    refine condV (fun hb => done hI ?_) (fun hb => ?_)
    · rw [← hrel, hstep, eqPd_comm, hb]; rfl
    · refine r_add (by omega) ?_
      exact ⟨⟨k + 1, hk', rfl, by rw [← hrel, hstep, eqPd_comm, hb]; rfl, hI⟩, by simp [intOf]; omega⟩
  · have : k = l.length := by omega
    subst this
    exact done hI (by rw [← hrel, List.drop_length]; rfl)
theorem run_pneq {cx cy : Bool} {s : ByteArray} {n : Int} : (sBin .neq t_iPred cx cy (.agg #[.string s, .int .i64 n]) (.agg #[.string s, .int .i64 n])).run Tryz.prog w = .ok (.value (.bool false)) w := by
  unfold sBin
  have e : (binOp .neq t_iPred (.agg #[.string s, .int .i64 n]) (.agg #[.string s, .int .i64 n])).run Tryz.prog w = .ok (.bool false) w := by
    have h := eq_iPred (w := w) s s n n
    rw [decide_eq_true rfl, decide_eq_true rfl] at h
    simp only [binOp, Op.equal, Op.maxDepth, Sem.run_bind]
    rw [h]
    rfl
  rw [Sem.run_bind, run_eqGuard_agg w .neq t_iPred _ _ _ _ guard_iPred, Result.andThen_ok, Sem.run_bind, e, Result.andThen_ok]
  rfl
theorem pgPreds_calls {l : List Pd} {u v : Value} (h : RdSl S 2 RdPd u l) (g : RdSl S 2 RdPd v l) : Pure Tryz.prog n_l_pgPreds [u, v] S (.bool true) := by
  intro w hI
  have hlen := h.le
  simp only [maxLen] at hlen
  refine calls_l_pgPreds ?_
  unfold sh_l_pgPreds
  refine r_lenSl h sl_SiPred ?_
  refine r_lenSl g sl_SiPred ?_
  refine r_neq ?_
  refine condV (fun hb => by simp at hb) (fun _ => ?_)
  refine ⟨fun i w' => ∃ k : Nat, k ≤ l.length ∧ i = .int .i64 k ∧ Inv w [] [] S w', fun i _ => l.length - (intOf i).toNat, ⟨0, Nat.zero_le _, rfl, hI⟩, ?_⟩
  intro t5 _ _ _ t25 t24 t23 t22 t21 t20 t19 t18 t17 _ _ _ _ w'
  rintro ⟨k, hk, rfl, hI⟩
  refine r_lenSl h sl_SiPred ?_
  refine r_lss ?_
  refine condP (fun hki => ?_) (fun hki => done hI rfl)
  have hk' : k < l.length := by omega
  obtain ⟨b, o, cap, c, E, fz, rfl, hS, hR⟩ := h.at_ hk'
  have hR1 : cellsAt c (o + k * 2) 2 = [.string l[k].name, .int .i64 l[k].arity] := hR
  obtain ⟨b2, o2, cap2, c2, E2, fz2, rfl, hS2, hR2⟩ := g.at_ hk'
  have hR2 : cellsAt c2 (o2 + k * 2) 2 = [.string l[k].name, .int .i64 l[k].arity] := hR2
  refine ⟨fun D x25 x24 x23 x22 x21 x20 x19 x18 x17 w_ => (D 0 = true → x17 = .slice (some ⟨b, o, none⟩) l.length cap) ∧ (D 1 = true → x18 = .int .i64 k) ∧ (D 2 = true → x19 = .pointer (some ⟨b, o + k * 2, none⟩)) ∧ (D 3 = true → x20 = .agg #[.string l[k].name, .int .i64 l[k].arity]) ∧ (D 4 = true → x21 = .slice (some ⟨b2, o2, none⟩) l.length cap2) ∧ (D 5 = true → x22 = .int .i64 k) ∧ (D 6 = true → x23 = .pointer (some ⟨b2, o2 + k * 2, none⟩)) ∧ (D 7 = true → x24 = .agg #[.string l[k].name, .int .i64 l[k].arity]) ∧ (D 8 = true → x25 = .bool false) ∧ Inv w [] [] S w_, ⟨fun h => Bool.noConfusion h, fun h => Bool.noConfusion h, fun h => Bool.noConfusion h, fun h => Bool.noConfusion h, fun h => Bool.noConfusion h, fun h => Bool.noConfusion h, fun h => Bool.noConfusion h, fun h => Bool.noConfusion h, fun h => Bool.noConfusion h, hI.draw⟩, ⟨?_, ?_, ?_, ?_, ?_, ?_, ?_, ?_, ?_, trivial⟩, ?_⟩
  · intro D hD_  x25 x24 x23 x22 x21 x20 x19 x18 x17 w_
    rintro ⟨h0_, h1_, h2_, h3_, h4_, h5_, h6_, h7_, h8_, hI⟩
    exact ⟨fun _ => rfl, h1_, h2_, h3_, h4_, h5_, h6_, h7_, h8_, hI⟩
  · intro D hD_  x25 x24 x23 x22 x21 x20 x19 x18 x17 w_
    rintro ⟨h0_, h1_, h2_, h3_, h4_, h5_, h6_, h7_, h8_, hI⟩
    exact ⟨h0_, fun _ => rfl, h2_, h3_, h4_, h5_, h6_, h7_, h8_, hI⟩
  · intro D hD_ d0_0 d1_1 x25 x24 x23 x22 x21 x20 x19 x18 x17 w_
    rintro ⟨h0_, h1_, h2_, h3_, h4_, h5_, h6_, h7_, h8_, hI⟩
    obtain rfl := h0_ d0_0
    obtain rfl := h1_ d1_1
    refine r_indexAddr sl_SiPred hk' ?_
    exact ⟨h0_, h1_, fun _ => rfl, h3_, h4_, h5_, h6_, h7_, h8_, hI⟩
  · intro D hD_ d2_0 x25 x24 x23 x22 x21 x20 x19 x18 x17 w_
    rintro ⟨h0_, h1_, h2_, h3_, h4_, h5_, h6_, h7_, h8_, hI⟩
    obtain rfl := h2_ d2_0
    refine r_loadA (cs := [.string l[k].name, .int .i64 l[k].arity]) ag_iPred rfl (fun j v hj => by rw [hI.cellS hS]; exact cellsAt_get hR1 j v hj) ?_
    exact ⟨h0_, h1_, h2_, fun _ => rfl, h4_, h5_, h6_, h7_, h8_, hI⟩
  · intro D hD_  x25 x24 x23 x22 x21 x20 x19 x18 x17 w_
    rintro ⟨h0_, h1_, h2_, h3_, h4_, h5_, h6_, h7_, h8_, hI⟩
    exact ⟨h0_, h1_, h2_, h3_, fun _ => rfl, h5_, h6_, h7_, h8_, hI⟩
  · intro D hD_  x25 x24 x23 x22 x21 x20 x19 x18 x17 w_
    rintro ⟨h0_, h1_, h2_, h3_, h4_, h5_, h6_, h7_, h8_, hI⟩
    exact ⟨h0_, h1_, h2_, h3_, h4_, fun _ => rfl, h6_, h7_, h8_, hI⟩
  · intro D hD_ d4_0 d5_1 x25 x24 x23 x22 x21 x20 x19 x18 x17 w_
    rintro ⟨h0_, h1_, h2_, h3_, h4_, h5_, h6_, h7_, h8_, hI⟩
    obtain rfl := h4_ d4_0
    obtain rfl := h5_ d5_1
    refine r_indexAddr sl_SiPred hk' ?_
    exact ⟨h0_, h1_, h2_, h3_, h4_, h5_, fun _ => rfl, h7_, h8_, hI⟩
  · intro D hD_ d6_0 x25 x24 x23 x22 x21 x20 x19 x18 x17 w_
    rintro ⟨h0_, h1_, h2_, h3_, h4_, h5_, h6_, h7_, h8_, hI⟩
    obtain rfl := h6_ d6_0
    refine r_loadA (cs := [.string l[k].name, .int .i64 l[k].arity]) ag_iPred rfl (fun j v hj => by rw [hI.cellS hS2]; exact cellsAt_get hR2 j v hj) ?_
    exact ⟨h0_, h1_, h2_, h3_, h4_, h5_, h6_, fun _ => rfl, h8_, hI⟩
  · intro D hD_ d3_0 d7_1 x25 x24 x23 x22 x21 x20 x19 x18 x17 w_
    rintro ⟨h0_, h1_, h2_, h3_, h4_, h5_, h6_, h7_, h8_, hI⟩
    obtain rfl := h3_ d3_0
    obtain rfl := h7_ d7_1
    refine Run.of run_pneq ?_
    exact ⟨h0_, h1_, h2_, h3_, h4_, h5_, h6_, h7_, fun _ => rfl, hI⟩
  intro D d8_ d7_ d6_ d5_ d4_ d3_ d2_ d1_ d0_ x25 x24 x23 x22 x21 x20 x19 x18 x17 w_
  rintro ⟨h0_, h1_, h2_, h3_, h4_, h5_, h6_, h7_, h8_, hI⟩
  obtain rfl := h8_ d8_
  obtain rfl := h7_ d7_
  obtain rfl := h6_ d6_
  obtain rfl := h5_ d5_
  obtain rfl := h4_ d4_
  obtain rfl := h3_ d3_
  obtain rfl := h2_ d2_
  obtain rfl := h1_ d1_
  obtain rfl := h0_ d0_
  clear h0_ h1_ h2_ h3_ h4_ h5_ h6_ h7_ h8_
  refine condV (fun hb => by cases hb) (fun _ => ?_)
  refine r_add (by omega) ?_
  exact ⟨⟨k + 1, hk', rfl, hI⟩, by simp [intOf]; omega⟩
end
end Go.Proofs.YtmnnpgdeecnfpaaGreat

/- MovePred: both sides. -/
namespace Go.Proofs.YtmnnpgdeecnfpaaGreat
open Go Go.RowKit
attribute [local irreducible] Run CondV GuardV LoadV

end Go.Proofs.YtmnnpgdeecnfpaaGreat

/- Plain laws on lists of predicates: who is in, nobody twice, reach is closed and least. No program in sight. -/
namespace Go.Proofs.YtmnnpgdeecnfpaaGreat
open Go Go.RowKit

theorem hasP_mem {l : List Pd} {x : Pd} : hasP l x = true ↔ x ∈ l := by
  simp [hasP, eqPd_iff]
theorem mem_addP {l : List Pd} {x y : Pd} : y ∈ addP l x ↔ y ∈ l ∨ y = x := by
  unfold addP
  split
  · rename_i h
    rw [hasP_mem] at h
    exact ⟨.inl, fun h' => h'.elim id fun e => e ▸ h⟩
  · simp
theorem nd_addP {l : List Pd} {x : Pd} (h : l.Nodup) : (addP l x).Nodup := by
  unfold addP
  split
  · exact h
  · rename_i hx
    rw [hasP_mem] at hx
    rw [List.nodup_append]
    refine ⟨h, by simp, fun a ha b hb e => ?_⟩
    simp at hb
    subst hb
    subst e
    exact hx ha
theorem addP_pre (l : List Pd) (x : Pd) : ∃ s, addP l x = l ++ s := by
  unfold addP
  split
  · exact ⟨[], by simp⟩
  · exact ⟨[x], rfl⟩
theorem mem_goalsP : ∀ (ts : List T) (l : List Pd) (y : Pd), y ∈ goalsP l ts ↔ y ∈ l ∨ ∃ t ∈ ts, plainB t = true ∧ predT t = y
  | [], l, y => by simp [goalsP]
  | t :: ts, l, y => by
    have e : goalsP l (t :: ts) = goalsP (if plainB t = true then addP l (predT t) else l) ts := rfl
    rw [e, mem_goalsP ts]
    split
    · rename_i h
      rw [mem_addP]
      constructor
      · rintro ((h1 | h1) | ⟨u, h1, h2⟩)
        · exact .inl h1
        · exact .inr ⟨t, List.mem_cons_self .., h, h1.symm⟩
        · exact .inr ⟨u, List.mem_cons_of_mem _ h1, h2⟩
      · rintro (h1 | ⟨u, h1, h2, h3⟩)
        · exact .inl (.inl h1)
        · rcases List.mem_cons.1 h1 with rfl | h1
          · exact .inl (.inr h3.symm)
          · exact .inr ⟨u, h1, h2, h3⟩
    · rename_i h
      constructor
      · rintro (h1 | ⟨u, h1, h2⟩)
        · exact .inl h1
        · exact .inr ⟨u, List.mem_cons_of_mem _ h1, h2⟩
      · rintro (h1 | ⟨u, h1, h2, h3⟩)
        · exact .inl h1
        · rcases List.mem_cons.1 h1 with rfl | h1
          · exact absurd h2 h
          · exact .inr ⟨u, h1, h2, h3⟩
theorem nd_goalsP : ∀ (ts : List T) (l : List Pd), l.Nodup → (goalsP l ts).Nodup
  | [], l, h => h
  | t :: ts, l, h => by
    have e : goalsP l (t :: ts) = goalsP (if plainB t = true then addP l (predT t) else l) ts := rfl
    rw [e]
    refine nd_goalsP ts _ ?_
    split
    · exact nd_addP h
    · exact h
theorem nodup_le {α : Type} [DecidableEq α] : ∀ {l m : List α}, l.Nodup → (∀ x ∈ l, x ∈ m) → l.length ≤ m.length
  | [], _, _, _ => Nat.zero_le _
  | x :: l, m, h, hs => by
    rw [List.nodup_cons] at h
    have hx := hs x (List.mem_cons_self ..)
    have h1 := nodup_le (l := l) (m := m.erase x) h.2 fun y hy => by
      have hne : y ≠ x := fun e => h.1 (e ▸ hy)
      exact (List.mem_erase_of_ne hne).2 (hs y (List.mem_cons_of_mem _ hy))
    rw [List.length_erase_of_mem hx] at h1
    have : 0 < m.length := List.length_pos_of_mem hx
    rw [List.length_cons]
    omega

/- reach -/
inductive Star (p : List C) (x : Pd) : Pd → Prop
  | refl : Star p x x
  | step {y z : Pd} : Star p x y → z ∈ callsP p y → Star p x z
theorem Star.trans {p : List C} {x y z : Pd} (h : Star p x y) (h' : Star p y z) : Star p x z := by
  induction h' with
  | refl => exact h
  | step _ hz ih => exact .step ih hz
theorem mem_addAll : ∀ (m l : List Pd) (y : Pd), y ∈ addAll l m ↔ y ∈ l ∨ y ∈ m
  | [], l, y => by simp [addAll]
  | x :: m, l, y => by
    have e : addAll l (x :: m) = addAll (addP l x) m := rfl
    rw [e, mem_addAll m, mem_addP, List.mem_cons]
    constructor
    · rintro ((h | h) | h)
      · exact .inl h
      · exact .inr (.inl h)
      · exact .inr (.inr h)
    · rintro (h | h | h)
      · exact .inl (.inl h)
      · exact .inl (.inr h)
      · exact .inr h
theorem nd_addAll : ∀ (m l : List Pd), l.Nodup → (addAll l m).Nodup
  | [], _, h => h
  | _ :: m, _, h => nd_addAll m _ (nd_addP h)
theorem pre_addAll : ∀ (m l : List Pd), ∃ s, addAll l m = l ++ s
  | [], l => ⟨[], by simp [addAll]⟩
  | x :: m, l => by
    obtain ⟨s, hs⟩ := addP_pre l x
    obtain ⟨s', hs'⟩ := pre_addAll m (addP l x)
    have e : addAll l (x :: m) = addAll (addP l x) m := rfl
    exact ⟨s ++ s', by rw [e, hs', hs, List.append_assoc]⟩
theorem pot_addAll {G : List Pd} : ∀ (m l : List Pd), (∀ x ∈ m, x ∈ G) → (addAll l m).length + pot G (addAll l m) ≤ l.length + pot G l
  | [], l, _ => Nat.le_refl _
  | x :: m, l, h => by
    have e : addAll l (x :: m) = addAll (addP l x) m := rfl
    have h1 := pot_addAll m (addP l x) fun y hy => h y (List.mem_cons_of_mem _ hy)
    have h2 := addP_pot (l := l) (h x (List.mem_cons_self ..))
    rw [e]
    omega
theorem reachF_spec (p : List C) : ∀ (n : Nat) (l : List Pd) (i : Nat), l.length + pot (gPs p) l ≤ n + i → (∀ j (h : j < l.length), j < i → ∀ z ∈ callsP p l[j], z ∈ l) → l.Nodup →
    (reachF n p l i).Nodup ∧ (∀ y ∈ reachF n p l i, ∃ x ∈ l, Star p x y) ∧ (∀ x ∈ l, x ∈ reachF n p l i) ∧ ∀ y ∈ reachF n p l i, ∀ z ∈ callsP p y, z ∈ reachF n p l i
  | 0, l, i, hn, hc, hd => by
    simp only [reachF]
    refine ⟨hd, fun y hy => ⟨y, hy, .refl⟩, fun x hx => hx, fun y hy z hz => ?_⟩
    obtain ⟨j, hj, rfl⟩ := List.mem_iff_getElem.1 hy
    exact hc j hj (by omega) z hz
  | n + 1, l, i, hn, hc, hd => by
    rw [reachF]
    split
    · rename_i hi
      have hp := pot_addAll (G := gPs p) (callsP p l[i]) l fun x hx => callsP_mem hx
      obtain ⟨s, hs⟩ := pre_addAll (callsP p l[i]) l
      obtain ⟨h1, h2, h3, h4⟩ := reachF_spec p n (addAll l (callsP p l[i])) (i + 1) (by omega) (fun j hj hji z hz => by
        rw [mem_addAll]
        have hjl : j < l.length := by omega
        have ej : (addAll l (callsP p l[i]))[j] = l[j] := by
          have : (addAll l (callsP p l[i]))[j]? = l[j]? := by rw [hs, List.getElem?_append_left hjl]
          rw [List.getElem?_eq_getElem hj, List.getElem?_eq_getElem hjl] at this
          exact Option.some.inj this
        rw [ej] at hz
        by_cases e : j = i
        · subst e; exact .inr hz
        · exact .inl (hc j hjl (by omega) z hz)) (nd_addAll _ _ hd)
      refine ⟨h1, fun y hy => ?_, fun x hx => h3 x ((mem_addAll _ _ _).2 (.inl hx)), h4⟩
      obtain ⟨x, hx, hxy⟩ := h2 y hy
      rcases (mem_addAll _ _ _).1 hx with hx | hx
      · exact ⟨x, hx, hxy⟩
      · exact ⟨l[i], List.getElem_mem hi, Star.trans (.step .refl hx) hxy⟩
    · refine ⟨hd, fun y hy => ⟨y, hy, .refl⟩, fun x hx => hx, fun y hy z hz => ?_⟩
      obtain ⟨j, hj, rfl⟩ := List.mem_iff_getElem.1 hy
      exact hc j hj (by omega) z hz
theorem reachP_spec (p : List C) {l : List Pd} (hd : l.Nodup) : (reachP p l).Nodup ∧ (∀ y, y ∈ reachP p l ↔ ∃ x ∈ l, Star p x y) ∧ ∀ y ∈ reachP p l, ∀ z ∈ callsP p y, z ∈ reachP p l := by
  obtain ⟨h1, h2, h3, h4⟩ := reachF_spec p (l.length + (gPs p).length) l 0 (by have := pot_le (gPs p) l; omega) (fun j _ h => by omega) hd
  refine ⟨h1, fun y => ⟨h2 y, ?_⟩, h4⟩
  rintro ⟨x, hx, hs⟩
  induction hs with
  | refl => exact h3 x hx
  | step _ hz ih => exact h4 _ ih _ hz
theorem mem_reachP {p : List C} {l : List Pd} (hd : l.Nodup) {y : Pd} : y ∈ reachP p l ↔ ∃ x ∈ l, Star p x y := (reachP_spec p hd).2.1 y

/- the laws -/
theorem reachOf_closed {p : List C} {q : List T} {y z : Pd} (hy : y ∈ reachOf p q) (hz : z ∈ callsOf p y) : z ∈ reachOf p q := by
  rw [reachOf] at hy ⊢
  split at hy
  · rename_i hv
    rw [if_pos hv]
    rw [Bool.and_eq_true] at hv
    rw [callsOf, if_pos hv.1] at hz
    exact (reachP_spec p (nd_goalsP q [] List.nodup_nil)).2.2 y hy z hz
  · simp at hy
theorem reachOf_nodup (p : List C) (q : List T) : (reachOf p q).Nodup := by
  rw [reachOf]
  split
  · exact (reachP_spec p (nd_goalsP q [] List.nodup_nil)).1
  · exact List.nodup_nil
theorem queryB_one {q : List T} (h : queryB q = true) {t : T} (ht : t ∈ q) : queryB [t] = true := by
  rw [queryB, Bool.and_eq_true, List.all_eq_true] at h
  rw [queryB, Bool.and_eq_true, List.all_eq_true]
  exact ⟨by simp, fun x hx => by simp at hx; subst hx; exact h.2 _ ht⟩
theorem reachOf_inner {p : List C} {q : List T} (hq : queryB q = true) {t : T} (ht : t ∈ q) {y : Pd} (hy : y ∈ reachOf p [t]) : y ∈ reachOf p q := by
  rw [reachOf] at hy ⊢
  split at hy
  · rename_i hv
    rw [Bool.and_eq_true] at hv
    rw [if_pos (by rw [hv.1, hq]; rfl)]
    obtain ⟨x, hx, hs⟩ := (mem_reachP (nd_goalsP _ _ List.nodup_nil)).1 hy
    refine (mem_reachP (nd_goalsP _ _ List.nodup_nil)).2 ⟨x, ?_, hs⟩
    rw [mem_goalsP] at hx ⊢
    rcases hx with hx | ⟨u, hu, h2⟩
    · simp at hx
    · simp at hu
      subst hu
      exact .inr ⟨_, ht, h2⟩
  · simp at hy
theorem reachOf_sum {p : List C} {q : List T} (hq : queryB q = true) : (reachOf p q).length ≤ ((q.map fun t => (reachOf p [t]).length).sum) := by
  have h1 : (reachOf p q).length ≤ (q.flatMap fun t => reachOf p [t]).length := by
    refine nodup_le (reachOf_nodup p q) fun y hy => ?_
    rw [reachOf] at hy
    split at hy
    · rename_i hv
      rw [Bool.and_eq_true] at hv
      obtain ⟨x, hx, hs⟩ := (mem_reachP (nd_goalsP _ _ List.nodup_nil)).1 hy
      rw [mem_goalsP] at hx
      rcases hx with hx | ⟨u, hu, h2⟩
      · simp at hx
      · refine List.mem_flatMap.2 ⟨u, hu, ?_⟩
        rw [reachOf, if_pos (by rw [hv.1, queryB_one hq hu]; rfl)]
        refine (mem_reachP (nd_goalsP _ _ List.nodup_nil)).2 ⟨x, ?_, hs⟩
        rw [mem_goalsP]
        exact .inr ⟨u, by simp, h2⟩
    · simp at hy
  rwa [List.length_flatMap] at h1
/- a goal for a predicate that a valid program calls -/
/- moving -/
end Go.Proofs.YtmnnpgdeecnfpaaGreat

/- Steps that the laws' walks share: copies lent and marked, results compared, marked and read again. -/
namespace Go.Proofs.YtmnnpgdeecnfpaaGreat
open Go Go.RowKit
section
variable {w w0 : World} {X : List Nat} {L A : List Item} {S : Store} {K : Value → World → Prop}
attribute [local irreducible] Run CondV GuardV LoadV
/- copies that will be marked: their blocks are known -/
/- they are marked, and nobody looks at them again -/
/- rows of predicates -/
theorem Run.pubRow {f : FuncId} {fn : Func} {args : List Value} {l : List Pd} (hf : Tryz.prog.funcs[f]? = some fn) (hn : (fn.name == "runtime.NumGoroutine" || fn.body.isNone) = false) (hI : Inv w0 X L S w)
    (hc : Tri Tryz.prog f args [] S (PostP S l)) (hk : ∀ v' S' w', Sle S S' → RdSl S' 2 RdPd v' l → Inv w0 X L S' w' → K v' w') : Run Tryz.prog (sCall (.func (.func f) #[] #[]) args) w K := by
  refine Run.call0 hf hn hI hc fun v' I' S' w' => ?_
  rintro ⟨rfl, rfl⟩ _ hI
  obtain ⟨S1, hle, hrd, hI, _⟩ := hI.lend
  exact hk _ _ _ hle hrd.preds hI
end

end Go.Proofs.YtmnnpgdeecnfpaaGreat

/- FnPredsOf and FnMoveTwice return true, whatever bytes come in: the walks. -/
namespace Go.Proofs.YtmnnpgdeecnfpaaGreat
open Go Go.RowKit
section
variable {w0 w : World} {X : List Nat} {L : List Item} {S : Store} {K : Value → World → Prop} {ys : List Nat} {v : Value}
attribute [local irreducible] Run CondV GuardV LoadV
theorem Light.fit {q : List C} (h : Light 30 900 q) : q.length + wP q ≤ 1048576 := by
  have := h.le; omega
/- two results of a call that makes clauses: published -/
end
end Go.Proofs.YtmnnpgdeecnfpaaGreat

/- Queries parsed and drawn: spec.ParseQuery, l6Query, l6Pair, l6MutateAll, DrawReachOf. (printed by gen_drawq.py) -/
namespace Go.Proofs.YtmnnpgdeecnfpaaGreat
open Go Go.RowKit
def okQ (s : ByteArray) : Bool := match goalsF 60 8 (bs s) 0 [] with
  | some (q, n) => decide (n = s.size) && (queryB q && (decide (wL q ≤ 300) && decide (s.size ≤ 1000)))
  | none => false
theorem okQ_spec {s : ByteArray} (h : okQ s = true) : ∃ q, goalsF 60 8 (bs s) 0 [] = some (q, s.size) ∧ queryB q = true ∧ wL q ≤ 300 ∧ s.size ≤ 1000 := by
  unfold okQ at h
  split at h
  · rename_i q n hq
    simp only [Bool.and_eq_true, decide_eq_true_eq] at h
    obtain ⟨rfl, h2, h3, h4⟩ := h
    exact ⟨q, hq, h2, h3, h4⟩
  · cases h
theorem queryB_len {q : List T} (h : queryB q = true) : q.length ≤ 6 := by
  rw [queryB, Bool.and_eq_true] at h
  have := h.1
  simp at this
  omega
def LightT (n m : Nat) (q : List T) : Prop := q.length ≤ n ∧ ∀ t ∈ q, wT t ≤ m
theorem LightT.le {n m : Nat} {q : List T} (h : LightT n m q) : q.length + wL q ≤ n + n * m := by
  have : ∀ q : List T, (∀ c ∈ q, wT c ≤ m) → wL q ≤ q.length * m := by
    intro q
    induction q with
    | nil => intro _; simp [wL]
    | cons c q ih =>
      intro h
      have h1 := h c (List.mem_cons_self ..)
      have h2 := ih fun d hd => h d (List.mem_cons_of_mem _ hd)
      simp only [wL, List.length_cons, Nat.succ_mul]
      omega
  have h1 := this q h.2
  have h2 : q.length * m ≤ n * m := Nat.mul_le_mul_right _ h.1
  have := h.1
  omega
abbrev PostDG (br : Nat) (sl : Value) (p k n m : Nat) : Value → List Item → Store → Prop := fun v I' S' => ∃ p', p' ≤ p + k ∧ I' = [rdI br sl p'] ∧ ∃ q, RdSl S' 4 (RdT S') v q ∧ LightT n m q
section
variable {w0 w : World} {X : List Nat} {L A : List Item} {S : Store}
theorem pub_goals {v : Value} {css : List (List Value)} {q : List T} (hI : Inv w0 X (rowG v t_iTerm 4 css :: A) S w) (hR : Rows 4 (RdT S) css q) :
    ∃ S', Ext w0.heap.size X S S' ∧ Inv w0 X A S' w ∧ RdSl S' 4 (RdT S') v q := by
  have hI : Inv w0 X (A ++ [rowG v t_iTerm 4 css]) S w := hI.last 0 rfl
  obtain ⟨S', hE, hrd, hI⟩ := Inv.lendExt hI
  exact ⟨S', hE, hI, RowRd.rows (hR.monoR fun _ _ h => RdT.mono hE.1 h) hrd⟩
end
section
variable {br : Nat} {sl : Value} {ys : List Nat} {S : Store}
attribute [local irreducible] Run CondV GuardV LoadV
theorem ParseQuery_calls {s : ByteArray} (h : okQ s = true) : Tri Tryz.prog n_s_ParseQuery [.string s] [] S fun v I' S' => I' = [] ∧ ∃ u q, v = .tuple #[u, .bool true] ∧ RdSl S' 4 (RdT S') u q ∧ LightT 6 300 q := by
  intro w hI
  obtain ⟨q, hq, hqv, hqw, hs⟩ := okQ_spec h
  have hql := queryB_len hqv
  have hbs : (bs s).length = s.size := (st_size (bs s)).symm
  refine calls_s_ParseQuery ?_
  unfold sh_s_ParseQuery
  refine r_lenStr un_string ?_
  refine r_gtrF (by omega) ?_
  refine condV (fun hb => by cases hb) (fun _ => ?_)
  refine Run.call0E fn_s_l4Goals nm_s_l4Goals hI (l4Goals_calls (i := 0) hq (Nat.le_trans (Nat.le_of_eq hbs) (by omega)) (Nat.zero_le _)) fun v I' S1 w' => ?_
  rintro ⟨rfl, u, rfl, hu⟩ hE1 hI
  have hI : Inv w [] [] S1 w' := hI
  refine r_extract (v := u) rfl ?_
  refine r_extract (v := .int .i64 (s.size : Int)) rfl ?_
  refine ⟨fun t w' => t = .bool false ∧ Inv w [] [] S1 w', ?_, ?_⟩
  · refine r_lenStr un_string ?_
    refine r_neq ?_
    rw [decide_eq_true rfl]
    repeat (first | refine guard_true ?_ | refine guard_ne (by decide) ?_ | refine guard_undef ?_ | refine r_pickT ?_ | refine r_pickF ?_)
    refine Run.callPure fn_s_QueryValid nm_s_QueryValid hI (s_QueryValid_calls hu (by omega)) fun w' hI => ?_
    rw [hqv]
    refine r_not ?_
    repeat (first | refine guard_true ?_ | refine guard_ne (by decide) ?_ | refine guard_undef ?_ | refine r_pickT ?_ | refine r_pickF ?_)
    exact ⟨rfl, hI⟩
  intro t25 _ _ _ _ _ _ _ _ w'
  rintro ⟨rfl, hI⟩
  refine condV (fun hb => by cases hb) (fun _ => ?_)
  refine r_slice0 hI mk_SiTerm fun v0 w' hI => ?_
  refine ⟨fun a b w' => ∃ (j : Nat) (S2 : Store) (css : List (List Value)), a = .int .i64 (j : Int) ∧ j ≤ q.length ∧ Ext w.heap.size [] S S2 ∧ Sle S1 S2 ∧ Rows 4 (RdT S2) css (q.take j) ∧ Inv w [] [rowG b t_iTerm 4 css] S2 w',
    fun a _ _ => q.length - (intOf a).toNat, ⟨0, S1, [], rfl, Nat.zero_le _, hE1, Sle.refl _, Rows.nil _ _, hI⟩, ?_⟩
  intro t7 _ _ t6 _ _ _ _ _ _ _ _ _ _ _ _ w'
  rintro ⟨j, S2, css, rfl, hj, hE2, hle, hR, hI⟩
  have hu := hu.monoT hle
  have hcl := hR.hc
  refine r_lenSl hu sl_SiTerm ?_
  refine r_lss ?_
  refine condP (fun hji => ?_) (fun hji => ?_)
  · have hj' : j < q.length := by omega
    have hm := wL_mem (List.getElem_mem hj')
    have htk : (q.take j).length = j := by rw [List.length_take]; omega
    refine r_elem hI hu sl_SiTerm ag_iTerm hj' (fun _ _ => RdT.length) fun cs hcs => ?_
    refine Run.call0E fn_s_l1Copy nm_s_l1Copy hI (l1Copy_calls _ S2 cs hcs (by omega)) fun v' I' S3 w' => ?_
    rintro ⟨rfl, ds, M, rfl, rfl, hT⟩ hE3 hI
    obtain ⟨S3, hI, hE3, hins⟩ := hI.pubExt
    have hr3 := hT.rd hins
    refine r_append1 (css := css) hI 0 ds mk_SiTerm (by omega) (by omega) rfl hr3.length hr3.one (by omega) (by omega) fun v' w' hI => ?_
    refine r_add (by omega) ?_
    exact ⟨⟨j + 1, S3, _, rfl, hj', hE2.trans hE3, hle.trans hE3.1, by rw [List.take_succ_eq_append_getElem hj']; exact (hR.monoR fun _ _ h => RdT.mono hE3.1 h).snoc hr3 hr3.length, hI⟩, by simp [intOf]; omega⟩
  · have : j = q.length := by omega
    subst this
    rw [List.take_length] at hR
    obtain ⟨S3, hE3, hI, hr⟩ := pub_goals hI hR
    exact ⟨_, [], S3, rfl, hI, hE2.trans hE3, rfl, _, q, rfl, hr, hql, fun t ht => by have := wL_mem ht; omega⟩
theorem l6Queries_calls (S : Store) : Tri Tryz.prog n_s_l6Queries [] [] S fun v I' S' => I' = [] ∧ ∃ l, RdSl S' 1 RdStr v l ∧ 0 < l.length ∧ l.all okQ = true := by
  intro w hI
  refine calls_s_l6Queries ?_
  unfold sh_s_l6Queries
  refine r_strs hI (by kernel_rfl) rfl (by omega) fun v S1 w' hE1 hv hI => ?_
  exact ⟨_, [], S1, rfl, hI, hE1, rfl, _, hv, by decide, by decide +kernel⟩
theorem l6Query_calls {p : Nat} (hrd : RdSl S 1 RdU8 sl ys) (hp : p ≤ 100000000) : Tri Tryz.prog n_s_l6Query [rdP br] [rdI br sl p] S (PostDG br sl p 1 6 300) := by
  intro w hI
  refine calls_s_l6Query ?_
  unfold sh_s_l6Query
  refine Run.call0E fn_s_l6Queries nm_s_l6Queries hI (l6Queries_calls S) fun v' I' S1 w' => ?_
  rintro ⟨rfl, l, hl, hl0, hok⟩ hE1 hI
  have hI : Inv w [br] [rdI br sl p] S1 w' := hI
  refine r_lenSl hl sl_Sstring ?_
  refine Run.callL fn_s_l18Rd_pick nm_s_l18Rd_pick hI (pick_calls (n := l.length) (hrd.monoU hE1.1) (by omega) hl0) rfl fun v' I' S1 w' => ?_
  rintro ⟨rfl, rfl, k, hk, rfl⟩ _ hI
  have hI : Inv w [br] [rdI br sl (p + 1)] S1 w' := hI
  refine r_elem1 hI hl sl_Sstring sc_string hk (fun cs hcs => hcs) ?_
  rw [List.all_eq_true] at hok
  refine Run.call0E fn_s_ParseQuery nm_s_ParseQuery hI (ParseQuery_calls (hok _ (List.getElem_mem hk))) fun v I' S2 w' => ?_
  rintro ⟨rfl, u, q, rfl, hu, hq⟩ hE2 hI
  refine r_extract (v := u) rfl ?_
  refine r_extract (v := .bool true) rfl ?_
  exact ⟨_, _, S2, rfl, hI, hE1.trans hE2, p + 1, Nat.le_refl _, rfl, q, hu, hq⟩
/- a program and a query: published -/
abbrev PostDPG (br : Nat) (sl : Value) (p k : Nat) : Value → List Item → Store → Prop := fun v I' S' => ∃ p', p' ≤ p + k ∧ I' = [rdI br sl p'] ∧ ∃ u g ps q, v = .tuple #[u, g] ∧ RdSl S' 5 (RdC S') u ps ∧ Light 8 200 ps ∧ 0 < ps.length ∧ RdSl S' 4 (RdT S') g q ∧ LightT 6 300 q
theorem l6Pair_calls {p : Nat} (hrd : RdSl S 1 RdU8 sl ys) (hp : p ≤ 10000000) : Tri Tryz.prog n_s_l6Pair [rdP br] [rdI br sl p] S (PostDPG br sl p 5) := by
  intro w hI
  refine calls_s_l6Pair ?_
  unfold sh_s_l6Pair
  refine Run.call0E fn_s_l4Texts nm_s_l4Texts hI (l4Texts_calls S) fun v' I' S1 w' => ?_
  rintro ⟨rfl, l, hl, hl11, hok⟩ hE1 hI
  have hI : Inv w [br] [rdI br sl p] S1 w' := hI
  refine r_lenSl hl sl_Sstring ?_
  refine Run.callL fn_s_l18Rd_pick nm_s_l18Rd_pick hI (pick_calls (n := l.length) (hrd.monoU hE1.1) (by omega) (by omega)) rfl fun v' I' S1 w' => ?_
  rintro ⟨rfl, rfl, k, hk, rfl⟩ _ hI
  have hI : Inv w [br] [rdI br sl (p + 1)] S1 w' := hI
  refine r_elem1 hI hl sl_Sstring sc_string hk (fun cs hcs => hcs) ?_
  rw [List.all_eq_true] at hok
  refine Run.call0E fn_s_ParseProgram nm_s_ParseProgram hI (parse_row (hok _ (List.getElem_mem hk))) fun v I' S2 w' => ?_
  rintro ⟨u, css, ps, rfl, rfl, hR, h0, hps, _⟩ hE2 hI
  have hI : Inv w [br] [rowG u t_iClause 5 css, rdI br sl (p + 1)] S2 w' := hI.last 0 rfl
  obtain ⟨T0, hE3, hI, hr⟩ := pub_prog hI hR
  refine r_extract (v := u) rfl ?_
  refine r_extract (v := .bool true) rfl ?_
  have F0 : Ext w.heap.size [br] S T0 := (hE1.trans hE2).trans hE3
  refine r_strs hI (by kernel_rfl) rfl (by omega) fun v1 T1 w' G1 h1 hI => ?_
  have F1 := F0.trans G1
  refine r_strs hI (by kernel_rfl) rfl (by omega) fun v2 T2 w' G2 h2 hI => ?_
  have F2 := F1.trans G2
  refine r_strs hI (by kernel_rfl) rfl (by omega) fun v3 T3 w' G3 h3 hI => ?_
  have F3 := F2.trans G3
  refine r_strs hI (by kernel_rfl) rfl (by omega) fun v4 T4 w' G4 h4 hI => ?_
  have F4 := F3.trans G4
  refine r_strs hI (by kernel_rfl) rfl (by omega) fun v5 T5 w' G5 h5 hI => ?_
  have F5 := F4.trans G5
  refine r_strs hI (by kernel_rfl) rfl (by omega) fun v6 T6 w' G6 h6 hI => ?_
  have F6 := F5.trans G6
  refine r_strs hI (by kernel_rfl) rfl (by omega) fun v7 T7 w' G7 h7 hI => ?_
  have F7 := F6.trans G7
  refine r_strs hI (by kernel_rfl) rfl (by omega) fun v8 T8 w' G8 h8 hI => ?_
  have F8 := F7.trans G8
  refine r_strs hI (by kernel_rfl) rfl (by omega) fun v9 T9 w' G9 h9 hI => ?_
  have F9 := F8.trans G9
  refine r_strs hI (by kernel_rfl) rfl (by omega) fun v10 T10 w' G10 h10 hI => ?_
  have F10 := F9.trans G10
  refine r_strs hI (by kernel_rfl) rfl (by omega) fun v11 T11 w' G11 h11 hI => ?_
  have F11 := F10.trans G11
  refine r_made (v := fun b => .slice (some ⟨b, 0, none⟩) 11 11) (o := .cells #[v1, v2, v3, v4, v5, v6, v7, v8, v9, v10, v11] t_Sstring) hI ?_ fun b w' hI => ?_
  · obtain ⟨a1, c1, rfl, _⟩ := id h1; obtain ⟨a2, c2, rfl, _⟩ := id h2; obtain ⟨a3, c3, rfl, _⟩ := id h3; obtain ⟨a4, c4, rfl, _⟩ := id h4; obtain ⟨a5, c5, rfl, _⟩ := id h5; obtain ⟨a6, c6, rfl, _⟩ := id h6; obtain ⟨a7, c7, rfl, _⟩ := id h7; obtain ⟨a8, c8, rfl, _⟩ := id h8; obtain ⟨a9, c9, rfl, _⟩ := id h9; obtain ⟨a10, c10, rfl, _⟩ := id h10; obtain ⟨a11, c11, rfl, _⟩ := id h11; kernel_rfl
  obtain ⟨T12, hI, G12, hS⟩ := Inv.pub1 (A := [rdI br sl (p + 1)]) hI
  have F12 := F11.trans G12
  have L11 := G12.1
  have L10 := G11.1.trans L11
  have L9 := G10.1.trans L10
  have L8 := G9.1.trans L9
  have L7 := G8.1.trans L8
  have L6 := G7.1.trans L7
  have L5 := G6.1.trans L6
  have L4 := G5.1.trans L5
  have L3 := G4.1.trans L4
  have L2 := G3.1.trans L3
  have L1 := G2.1.trans L2
  have hsel : ∃ v l, (#[v1, v2, v3, v4, v5, v6, v7, v8, v9, v10, v11] : Array Value)[0 + k * 1]? = some v ∧ RdSl T12 1 RdStr v l ∧ 0 < l.length ∧ l.all okQ = true := by
    have hk : k < 11 := by omega
    match k, hk with
    | 0, _ => exact ⟨v1, _, rfl, h1.monoS L1, by decide, by decide +kernel⟩
    | 1, _ => exact ⟨v2, _, rfl, h2.monoS L2, by decide, by decide +kernel⟩
    | 2, _ => exact ⟨v3, _, rfl, h3.monoS L3, by decide, by decide +kernel⟩
    | 3, _ => exact ⟨v4, _, rfl, h4.monoS L4, by decide, by decide +kernel⟩
    | 4, _ => exact ⟨v5, _, rfl, h5.monoS L5, by decide, by decide +kernel⟩
    | 5, _ => exact ⟨v6, _, rfl, h6.monoS L6, by decide, by decide +kernel⟩
    | 6, _ => exact ⟨v7, _, rfl, h7.monoS L7, by decide, by decide +kernel⟩
    | 7, _ => exact ⟨v8, _, rfl, h8.monoS L8, by decide, by decide +kernel⟩
    | 8, _ => exact ⟨v9, _, rfl, h9.monoS L9, by decide, by decide +kernel⟩
    | 9, _ => exact ⟨v10, _, rfl, h10.monoS L10, by decide, by decide +kernel⟩
    | 10, _ => exact ⟨v11, _, rfl, h11.monoS L11, by decide, by decide +kernel⟩
  obtain ⟨vk, lk, hcell, hlk, hlk0, hokq⟩ := hsel
  refine r_indexAddr (k := 1) sl_SSstring (by omega) ?_
  refine r_load sc_Sstring ((hI.cellS hS).trans hcell) ?_
  refine Run.callL fn_s_l18Rd_pick nm_s_l18Rd_pick hI (pick_calls (n := 5) (hrd.monoU F12.1) (by omega) (by omega)) rfl fun v' I' S3 w' => ?_
  rintro ⟨rfl, rfl, k5, hk5, rfl⟩ _ hI
  have hI : Inv w [br] [rdI br sl (p + 2)] S3 w' := hI
  have hr := hr.monoC (G1.1.trans L1)
  refine r_eql ?_
  refine condP (fun _ => ?_) (fun _ => ?_)
  · refine Run.callL fn_s_l6Query nm_s_l6Query hI (l6Query_calls (hrd.monoU F12.1) (by omega)) rfl fun v' I' S4 w' => ?_
    rintro ⟨p3, hp3, rfl, q, hq, hlq⟩ hE4 hI
    exact ⟨_, _, S4, rfl, hI, F12.trans hE4, p3, by omega, rfl, _, _, ps, q, rfl, hr.monoC hE4.1, hps, h0, hq, hlq⟩
  · refine r_lenSl hlk sl_Sstring ?_
    refine Run.callL fn_s_l18Rd_pick nm_s_l18Rd_pick hI (pick_calls (n := lk.length) (hrd.monoU F12.1) (by omega) hlk0) rfl fun v' I' S3 w' => ?_
    rintro ⟨rfl, rfl, k6, hk6, rfl⟩ _ hI
    have hI : Inv w [br] [rdI br sl (p + 3)] S3 w' := hI
    refine r_elem1 hI hlk sl_Sstring sc_string hk6 (fun cs hcs => hcs) ?_
    rw [List.all_eq_true] at hokq
    refine Run.call0E fn_s_ParseQuery nm_s_ParseQuery hI (ParseQuery_calls (hokq _ (List.getElem_mem hk6))) fun v I' S4 w' => ?_
    rintro ⟨rfl, g, q, rfl, hg, hlq⟩ hE4 hI
    refine r_extract (v := g) rfl ?_
    refine r_extract (v := .bool true) rfl ?_
    exact ⟨_, _, S4, rfl, hI, F12.trans hE4, p + 3, by omega, rfl, u, g, ps, q, rfl, hr.monoC hE4.1, hps, h0, hg, hlq⟩
theorem l6MutateAll_calls {p : Nat} {v : Value} {q : List T} (hrd : RdSl S 1 RdU8 sl ys) (h : RdSl S 4 (RdT S) v q) (hq : LightT 6 300 q) (hp : p ≤ 50000000) :
    Tri Tryz.prog n_s_l6MutateAll [rdP br, v] [rdI br sl p] S (PostDG br sl p 20 10 400) := by
  intro w hI
  refine calls_s_l6MutateAll ?_
  unfold sh_s_l6MutateAll
  have hql := hq.1
  refine r_slice0 hI mk_SiTerm fun v0 w' hI => ?_
  have hI : Inv w [br] [rowG v0 t_iTerm 4 [], rdI br sl p] S w' := hI.last 0 rfl
  refine ⟨fun a b w' => ∃ (j p1 : Nat) (S1 : Store) (css : List (List Value)) (q1 : List T), a = .int .i64 (j : Int) ∧ j ≤ q.length ∧ q1.length = j ∧ p1 ≤ p + 2 * j ∧ Ext w.heap.size [br] S S1 ∧ Rows 4 (RdT S1) css q1 ∧ (∀ c ∈ q1, wT c ≤ 400) ∧ Inv w [br] [rowG b t_iTerm 4 css, rdI br sl p1] S1 w',
    fun a _ _ => q.length - (intOf a).toNat, ⟨0, p, S, [], [], rfl, Nat.zero_le _, rfl, by omega, Ext.refl _ _ _, Rows.nil _ _, by simp, hI⟩, ?_⟩
  intro t6 _ _ t5 _ _ _ _ _ _ _ _ _ _ _ _ _ w'
  rintro ⟨j, p1, S1, css, q1, rfl, hj, hq1, hp1, hE1, hR, hqw, hI⟩
  have hcl := hR.hc
  have h' := h.monoT hE1.1
  refine r_lenSl h' sl_SiTerm ?_
  refine r_lss ?_
  refine condP (fun hjl => ?_) (fun hjl => ?_)
  · have hj' : j < q.length := by omega
    refine r_elem hI h' sl_SiTerm ag_iTerm hj' (fun _ _ => RdT.length) fun cs hcs => ?_
    have hwc := hq.2 _ (List.getElem_mem hj')
    refine Run.callL fn_s_l1Mutate nm_s_l1Mutate hI (l1Mutate_calls (p := p1) (hrd.monoU hE1.1) hcs (by omega) (by omega)) rfl fun v' I' S2 w' => ?_
    rintro ⟨p2, hp2, rfl, ds, d, rfl, hds, hwd⟩ hE2 hI
    refine r_append1 (css := css) hI 0 _ mk_SiTerm (by omega) (by omega) rfl hds.length hds.one (by omega) (by omega) fun v' w' hI => ?_
    refine r_add (by omega) ?_
    exact ⟨⟨j + 1, p2, S2, _, q1 ++ [d], rfl, hj', by simp only [List.length_append, hq1, List.length_cons, List.length_nil, Nat.zero_add], by omega, hE1.trans hE2, (hR.monoR fun _ _ h => RdT.mono hE2.1 h).snoc hds hds.length, fun c hc => (List.mem_append.1 hc).elim (hqw c) (fun hc => by simp only [List.mem_singleton] at hc; subst hc; omega), hI⟩,
      by simp only [intOf, Int.toNat_natCast]; omega⟩
  refine ⟨fun v w' => ∃ (p1 : Nat) (S1 : Store) (q1 : List T), p1 ≤ p + 20 ∧ Ext w.heap.size [br] S S1 ∧ RdSl S1 4 (RdT S1) v q1 ∧ LightT 10 400 q1 ∧ Inv w [br] [rdI br sl p1] S1 w', ?_, ?_⟩
  · refine Run.callL fn_s_l18Rd_pick nm_s_l18Rd_pick hI (pick_calls (n := 30) (hrd.monoU hE1.1) (by omega) (by omega)) rfl fun v' I' S1 w' => ?_
    rintro ⟨rfl, rfl, kk, hkk, rfl⟩ _ hI
    have hI : Inv w [br] [rowG t5 t_iTerm 4 css, rdI br sl (p1 + 1)] S1 w' := hI
    refine r_eql ?_
    refine condP (fun _ => ?_) (fun _ => ?_)
    · refine ⟨fun b w' => ∃ (S2 : Store) (css : List (List Value)) (q1 : List T), q1.length ≤ 10 ∧ Ext w.heap.size [br] S S2 ∧ Rows 4 (RdT S2) css q1 ∧ (∀ c ∈ q1, wT c ≤ 400) ∧ Inv w [br] [rowG b t_iTerm 4 css, rdI br sl (p1 + 1)] S2 w',
        fun b _ => 30 - lenOf b, ⟨S1, css, q1, by omega, hE1, hR, hqw, hI⟩, ?_⟩
      intro t5 _ _ _ _ _ _ _ w'
      rintro ⟨S2, css, q1, hq1, hE2, hR, hqw, hI⟩
      have hlen : ∀ {w' : World} {S2 : Store} {t5 : Value} {css : List (List Value)} {q1 : List T}, Inv w [br] [rowG t5 t_iTerm 4 css, rdI br sl (p1 + 1)] S2 w' → Rows 4 (RdT S2) css q1 → ∃ a m, t5 = .slice a q1.length m := by
        intro w' S2 t5 css q1 hI hR
        obtain ⟨_, _, _, a, m, e, _⟩ := pub_goals hI hR
        exact ⟨a, m, e⟩
      obtain ⟨a1, m1, rfl⟩ := hlen hI hR
      have hcl := hR.hc
      refine r_len sl_SiTerm ?_
      refine r_leq ?_
      refine condP (fun hle => ?_) (fun hle => ?_)
      · refine Run.call0E fn_s_l1Struct nm_s_l1Struct hI (l1Struct_pub ⟨#[116, 114, 117, 101]⟩ (by decide) (rd_none S2) (by simp)) fun v' I' S3 w' => ?_
        rintro ⟨rfl, ds, rfl, hds⟩ hE3 hI
        refine r_append1 (css := css) hI 0 ds mk_SiTerm (by omega) (by omega) rfl hds.length hds.one (by omega) (by omega) fun v' w' hI => ?_
        have hI : Inv w [br] [rowG v' t_iTerm 4 (css ++ [_]), rdI br sl (p1 + 1)] S3 w' := hI
        have hR2 := (hR.monoR fun _ _ h => RdT.mono hE3.1 h).snoc hds hds.length
        obtain ⟨a2, m2, rfl⟩ := hlen hI hR2
        have e4 : (ByteArray.mk #[116, 114, 117, 101]).size = 4 := rfl
        refine ⟨⟨S3, _, _, by rw [List.length_append]; simp only [List.length_cons, List.length_nil]; omega, hE2.trans hE3, hR2, fun c hc => (List.mem_append.1 hc).elim (hqw c) (fun hc => by simp only [List.mem_singleton] at hc; subst hc; simp only [wT, wL, List.length_nil, e4]; omega), hI⟩, ?_⟩
        simp only [lenOf, List.length_append, List.length_cons, List.length_nil]
        omega
      · obtain ⟨S3, hE3, hI, hr⟩ := pub_goals hI hR
        exact ⟨_, S3, q1, by omega, hE2.trans hE3, hr, ⟨hq1, hqw⟩, hI⟩
    · obtain ⟨S3, hE3, hI, hr⟩ := pub_goals hI hR
      exact ⟨_, S3, q1, by omega, hE1.trans hE3, hr, ⟨by omega, hqw⟩, hI⟩
  intro t5 _ _ _ _ _ _ _ _ _ _ w'
  rintro ⟨p2, S2, q2, hp2, hE2, hr, hl, hI⟩
  exact ⟨_, _, S2, rfl, hI, hE2, p2, hp2, rfl, q2, hr, hl⟩
theorem DrawReachOf_calls {v : Value} (h : RdSl S 1 RdU8 v ys) : Tri Tryz.prog n_s_DrawReachOf [v] [] S fun v' I' S' => I' = [] ∧ ∃ u g ps q, v' = .tuple #[u, g] ∧ RdSl S' 5 (RdC S') u ps ∧ Light 30 900 ps ∧ RdSl S' 4 (RdT S') g q ∧ LightT 10 400 q := by
  intro w hI
  refine calls_s_DrawReachOf ?_
  unfold sh_s_DrawReachOf
  refine Run.call0E fn_s_l18Open nm_s_l18Open hI (open_calls h) fun v1 I' S1 w' => ?_
  rintro ⟨rfl, br, sl, ys', rfl, rfl, hrd⟩ _ hI
  have hI : Inv w [] [rdI br sl 0] S1 w' := hI
  refine Run.callL fn_s_l6Pair nm_s_l6Pair hI (l6Pair_calls (p := 0) hrd (by omega)) rfl fun v2 I' S2 w' => ?_
  rintro ⟨p1, hp1, rfl, u, g, ps, q, rfl, hps, hlp, h0, hq, hlq⟩ hE2 hI
  refine r_extract (v := u) rfl ?_
  refine r_extract (v := g) rfl ?_
  refine Run.callL fn_s_l4Program nm_s_l4Program hI (l4Program_calls (p := p1) (hrd.monoU hE2.1) (by omega)) rfl fun v1 I' S3 w' => ?_
  rintro ⟨p2, css1, q1, hp2, rfl, hR1, hq1, h1⟩ hE3 hI
  have hI : Inv w [] [rowG v1 t_iClause 5 css1, rdI br sl p2] S3 w' := hI
  have hc1 := hR1.hc
  have hl1 := hq1.1
  have hl2 := hlp.1
  refine r_appendRd hI 0 (css := css1) mk_SiClause (by omega) rfl (hps.monoC hE3.1) (fun _ _ => RdC.length) (fun _ _ => RdC.one) (by omega) (by omega) fun v' w' css3 hR3 hI => ?_
  have hI : Inv w [] [rowG v' t_iClause 5 (css1 ++ css3), rdI br sl p2] S3 w' := hI
  obtain ⟨S4, HE34, hI, hr⟩ := pub_prog hI (hR1.append hR3)
  have hE4 := (hE2.trans hE3).trans HE34
  have hq14 := hq1.append hlp
  refine Run.callL fn_s_l4MutateAll nm_s_l4MutateAll hI (l4MutateAll_calls (m := 200) (p := p2) (hrd.monoU hE4.1) hr ⟨by have := hq14.1; omega, hq14.2⟩ (by rw [List.length_append]; omega) (by omega) (by omega)) rfl fun v3 I' S5 w' => ?_
  rintro ⟨p3, hp3, rfl, q2, hr2, hq2⟩ hE5 hI
  refine Run.callL fn_s_l6MutateAll nm_s_l6MutateAll hI (l6MutateAll_calls (p := p3) (hrd.monoU (hE4.trans hE5).1) (hq.monoT (hE3.1.trans (HE34.1.trans hE5.1))) hlq (by omega)) rfl fun v4 I' S6 w' => ?_
  rintro ⟨p4, hp4, rfl, q3, hr3, hq3⟩ hE6 hI
  exact ⟨_, [], S6, rfl, hI.nil, (hE4.trans hE5).trans hE6, rfl, _, _, q2, q3, rfl, hr2.monoC hE6.1, hq2, hr3, hq3⟩
end
end Go.Proofs.YtmnnpgdeecnfpaaGreat

/- FnExactReachOf returns true, whatever the program and the query that come in. -/
namespace Go.Proofs.YtmnnpgdeecnfpaaGreat
open Go Go.RowKit
section
attribute [local irreducible] Run CondV GuardV LoadV
theorem addAll_pot {G : List Pd} : ∀ (m l : List Pd), (∀ y ∈ m, y ∈ G) → (addAll l m).length + pot G (addAll l m) ≤ l.length + pot G l
  | [], l, _ => Nat.le_refl _
  | y :: m, l, h => by
    have h1 := addP_pot (l := l) (h y (List.mem_cons_self ..))
    have h2 := addAll_pot m (addP l y) fun z hz => h z (List.mem_cons_of_mem _ hz)
    have e : addAll l (y :: m) = addAll (addP l y) m := rfl
    rw [e]
    omega
theorem reachF_len (p : List C) : ∀ (n : Nat) (l : List Pd) (i : Nat), (reachF n p l i).length ≤ l.length + pot (gPs p) l
  | 0, l, i => Nat.le_add_right _ _
  | n + 1, l, i => by
    rw [reachF]
    split
    · have h1 := reachF_len p n (addAll l (callsP p l[i])) (i + 1)
      have h2 := addAll_pot (G := gPs p) (callsP p l[i]) l fun y hy => callsP_mem hy
      omega
    · omega
theorem reachOf_len (p : List C) (q : List T) : (reachOf p q).length ≤ q.length + wP p := by
  unfold reachOf
  split
  · have h1 := reachF_len p ((goalsP [] q).length + (gPs p).length) (goalsP [] q) 0
    have h2 := goalsP_len q []
    have h3 := pot_le (gPs p) (goalsP [] q)
    have h4 := gPs_le p
    simp only [List.length_nil] at h2
    rw [reachP]
    omega
  · exact Nat.zero_le _
end

end Go.Proofs.YtmnnpgdeecnfpaaGreat

/- spec.l4Texts, l4Program, l4Clause, l14Two. -/
import Derived.Test.YtmnnpgdeecnfpaaGreatZPd6
import Derived.Test.YtmnnpgdeecnfpaaGreatZPd2
import Derived.Test.YtmnnpgdeecnfpaaGreatZPd1
namespace Go.Proofs.YtmnnpgdeecnfpaaGreat
open Go Go.RowKit
def okS (s : ByteArray) : Bool := okText (bs s) && decide (s.size ≤ 1000)
theorem okS_spec {s : ByteArray} (h : okS s = true) : ∃ q, progF 60 (bs s) = some q ∧ 0 < q.length ∧ Light 8 200 q ∧ (∀ c ∈ q, clauseB c = true) ∧ s.size ≤ 1000 := by
  rw [okS, Bool.and_eq_true, decide_eq_true_eq] at h
  obtain ⟨h, hs⟩ := h
  unfold okText at h
  split at h
  · rename_i q hq
    simp only [Bool.and_eq_true, decide_eq_true_eq, List.all_eq_true] at h
    exact ⟨q, hq, h.1, ⟨h.2.1, fun c hc => (h.2.2 c hc).2⟩, fun c hc => (h.2.2 c hc).1, hs⟩
  · cases h
section
attribute [local irreducible] Run CondV GuardV LoadV
theorem parse_row {S : Store} {s : ByteArray} (h : okS s = true) : Tri Tryz.prog n_s_ParseProgram [.string s] [] S fun v I' S' => ∃ u css q, v = .tuple #[u, .bool true] ∧ I' = [rowG u t_iClause 5 css] ∧ Rows 5 (RdC S') css q ∧ 0 < q.length ∧ Light 8 200 q ∧ ∀ c ∈ q, clauseB c = true := by
  obtain ⟨q, hq, h0, hl, hc, hs⟩ := okS_spec h
  intro w hI
  have hb : (bs s).length = s.size := (st_size (bs s)).symm
  refine (ParseProgram_calls (f := 60) (by omega) hq (by rw [hb]; omega) w hI).mono ?_
  rintro e w' ⟨v, I', S', rfl, hI, hE, u, css, rfl, rfl, hR⟩
  exact ⟨_, _, S', rfl, hI, hE, u, css, q, rfl, rfl, hR, h0, hl, hc⟩
theorem l4Texts_calls (S : Store) : Tri Tryz.prog n_s_l4Texts [] [] S fun v I' S' => I' = [] ∧ ∃ l, RdSl S' 1 RdStr v l ∧ l.length = 11 ∧ l.all okS = true := by
  intro w hI
  refine calls_s_l4Texts ?_
  unfold sh_s_l4Texts
  refine r_strs hI (by kernel_rfl) rfl (by omega) fun v S1 w' hE1 hv hI => ?_
  exact ⟨_, [], S1, rfl, hI, hE1, rfl, _, hv, rfl, by decide +kernel⟩
variable {br : Nat} {sl : Value} {ys : List Nat}
theorem l4Program_calls {p : Nat} {S : Store} (hrd : RdSl S 1 RdU8 sl ys) (hp : p ≤ 100000000) : Tri Tryz.prog n_s_l4Program [rdP br] [rdI br sl p] S (PostDR br sl p 1 8 200) := by
  intro w hI
  refine calls_s_l4Program ?_
  unfold sh_s_l4Program
  refine Run.call0E fn_s_l4Texts nm_s_l4Texts hI (l4Texts_calls S) fun v' I' S1 w' => ?_
  rintro ⟨rfl, l, hl, hl11, hok⟩ hE1 hI
  have hI : Inv w [br] [rdI br sl p] S1 w' := hI
  refine r_lenSl hl sl_Sstring ?_
  refine Run.callL fn_s_l18Rd_pick nm_s_l18Rd_pick hI (pick_calls (n := l.length) (hrd.monoU hE1.1) (by omega) (by omega)) rfl fun v' I' S1 w' => ?_
  rintro ⟨rfl, rfl, k, hk, rfl⟩ _ hI
  have hI : Inv w [br] [rdI br sl (p + 1)] S1 w' := hI
  refine r_elem1 hI hl sl_Sstring sc_string hk (fun cs hcs => hcs) ?_
  rw [List.all_eq_true] at hok
  refine Run.call0E fn_s_ParseProgram nm_s_ParseProgram hI (parse_row (hok _ (List.getElem_mem hk))) fun v I' S2 w' => ?_
  rintro ⟨u, css, q, rfl, rfl, hR, h0, hq, _⟩ hE2 hI
  refine r_extract (v := u) rfl ?_
  refine r_extract (v := .bool true) rfl ?_
  exact ⟨_, _, S2, rfl, hI.last 0 rfl, hE1.trans hE2, p + 1, css, q, Nat.le_refl _, rfl, hR, hq, h0⟩
theorem l14Two_calls {p : Nat} {S : Store} (hrd : RdSl S 1 RdU8 sl ys) (hp : p ≤ 10000000) : Tri Tryz.prog n_s_l14Two [rdP br] [rdI br sl p] S (PostDR br sl p 2 16 200) := by
  intro w hI
  refine calls_s_l14Two ?_
  unfold sh_s_l14Two
  refine Run.callL fn_s_l4Program nm_s_l4Program hI (l4Program_calls hrd (by omega)) rfl fun v1 I' S1 w' => ?_
  rintro ⟨p1, css1, q1, hp1, rfl, hR1, hq1, h1⟩ hE1 hI
  refine Run.callL fn_s_l4Program nm_s_l4Program hI (l4Program_calls (p := p1) (hrd.monoU hE1.1) (by omega)) rfl fun v2 I' S2 w' => ?_
  rintro ⟨p2, css2, q2, hp2, rfl, hR2, hq2, h2⟩ hE2 hI
  have hI : Inv w [br] [rowG v1 t_iClause 5 css1, rowG v2 t_iClause 5 css2, rdI br sl p2] S2 w' := hI
  have hI : Inv w [br] [rowG v2 t_iClause 5 css2, rdI br sl p2, rowG v1 t_iClause 5 css1] S2 w' := hI.last 0 rfl
  obtain ⟨S3, hE3, hI, hr⟩ := pub_prog hI hR2
  have hc1 := hR1.hc
  have hl1 := hq1.1
  have hl2 := hq2.1
  refine r_appendRd hI 1 (css := css1) mk_SiClause (by omega) rfl hr (fun _ _ => RdC.length) (fun _ _ => RdC.one) (by omega) (by omega) fun v' w' css3 hR3 hI => ?_
  have hI : Inv w [br] [rowG v' t_iClause 5 (css1 ++ css3), rdI br sl p2] S3 w' := hI.last 0 rfl
  exact ⟨_, _, S3, rfl, hI, (hE1.trans hE2).trans hE3, p2, css1 ++ css3, q1 ++ q2, by omega, rfl, (hR1.monoR fun _ _ h => RdC.mono (hE2.trans hE3).1 h).append hR3, hq1.append hq2, by rw [List.length_append]; omega⟩
end
end Go.Proofs.YtmnnpgdeecnfpaaGreat

/- spec.l4Clause. -/
namespace Go.Proofs.YtmnnpgdeecnfpaaGreat
open Go Go.RowKit
section
variable {br : Nat} {sl : Value} {ys : List Nat}
attribute [local irreducible] Run CondV GuardV LoadV
end
end Go.Proofs.YtmnnpgdeecnfpaaGreat

/- What calls what, and what can be reached: both sides. -/
namespace Go.Proofs.YtmnnpgdeecnfpaaGreat
open Go Go.RowKit
attribute [local irreducible] Run CondV GuardV LoadV

def addItems (B blk rA rB rC : Item) (d0 d2 d4 d5 : Bool) : List Item :=
  B :: ((match d4 with | true => [blk] | false => []) ++ (match d5, d2, d0 with | true, _, _ => [rC] | false, true, _ => [rB] | false, false, true => [rA] | false, false, false => []))
theorem l14Add_calls (x : Pd) (l : List Pd) (v : Value) (S : Store) (hl : l.length ≤ 1000000000) : Tri Tryz.prog n_s_l14Add [v, .agg x.cells.toArray] [rowP v l] S (PostP S (addP l x)) := by
  intro w hJ
  obtain ⟨xs, xn⟩ := x
  obtain ⟨X, hX⟩ : ∃ X, X = feet [rowP v l] := ⟨_, rfl⟩
  rw [← hX] at hJ ⊢
  refine calls_s_l14Add ?_
  unfold sh_s_l14Add
  refine r_box hJ fun b3 w' hJ => ?_
  have hJ := hJ.perm (M := [.blk b3 (.cells #[.string xs, .int .i64 xn] t_iPred), rowP v l]) (List.Perm.swap _ _ _)
  refine r_loadW hJ 0 ag_iPred rfl rfl ?_
  obtain ⟨S1, hle, hrd, hI, hback⟩ := Inv.lend (A := [_]) hJ
  have h := hrd.preds
  refine Run.callPure fn_s_l14Has nm_s_l14Has hI (l14Has_calls ⟨xs, xn⟩ h) fun w' hI => ?_
  refine condV (fun hb => ?_) (fun hb => ?_)
  · rw [addP, if_pos hb]
    exact ⟨_, _, _, rfl, Inv.pick (hback _ _ hI) [false, true], Ext.refl _ _ _, rfl, rfl⟩
  · rw [addP, if_neg (by rw [hb]; decide)]
    refine ⟨fun D x4 x14 x13 x12 x11 x10 x9 w_ => (D 0 = true → True) ∧ (D 1 = true → x10 = v) ∧ (D 2 = true → True) ∧ (D 3 = true → x12 = .agg #[.string xs, .int .i64 xn]) ∧ (D 4 = true → True) ∧ (D 5 = true → True) ∧ (D 6 = true → True) ∧ ∃ b13 : Nat, (D 4 = true → x13 = .slice (some ⟨b13, 0, none⟩) 1 1) ∧ (D 2 = true → D 0 = true) ∧ (D 5 = true → D 2 = true) ∧ (D 5 = true → D 4 = true) ∧ (D 6 = true → D 5 = true ∧ x4 = x14) ∧ Inv w X (addItems (.blk b3 (.cells #[.string xs, .int .i64 xn] t_iPred)) (.blk b13 (.cells #[.string xs, .int .i64 xn] t_iPred)) (rowP x9 []) (rowP x11 l) (rowP x14 (l ++ [⟨xs, xn⟩])) (D 0) (D 2) (D 4) (D 5)) S1 w_, ⟨fun h => Bool.noConfusion h, fun h => Bool.noConfusion h, fun h => Bool.noConfusion h, fun h => Bool.noConfusion h, fun h => Bool.noConfusion h, fun h => Bool.noConfusion h, fun h => Bool.noConfusion h, ⟨0, fun h => Bool.noConfusion h, fun h => Bool.noConfusion h, fun h => Bool.noConfusion h, fun h => Bool.noConfusion h, fun h => Bool.noConfusion h, hI.draw⟩⟩, ⟨?_, ?_, ?_, ?_, ?_, ?_, ?_, trivial⟩, ?_⟩
    · intro D hD_  x4 x14 x13 x12 x11 x10 x9 w_
      rintro ⟨h0_, h1_, h2_, h3_, h4_, h5_, h6_, ⟨b13, k4, k2, k5, k54, k6, hI⟩⟩
      have e2 : D 2 = false := Bool.eq_false_iff.2 fun h => by rw [k2 h] at hD_; cases hD_
      have e5 : D 5 = false := Bool.eq_false_iff.2 fun h => by rw [k5 h] at e2; cases e2
      refine r_slice0 hI mk_SiPred fun v9 w_ hI => ?_
      have k2 := fun (h : setD D 0 2 = true) => (show setD D 0 0 = true from rfl)
      have hI : Inv w X (addItems (.blk b3 (.cells #[.string xs, .int .i64 xn] t_iPred)) (.blk b13 (.cells #[.string xs, .int .i64 xn] t_iPred)) (rowP v9 []) (rowP x11 l) (rowP x14 (l ++ [⟨xs, xn⟩])) true (D 2) (D 4) (D 5)) S1 w_ := by
        rw [e2, e5] at hI ⊢
        rw [hD_] at hI
        cases h4 : D 4 <;> rw [h4] at hI <;> exact hI
      exact ⟨fun _ => by first | assumption | trivial, h1_, h2_, h3_, h4_, h5_, h6_, ⟨b13, k4, k2, k5, k54, k6, hI⟩⟩
    · intro D hD_  x4 x14 x13 x12 x11 x10 x9 w_
      rintro ⟨h0_, h1_, h2_, h3_, h4_, h5_, h6_, ⟨b13, k4, k2, k5, k54, k6, hI⟩⟩
      exact ⟨h0_, fun _ => rfl, h2_, h3_, h4_, h5_, h6_, ⟨b13, k4, k2, k5, k54, k6, hI⟩⟩
    · intro D hD_ d0_0 d1_1 x4 x14 x13 x12 x11 x10 x9 w_
      rintro ⟨h0_, h1_, h2_, h3_, h4_, h5_, h6_, ⟨b13, k4, k2, k5, k54, k6, hI⟩⟩
      have g0_ := h0_ d0_0
      obtain rfl := h1_ d1_1
      have e5 : D 5 = false := Bool.eq_false_iff.2 fun h => by rw [k5 h] at hD_; cases hD_
      have hI : Inv w X (addItems (.blk b3 (.cells #[.string xs, .int .i64 xn] t_iPred)) (.blk b13 (.cells #[.string xs, .int .i64 xn] t_iPred)) (rowP x9 []) (rowP x11 l) (rowP x14 (l ++ [⟨xs, xn⟩])) true false (D 4) false) S1 w_ := by
        rw [e5, hD_, d0_0] at hI
        exact hI
      have k2 := fun (h : setD D 2 2 = true) => (show setD D 2 0 = true from d0_0)
      have k5 := fun (h : setD D 2 5 = true) => (show setD D 2 2 = true from rfl)
      cases h4 : D 4
      · rw [h4] at hI
        refine r_appendSl (f := Pd.cells) hI 1 mk_SiPred (by omega) rfl h (fun _ _ h => h) (fun _ => rfl) (fun y c hc => by simp [Pd.cells] at hc; rcases hc with rfl | rfl <;> rfl) (by simp; omega) (by omega) fun v' w_ hI => ?_
        have hI : Inv w X (addItems (.blk b3 (.cells #[.string xs, .int .i64 xn] t_iPred)) (.blk b13 (.cells #[.string xs, .int .i64 xn] t_iPred)) (rowP x9 []) (rowP v' l) (rowP x14 (l ++ [⟨xs, xn⟩])) (D 0) true (D 4) (D 5)) S1 w_ := by
          rw [d0_0, h4, e5]
          have e : Item.row v' t_iPred 2 (([] : List Pd).length + l.length) (pds [] ++ l.flatMap Pd.cells) = rowP v' l := by simp [rowP, pds]
          exact e ▸ hI
        exact ⟨h0_, h1_, fun _ => trivial, h3_, h4_, h5_, h6_, ⟨b13, k4, k2, k5, k54, k6, hI⟩⟩
      rw [h4] at hI
      refine r_appendSl (f := Pd.cells) hI 2 mk_SiPred (by omega) rfl h (fun _ _ h => h) (fun _ => rfl) (fun y c hc => by simp [Pd.cells] at hc; rcases hc with rfl | rfl <;> rfl) (by simp; omega) (by omega) fun v' w_ hI => ?_
      have hI : Inv w X (addItems (.blk b3 (.cells #[.string xs, .int .i64 xn] t_iPred)) (.blk b13 (.cells #[.string xs, .int .i64 xn] t_iPred)) (rowP x9 []) (rowP v' l) (rowP x14 (l ++ [⟨xs, xn⟩])) (D 0) true (D 4) (D 5)) S1 w_ := by
        rw [d0_0, h4, e5]
        have e : Item.row v' t_iPred 2 (([] : List Pd).length + l.length) (pds [] ++ l.flatMap Pd.cells) = rowP v' l := by simp [rowP, pds]
        exact e ▸ hI
      exact ⟨h0_, h1_, fun _ => by first | assumption | trivial, h3_, h4_, h5_, h6_, ⟨b13, k4, k2, k5, k54, k6, hI⟩⟩
    · intro D hD_  x4 x14 x13 x12 x11 x10 x9 w_
      rintro ⟨h0_, h1_, h2_, h3_, h4_, h5_, h6_, ⟨b13, k4, k2, k5, k54, k6, hI⟩⟩
      refine r_loadW hI 0 ag_iPred rfl rfl ?_
      exact ⟨h0_, h1_, h2_, fun _ => rfl, h4_, h5_, h6_, ⟨b13, k4, k2, k5, k54, k6, hI⟩⟩
    · intro D hD_ d3_0 x4 x14 x13 x12 x11 x10 x9 w_
      rintro ⟨h0_, h1_, h2_, h3_, h4_, h5_, h6_, ⟨b13, k4, k2, k5, k54, k6, hI⟩⟩
      obtain rfl := h3_ d3_0
      have e5 : D 5 = false := Bool.eq_false_iff.2 fun h => by rw [k54 h] at hD_; cases hD_
      refine r_slice1 hI mk_SiPred rfl (by omega) (by omega) fun b13 w_ hI => ?_
      have k4 := fun (_ : setD D 4 4 = true) => (rfl : Value.slice (some ⟨b13, 0, none⟩) 1 1 = _)
      have k54 := fun (_ : setD D 4 5 = true) => (rfl : setD D 4 4 = true)
      have hI : Inv w X (addItems (.blk b3 (.cells #[.string xs, .int .i64 xn] t_iPred)) (.blk b13 (.cells #[.string xs, .int .i64 xn] t_iPred)) (rowP x9 []) (rowP x11 l) (rowP x14 (l ++ [⟨xs, xn⟩])) (D 0) (D 2) true (D 5)) S1 w_ := by
        rw [e5, hD_] at hI
        rw [e5]
        cases h0 : D 0 <;> cases h2 : D 2 <;> rw [h0, h2] at hI
        · exact hI
        · exact hI.perm ((List.Perm.swap _ _ _).cons _)
        · exact hI.perm ((List.Perm.swap _ _ _).cons _)
        · exact hI.perm ((List.Perm.swap _ _ _).cons _)
      exact ⟨h0_, h1_, h2_, h3_, fun _ => by first | assumption | trivial, h5_, h6_, ⟨b13, k4, k2, k5, k54, k6, hI⟩⟩
    · intro D hD_ d2_0 d4_1 d2_2 x4 x14 x13 x12 x11 x10 x9 w_
      rintro ⟨h0_, h1_, h2_, h3_, h4_, h5_, h6_, ⟨b13, k4, k2, k5, k54, k6, hI⟩⟩
      have g2_ := h2_ d2_0
      have g4_ := h4_ d4_1
      obtain rfl := k4 d4_1
      rw [d4_1, d2_0, hD_] at hI
      refine r_append hI 2 (k := 2) [.string xs, .int .i64 xn] mk_SiPred (by omega) rfl rfl ?_ ?_ (by omega) (by omega) fun v' w_ hI => ?_
      · intro j u hj
        rw [hI.cellL (i := 1) rfl]
        match j with
        | 0 | 1 => simpa [Value.cells] using hj
        | j + 2 => simp at hj
      · simp [Value.oneCell']
      have e : Item.row v' t_iPred 2 (l.length + 1) (pds l ++ [.string xs, .int .i64 xn]) = rowP v' (l ++ [⟨xs, xn⟩]) := by
        rw [show ([.string xs, .int .i64 xn] : List Value) = Pd.cells ⟨xs, xn⟩ from rfl, pds_snoc]; simp [rowP]
      have hI : Inv w X (addItems (.blk b3 (.cells #[.string xs, .int .i64 xn] t_iPred)) (.blk b13 (.cells #[.string xs, .int .i64 xn] t_iPred)) (rowP x9 []) (rowP x11 l) (rowP v' (l ++ [⟨xs, xn⟩])) (D 0) (D 2) (D 4) true) S1 w_ := by
        rw [d4_1]
        exact e ▸ hI
      have k5 := fun (_ : setD D 5 5 = true) => d2_0
      have k54 := fun (_ : setD D 5 5 = true) => d4_1
      have k6 : setD D 5 6 = true → setD D 5 5 = true ∧ x4 = v' := fun h => absurd (k6 h).1 (by rw [hD_]; decide)
      exact ⟨h0_, h1_, h2_, h3_, h4_, fun _ => by first | assumption | trivial, h6_, ⟨b13, k4, k2, k5, k54, k6, hI⟩⟩
    · intro D hD_ d5_0 d5_1 d0_2 d1_3 d2_4 d3_5 d4_6 d5_7 x4 x14 x13 x12 x11 x10 x9 w_
      rintro ⟨h0_, h1_, h2_, h3_, h4_, h5_, h6_, ⟨b13, k4, k2, k5, k54, k6, hI⟩⟩
      have g5_ := h5_ d5_0
      have k6 := fun (_ : setD D 6 6 = true) => (⟨d5_0, rfl⟩ : D 5 = true ∧ x14 = x14)
      exact ⟨h0_, h1_, h2_, h3_, h4_, h5_, fun _ => by first | assumption | trivial, ⟨b13, k4, k2, k5, k54, k6, hI⟩⟩
    intro D d6_ d5_ d4_ d3_ d2_ d1_ d0_ x4 x14 x13 x12 x11 x10 x9 w_
    rintro ⟨h0_, h1_, h2_, h3_, h4_, h5_, h6_, ⟨b13, k4, k2, k5, k54, k6, hI⟩⟩
    have g6_ := h6_ d6_
    have g5_ := h5_ d5_
    have g4_ := h4_ d4_
    obtain rfl := h3_ d3_
    have g2_ := h2_ d2_
    obtain rfl := h1_ d1_
    have g0_ := h0_ d0_
    clear h0_ h1_ h2_ h3_ h4_ h5_ h6_
    obtain ⟨_, rfl⟩ := k6 d6_
    rw [d5_, d4_] at hI
    exact ⟨_, _, _, rfl, (hI.less hle).pick [false, false, true], Ext.refl _ _ _, rfl, rfl⟩

end Go.Proofs.YtmnnpgdeecnfpaaGreat

/- The graph of calls: the plain form. -/
namespace Go.Proofs.YtmnnpgdeecnfpaaGreat
open Go Go.RowKit
attribute [local irreducible] Run CondV GuardV LoadV

def goalsP (l : List Pd) (ts : List T) : List Pd := ts.foldl (fun l t => if plainB t = true then addP l (predT t) else l) l
def callsFrom (l : List Pd) (p : List C) (x : Pd) : List Pd := p.foldl (fun l c => if eqPd (predT c.head) x = true then goalsP l c.body else l) l
def callsP (p : List C) (x : Pd) : List Pd := callsFrom [] p x
def addAll (l m : List Pd) : List Pd := m.foldl addP l
def reachF : Nat → List C → List Pd → Nat → List Pd
  | 0, _, l, _ => l
  | n + 1, p, l, i => if h : i < l.length then reachF n p (addAll l (callsP p l[i])) (i + 1) else l
def gPs (p : List C) : List Pd := p.flatMap fun c => c.body.map predT
def reachP (p : List C) (l : List Pd) : List Pd := reachF (l.length + (gPs p).length) p l 0
theorem goalsP_drop (l : List Pd) (ts : List T) (k : Nat) (h : k < ts.length) : goalsP l (ts.drop k) = goalsP (if plainB ts[k] = true then addP l (predT ts[k]) else l) (ts.drop (k + 1)) := by
  rw [List.drop_eq_getElem_cons h]; rfl
theorem callsFrom_drop (l : List Pd) (p : List C) (x : Pd) (k : Nat) (h : k < p.length) : callsFrom l (p.drop k) x = callsFrom (if eqPd (predT p[k].head) x = true then goalsP l p[k].body else l) (p.drop (k + 1)) x := by
  rw [List.drop_eq_getElem_cons h]; rfl
theorem addAll_drop (l m : List Pd) (k : Nat) (h : k < m.length) : addAll l (m.drop k) = addAll (addP l m[k]) (m.drop (k + 1)) := by
  rw [List.drop_eq_getElem_cons h]; rfl
theorem addP_len (l : List Pd) (x : Pd) : (addP l x).length ≤ l.length + 1 := by
  unfold addP
  split
  · omega
  · simp
theorem goalsP_len : ∀ (ts : List T) (l : List Pd), (goalsP l ts).length ≤ l.length + ts.length
  | [], l => Nat.le_refl _
  | t :: ts, l => by
    have h := goalsP_len ts (if plainB t = true then addP l (predT t) else l)
    have h2 := addP_len l (predT t)
    have e : goalsP l (t :: ts) = goalsP (if plainB t = true then addP l (predT t) else l) ts := rfl
    rw [e, List.length_cons]
    split at h <;> rename_i hp
    · rw [if_pos hp]; omega
    · rw [if_neg hp]; omega
theorem gPs_cons (c : C) (p : List C) : (gPs (c :: p)).length = c.body.length + (gPs p).length := by simp [gPs]
theorem gPs_le : ∀ p : List C, (gPs p).length ≤ wP p
  | [] => by simp [gPs]
  | c :: p => by
    have := gPs_le p
    rw [gPs_cons]
    simp only [wP, wC]
    omega
theorem callsFrom_len (x : Pd) : ∀ (p : List C) (l : List Pd), (callsFrom l p x).length ≤ l.length + (gPs p).length
  | [], l => Nat.le_add_right _ _
  | c :: p, l => by
    have h := callsFrom_len x p (if eqPd (predT c.head) x = true then goalsP l c.body else l)
    have h2 := goalsP_len c.body l
    have e : callsFrom l (c :: p) x = callsFrom (if eqPd (predT c.head) x = true then goalsP l c.body else l) p x := rfl
    rw [e, gPs_cons]
    split at h <;> rename_i hp
    · rw [if_pos hp]; omega
    · rw [if_neg hp]; omega
theorem goalsP_mem : ∀ (ts : List T) (l : List Pd) (y : Pd), y ∈ goalsP l ts → y ∈ l ∨ y ∈ ts.map predT
  | [], l, y, h => .inl h
  | t :: ts, l, y, h => by
    have e : goalsP l (t :: ts) = goalsP (if plainB t = true then addP l (predT t) else l) ts := rfl
    rw [e] at h
    rcases goalsP_mem ts _ y h with h | h
    · split at h
      · unfold addP at h
        split at h
        · exact .inl h
        · rcases List.mem_append.1 h with h | h
          · exact .inl h
          · simp at h; subst h; exact .inr (by simp)
      · exact .inl h
    · exact .inr (by simp at h ⊢; exact .inr h)
theorem callsFrom_mem (x : Pd) : ∀ (p : List C) (l : List Pd) (y : Pd), y ∈ callsFrom l p x → y ∈ l ∨ y ∈ gPs p
  | [], l, y, h => .inl h
  | c :: p, l, y, h => by
    have e : callsFrom l (c :: p) x = callsFrom (if eqPd (predT c.head) x = true then goalsP l c.body else l) p x := rfl
    have hG : ∀ z, z ∈ gPs (c :: p) ↔ z ∈ c.body.map predT ∨ z ∈ gPs p := fun z => by simp only [gPs, List.flatMap_cons, List.mem_append]
    rw [e] at h
    rcases callsFrom_mem x p _ y h with h | h
    · split at h
      · rcases goalsP_mem _ _ _ h with h | h
        · exact .inl h
        · exact .inr ((hG y).2 (.inl h))
      · exact .inl h
    · exact .inr ((hG y).2 (.inr h))
theorem callsP_mem {p : List C} {x y : Pd} (h : y ∈ callsP p x) : y ∈ gPs p := by
  rcases callsFrom_mem x p [] y h with h | h
  · simp at h
  · exact h
theorem callsP_len (p : List C) (x : Pd) : (callsP p x).length ≤ (gPs p).length := by
  have := callsFrom_len x p []
  simp at this
  exact this
/- what may still come in -/
def pot (G l : List Pd) : Nat := (G.filter fun g => !hasP l g).length
theorem pot_le (G l : List Pd) : pot G l ≤ G.length := List.length_filter_le ..
theorem hasP_snoc (l : List Pd) (x g : Pd) : hasP (l ++ [x]) g = (hasP l g || eqPd g x) := by simp [hasP]
theorem pot_snoc_le (l : List Pd) (x : Pd) : ∀ G : List Pd, pot G (l ++ [x]) ≤ pot G l
  | [] => Nat.le_refl _
  | g :: G => by
    have := pot_snoc_le l x G
    unfold pot at *
    rw [List.filter_cons, List.filter_cons, hasP_snoc]
    cases hasP l g <;> cases eqPd g x <;> simp <;> omega
theorem pot_snoc_lt (l : List Pd) (x : Pd) (hx : hasP l x = false) : ∀ G : List Pd, x ∈ G → pot G (l ++ [x]) + 1 ≤ pot G l
  | g :: G, h => by
    by_cases e : x = g
    · subst e
      have := pot_snoc_le l x G
      unfold pot at *
      rw [List.filter_cons, List.filter_cons, hasP_snoc, hx, eqPd_iff]
      simp
      omega
    · have h' : x ∈ G := by
        rcases List.mem_cons.1 h with h | h
        · exact absurd h e
        · exact h
      have := pot_snoc_lt l x hx G h'
      unfold pot at *
      rw [List.filter_cons, List.filter_cons, hasP_snoc]
      have e2 : eqPd g x = false := by rw [eqPd_iff]; exact decide_eq_false fun h => e h.symm
      rw [e2]
      cases hasP l g <;> simp <;> omega
theorem addP_pot {G l : List Pd} {x : Pd} (hx : x ∈ G) : (addP l x).length + pot G (addP l x) ≤ l.length + pot G l := by
  unfold addP
  split
  · exact Nat.le_refl _
  · rename_i h
    have := pot_snoc_lt l x (Bool.eq_false_iff.2 h) G hx
    rw [List.length_append, List.length_singleton]
    omega

/- rows of predicates: their length, an element -/
section
variable {P : Program} {w w0 : World} {X : List Nat} {L : List Item} {S : Store} {K : Value → World → Prop}
theorem Inv.toEnd {it : Item} (h : Inv w0 X L S w) (i : Nat) (hi : L[i]? = some it) : Inv w0 X ((L.take i ++ L.drop (i + 1)) ++ [it]) S w := by
  obtain ⟨h1, _⟩ := set_split hi it
  refine h.perm ?_
  conv => rhs; rw [h1]
  rw [List.append_assoc]
  exact List.Perm.append_left _ List.perm_append_comm
theorem r_lenRow (h : Inv w0 X L S w) {T ty : TypeId} {cs : List Bool} {v : Value} {l : List Pd} {Ek : TypeId × Nat} (i : Nat) (hi : L[i]? = some (rowP v l)) (hu : sliceOf P T = some Ek)
    (hk : K (.int .i64 l.length) w) : Run P (sBuiltin .len #[T] ty cs [v]) w K := by
  obtain ⟨S1, _, hrd, _, _⟩ := (h.toEnd i hi).lend
  exact r_lenSl hrd.preds hu hk
theorem r_elemRow (h : Inv w0 X L S w) {T U ty ty' E : TypeId} {v : Value} {l : List Pd} (i : Nat) (hi : L[i]? = some (rowP v l)) (hu : sliceOf P T = some (E, 2)) (hU : aggN P U = some 2)
    {j : Nat} (hj : j < l.length) (hk : K (.agg l[j].cells.toArray) w) :
    Run P (sOp (.indexAddr T (.const v) (.const (.int .i64 j))) ty) w fun p w' => Run P (sOp (.load U (.const p)) ty') w' K := by
  obtain ⟨S1, _, hrd, hI, _⟩ := (h.toEnd i hi).lend
  exact r_elem hI hrd.preds hu hU hj (fun cs x h => by rw [h]; rfl) fun cs hcs => by rw [hcs]; exact hk
end

theorem s_l14Goals_calls {ts : List T} {S : Store} {u v : Value} (l : List Pd) (h : RdSl S 4 (RdT S) u ts) (hl : l.length + ts.length ≤ 1000000000) : Tri Tryz.prog n_s_l14Goals [v, u] [rowP v l] S (PostP S (goalsP l ts)) := by
  intro w hI
  obtain ⟨X, hX⟩ : ∃ X, X = feet [rowP v l] := ⟨_, rfl⟩
  rw [← hX] at hI ⊢
  refine calls_s_l14Goals ?_
  unfold sh_s_l14Goals
  refine ⟨fun i t w' => ∃ (k : Nat) (m : List Pd), k ≤ ts.length ∧ i = .int .i64 k ∧ goalsP m (ts.drop k) = goalsP l ts ∧ m.length ≤ l.length + k ∧ Inv w X [rowP t m] S w', fun i _ _ => ts.length - (intOf i).toNat, ⟨0, l, Nat.zero_le _, rfl, rfl, Nat.le_refl _, hI⟩, ?_⟩
  intro t5 _ _ t0 _ _ _ _ _ _ _ _ _ _ _ _ _ _ _ _ w'
  rintro ⟨k, m, hk, rfl, hrel, hml, hI⟩
  refine r_lenSl h sl_SiTerm ?_
  refine r_lss ?_
  refine condP (fun hki => ?_) (fun hki => ?_)
  · have hk' : k < ts.length := by omega
    rw [goalsP_drop m ts k hk'] at hrel
    refine ⟨fun t w' => Inv w X [rowP t (if plainB ts[k] = true then addP m (predT ts[k]) else m)] S w', ?_, ?_⟩
    · refine r_elem hI h sl_SiTerm ag_iTerm hk' (fun _ _ => RdT.length) fun cs hcs => ?_
      refine Run.callPure fn_s_l4Plain nm_s_l4Plain hI (l4Plain_calls hcs) fun w' hI => ?_
      refine condV (fun hb => ?_) (fun hb => ?_)
      · refine r_elem hI h sl_SiTerm ag_iTerm hk' (fun _ _ => RdT.length) fun cs hcs => ?_
        refine Run.callPure fn_s_l14Of nm_s_l14Of hI (s_l14Of_calls hcs) fun w' hI => ?_
        refine Run.call (A := []) fn_s_l14Add nm_s_l14Add hI (l14Add_calls (predT ts[k]) m t0 S (by omega)) fun v' I' S' w' => ?_
        rintro ⟨rfl, rfl⟩ _ hI
        rw [if_pos hb]
        exact hI
      · rw [if_neg (by rw [hb]; decide)]
        exact hI
    · intro t0 _ _ _ _ _ _ _ _ _ _ _ _ w' hI
      refine r_add (by omega) ?_
      refine ⟨⟨k + 1, _, hk', rfl, hrel, ?_, hI⟩, by simp [intOf]; omega⟩
      have := addP_len m (predT ts[k])
      split <;> omega
  · have : k = ts.length := by omega
    subst this
    rw [List.drop_length] at hrel
    have hrel : m = goalsP l ts := hrel
    rw [← hrel]
    exact ⟨_, _, _, rfl, hI, Ext.refl _ _ _, rfl, rfl⟩

end Go.Proofs.YtmnnpgdeecnfpaaGreat

/- What the clauses for a name call: both sides. -/
namespace Go.Proofs.YtmnnpgdeecnfpaaGreat
open Go Go.RowKit
attribute [local irreducible] Run CondV GuardV LoadV

theorem i_called_calls {ts : List T} {S : Store} {u v : Value} (l : List Pd) (h : RdSl S 4 (RdT S) u ts) (hl : l.length + ts.length ≤ 1000000000) : Tri Tryz.prog n_i_called [u, v] [rowP v l] S (PostP S (goalsP l ts)) := by
  intro w hI
  obtain ⟨X, hX⟩ : ∃ X, X = feet [rowP v l] := ⟨_, rfl⟩
  rw [← hX] at hI ⊢
  refine calls_i_called ?_
  unfold sh_i_called
  refine r_lenSl h sl_SiTerm ?_
  refine ⟨fun i t w' => ∃ (k : Nat) (m : List Pd), k ≤ ts.length ∧ i = .int .i64 k ∧ goalsP m (ts.drop k) = goalsP l ts ∧ m.length ≤ l.length + k ∧ Inv w X [rowP t m] S w', fun i _ _ => ts.length - (intOf i).toNat, ⟨0, l, Nat.zero_le _, rfl, rfl, Nat.le_refl _, hI⟩, ?_⟩
  intro t9 _ t1 _ _ _ _ _ _ _ _ _ _ w'
  rintro ⟨k, m, hk, rfl, hrel, hml, hI⟩
  refine r_lss ?_
  refine condP (fun hki => ?_) (fun hki => ?_)
  · have hk' : k < ts.length := by omega
    rw [goalsP_drop m ts k hk'] at hrel
    refine ⟨fun t w' => Inv w X [rowP t (if plainB ts[k] = true then addP m (predT ts[k]) else m)] S w', ?_, ?_⟩
    · refine r_elem hI h sl_SiTerm ag_iTerm hk' (fun _ _ => RdT.length) fun cs hcs => ?_
      have hlc := hcs.length
      refine r_alloc hI zo_iTerm fun b6 w' hI => ?_
      refine r_storeW hI 1 rfl ag_iTerm (by simpa using hlc) rfl (by simpa using hcs.one) fun w' hI => ?_
      refine r_loadW hI 1 ag_iTerm rfl (by simpa using hlc) ?_
      refine Run.callPure fn_i_isPlain nm_i_isPlain hI (isPlain_calls hcs) fun w' hI => ?_
      refine condV (fun hb => ?_) (fun hb => ?_)
      · refine r_loadW hI 1 ag_iTerm rfl (by simpa using hlc) ?_
        refine Run.callPure fn_i_pred nm_i_pred hI (i_pred_calls hcs) fun w' hI => ?_
        have hI := hI.pick [true, false]
        refine Run.call (A := []) fn_i_addPred nm_i_addPred hI (addPred_calls (predT ts[k]) m t1 S (by omega)) fun v' I' S' w' => ?_
        rintro ⟨rfl, rfl⟩ _ hI
        rw [if_pos hb]
        exact hI
      · rw [if_neg (by rw [hb]; decide)]
        exact hI.pick [true, false]
    · intro t0 _ _ _ _ _ _ _ _ _ w' hI
      refine r_add (by omega) ?_
      refine ⟨⟨k + 1, _, hk', rfl, hrel, ?_, hI⟩, by simp [intOf]; omega⟩
      have := addP_len m (predT ts[k])
      split <;> omega
  · have : k = ts.length := by omega
    subst this
    rw [List.drop_length] at hrel
    have hrel : m = goalsP l ts := hrel
    rw [← hrel]
    exact ⟨_, _, _, rfl, hI, Ext.refl _ _ _, rfl, rfl⟩

theorem wP_at : ∀ (p : List C) (k : Nat) (h : k < p.length), p[k].body.length + (gPs (p.drop (k + 1))).length = (gPs (p.drop k)).length := by
  intro p k h
  rw [List.drop_eq_getElem_cons h, gPs_cons]

theorem s_l14Calls_calls {p : List C} {S : Store} {v : Value} (x : Pd) (h : RdSl S 5 (RdC S) v p) (hw : wP p ≤ 1100000) : Tri Tryz.prog n_s_l14Calls [v, .agg x.cells.toArray] [] S (PostP S (callsP p x)) := by
  intro w hI
  have hlen := h.le
  simp only [maxLen] at hlen
  have hg := gPs_le p
  obtain ⟨xs, xn⟩ := x
  refine calls_s_l14Calls ?_
  unfold sh_s_l14Calls
  refine r_box hI fun b3 w' hI => ?_
  refine r_slice0 hI mk_SiPred fun v0 w' hI => ?_
  refine ⟨fun i t w' => ∃ (k : Nat) (l : List Pd), k ≤ p.length ∧ i = .int .i64 k ∧ callsFrom l (p.drop k) ⟨xs, xn⟩ = callsP p ⟨xs, xn⟩ ∧ l.length + (gPs (p.drop k)).length ≤ 1100000 ∧
      Inv w [] [.blk b3 (.cells #[.string xs, .int .i64 xn] t_iPred), rowP t l] S w', fun i _ _ => p.length - (intOf i).toNat, ⟨0, [], Nat.zero_le _, rfl, rfl, by simp; omega, hI⟩, ?_⟩
  intro t6 _ _ t5 _ _ _ _ _ _ _ t21 t20 t19 t18 t17 t16 t15 t14 _ _ _ _ w'
  rintro ⟨k, l, hk, rfl, hrel, hl, hI⟩
  refine r_lenSl h sl_SiClause ?_
  refine r_lss ?_
  refine condP (fun hki => ?_) (fun hki => ?_)
  · have hk' : k < p.length := by omega
    rw [callsFrom_drop l p _ k hk'] at hrel
    have hgk := wP_at p k hk'
    have hgl := goalsP_len p[k].body l
    refine ⟨fun t w' => Inv w [] [.blk b3 (.cells #[.string xs, .int .i64 xn] t_iPred), rowP t (if eqPd (predT p[k].head) ⟨xs, xn⟩ = true then goalsP l p[k].body else l)] S w', ?_, ?_⟩
    · obtain ⟨b, o, cap, c, E, fz, rfl, hS, hR⟩ := h.at_ hk'
      obtain ⟨hd, ks2, hcs, h1, h2⟩ := hR
      obtain ⟨kv, rfl, _, _, hs1, hk1⟩ := RdT.iff.1 h1
      refine ⟨fun D x21 x20 x19 x18 x17 x16 x15 x14 w_ => (D 0 = true → x14 = .slice (some ⟨b, o, none⟩) p.length cap) ∧ (D 1 = true → x15 = .int .i64 k) ∧ (D 2 = true → x16 = .pointer (some ⟨b, o + k * 5, none⟩)) ∧ (D 3 = true → x17 = .pointer (some ⟨b, o + k * 5, none⟩)) ∧ (D 4 = true → x18 = .agg #[.int .i64 p[k].head.kind, .int .i64 p[k].head.n, .string p[k].head.name, kv]) ∧ (D 5 = true → x19 = .agg #[.string p[k].head.name, .int .i64 p[k].head.kids.length]) ∧ (D 6 = true → x20 = .agg #[.string xs, .int .i64 xn]) ∧ (D 7 = true → x21 = .bool (eqPd (predT p[k].head) ⟨xs, xn⟩)) ∧ Inv w [] [.blk b3 (.cells #[.string xs, .int .i64 xn] t_iPred), rowP t5 l] S w_, ⟨fun h => Bool.noConfusion h, fun h => Bool.noConfusion h, fun h => Bool.noConfusion h, fun h => Bool.noConfusion h, fun h => Bool.noConfusion h, fun h => Bool.noConfusion h, fun h => Bool.noConfusion h, fun h => Bool.noConfusion h, hI.draw⟩, ⟨?_, ?_, ?_, ?_, ?_, ?_, ?_, ?_, trivial⟩, ?_⟩
      · intro D hD_  x21 x20 x19 x18 x17 x16 x15 x14 w_
        rintro ⟨h0_, h1_, h2_, h3_, h4_, h5_, h6_, h7_, hI⟩
        exact ⟨fun _ => rfl, h1_, h2_, h3_, h4_, h5_, h6_, h7_, hI⟩
      · intro D hD_  x21 x20 x19 x18 x17 x16 x15 x14 w_
        rintro ⟨h0_, h1_, h2_, h3_, h4_, h5_, h6_, h7_, hI⟩
        exact ⟨h0_, fun _ => rfl, h2_, h3_, h4_, h5_, h6_, h7_, hI⟩
      · intro D hD_ d0_0 d1_1 x21 x20 x19 x18 x17 x16 x15 x14 w_
        rintro ⟨h0_, h1_, h2_, h3_, h4_, h5_, h6_, h7_, hI⟩
        obtain rfl := h0_ d0_0
        obtain rfl := h1_ d1_1
        refine r_indexAddr sl_SiClause hk' ?_
        exact ⟨h0_, h1_, fun _ => rfl, h3_, h4_, h5_, h6_, h7_, hI⟩
      · intro D hD_ d2_0 x21 x20 x19 x18 x17 x16 x15 x14 w_
        rintro ⟨h0_, h1_, h2_, h3_, h4_, h5_, h6_, h7_, hI⟩
        obtain rfl := h2_ d2_0
        refine r_field fo_iClause_0 ?_
        exact ⟨h0_, h1_, h2_, fun _ => rfl, h4_, h5_, h6_, h7_, hI⟩
      · intro D hD_ d3_0 x21 x20 x19 x18 x17 x16 x15 x14 w_
        rintro ⟨h0_, h1_, h2_, h3_, h4_, h5_, h6_, h7_, hI⟩
        obtain rfl := h3_ d3_0
        refine r_loadA (cs := [.int .i64 p[k].head.kind, .int .i64 p[k].head.n, .string p[k].head.name, kv]) ag_iTerm rfl (fun j v hj => by rw [hI.cellS hS]; exact cellsAt_get hcs j v (by match j, hj with | 0, hj => exact hj | 1, hj => exact hj | 2, hj => exact hj | 3, hj => exact hj | j + 4, hj => simp at hj)) ?_
        exact ⟨h0_, h1_, h2_, h3_, fun _ => rfl, h5_, h6_, h7_, hI⟩
      · intro D hD_ d4_0 x21 x20 x19 x18 x17 x16 x15 x14 w_
        rintro ⟨h0_, h1_, h2_, h3_, h4_, h5_, h6_, h7_, hI⟩
        obtain rfl := h4_ d4_0
        refine Run.callPure fn_s_l14Of nm_s_l14Of hI (s_l14Of_calls h1) fun w_ hI => ?_
        exact ⟨h0_, h1_, h2_, h3_, h4_, fun _ => rfl, h6_, h7_, hI⟩
      · intro D hD_  x21 x20 x19 x18 x17 x16 x15 x14 w_
        rintro ⟨h0_, h1_, h2_, h3_, h4_, h5_, h6_, h7_, hI⟩
        refine r_loadW hI 0 ag_iPred rfl rfl ?_
        exact ⟨h0_, h1_, h2_, h3_, h4_, h5_, fun _ => rfl, h7_, hI⟩
      · intro D hD_ d5_0 d6_1 x21 x20 x19 x18 x17 x16 x15 x14 w_
        rintro ⟨h0_, h1_, h2_, h3_, h4_, h5_, h6_, h7_, hI⟩
        obtain rfl := h5_ d5_0
        obtain rfl := h6_ d6_1
        refine r_peql ?_
        exact ⟨h0_, h1_, h2_, h3_, h4_, h5_, h6_, fun _ => rfl, hI⟩
      intro D d7_ d6_ d5_ d4_ d3_ d2_ d1_ d0_ x21 x20 x19 x18 x17 x16 x15 x14 w_
      rintro ⟨h0_, h1_, h2_, h3_, h4_, h5_, h6_, h7_, hI⟩
      obtain rfl := h7_ d7_
      obtain rfl := h6_ d6_
      obtain rfl := h5_ d5_
      obtain rfl := h4_ d4_
      obtain rfl := h3_ d3_
      obtain rfl := h2_ d2_
      obtain rfl := h1_ d1_
      obtain rfl := h0_ d0_
      clear h0_ h1_ h2_ h3_ h4_ h5_ h6_ h7_
      refine condV (fun hb => ?_) (fun hb => ?_)
      · refine r_indexAddr sl_SiClause hk' ?_
        refine r_field fo_iClause_1 ?_
        refine r_load sc_SiTerm (by rw [hI.cellS hS]; exact cellsAt_get hcs 4 _ rfl) ?_
        refine Run.call (A := [_]) fn_s_l14Goals nm_s_l14Goals hI (s_l14Goals_calls l h2 (by omega)) fun v' I' S' w' => ?_
        rintro ⟨rfl, rfl⟩ _ hI
        rw [if_pos hb]
        exact hI
      · rw [if_neg (by rw [hb]; decide)]
        exact hI
    · intro t5 _ _ _ _ _ _ _ _ _ _ _ _ _ _ _ w' hI
      refine r_add (by omega) ?_
      refine ⟨⟨k + 1, _, hk', rfl, hrel, ?_, hI⟩, by simp [intOf]; omega⟩
      split <;> omega
  · have : k = p.length := by omega
    subst this
    rw [List.drop_length] at hrel
    have hrel : l = callsP p ⟨xs, xn⟩ := hrel
    rw [← hrel]
    exact ⟨_, _, _, rfl, hI.pick [false, true], Ext.refl _ _ _, rfl, rfl⟩

/- the program's side goes over the clauses' numbers -/
def callsAt (p : List C) (l : List Pd) (ns : List Int) : List Pd := ns.foldl (fun l n => match p[n.toNat]? with | some c => goalsP l c.body | none => l) l
theorem callsAt_pos (p : List C) (x : Pd) : ∀ (q : List C) (k : Nat) (l : List Pd), p.drop k = q → callsAt p l (posOf (fun c => eqPd (predT c.head) x) q k) = callsFrom l q x
  | [], k, l, _ => rfl
  | c :: q, k, l, e => by
    have hk : k < p.length := by
      have : (p.drop k).length = (c :: q).length := by rw [e]
      simp at this; omega
    have hc : p[k]? = some c := by
      have := List.drop_eq_getElem_cons hk
      rw [e] at this
      rw [List.getElem?_eq_getElem hk]
      simp only [List.cons.injEq] at this
      rw [← this.1]
    have e' : p.drop (k + 1) = q := by rw [← List.drop_drop, e]; rfl
    have hrec := callsAt_pos p x q (k + 1)
    rw [posOf]
    by_cases hx : eqPd (predT c.head) x = true
    · rw [if_pos hx]
      have : callsAt p l ((k : Int) :: posOf (fun c => eqPd (predT c.head) x) q (k + 1)) = callsAt p (goalsP l c.body) (posOf (fun c => eqPd (predT c.head) x) q (k + 1)) := by
        simp only [callsAt, List.foldl_cons, Int.toNat_natCast, hc]
      rw [this, hrec _ e']
      show _ = callsFrom (if eqPd (predT c.head) x = true then goalsP l c.body else l) q x
      rw [if_pos hx]
    · rw [if_neg hx, hrec _ e']
      show _ = callsFrom (if eqPd (predT c.head) x = true then goalsP l c.body else l) q x
      rw [if_neg hx]
def bodiesN (p : List C) (ns : List Int) : Nat := (ns.map fun n => match p[n.toNat]? with | some c => c.body.length | none => 0).sum
theorem bodiesN_pos (p : List C) (f : C → Bool) : ∀ (q : List C) (k : Nat), p.drop k = q → bodiesN p (posOf f q k) ≤ (gPs q).length
  | [], k, _ => Nat.zero_le _
  | c :: q, k, e => by
    have hk : k < p.length := by
      have : (p.drop k).length = (c :: q).length := by rw [e]
      simp at this; omega
    have hc : p[k]? = some c := by
      have := List.drop_eq_getElem_cons hk
      rw [e] at this
      rw [List.getElem?_eq_getElem hk]
      simp only [List.cons.injEq] at this
      rw [← this.1]
    have e' : p.drop (k + 1) = q := by rw [← List.drop_drop, e]; rfl
    have hrec := bodiesN_pos p f q (k + 1) e'
    rw [posOf, gPs_cons]
    split
    · have : bodiesN p ((k : Int) :: posOf f q (k + 1)) = c.body.length + bodiesN p (posOf f q (k + 1)) := by
        simp only [bodiesN, List.map_cons, List.sum_cons, Int.toNat_natCast, hc]
      omega
    · omega

theorem i_callsOf_calls {p : List C} {S : Store} {v : Value} (x : Pd) (h : RdSl S 5 (RdC S) v p) (hp : p.length ≤ 1100000) (hw : wP p ≤ 1100000) : Tri Tryz.prog n_i_callsOf [v, .agg x.cells.toArray] [] S (PostP S (callsP p x)) := by
  intro w hI
  have hg := gPs_le p
  have hcall := callsAt_pos p x p 0 [] rfl
  have hb := bodiesN_pos p (fun c => eqPd (predT c.head) x) p 0 rfl
  have hn := posOf_len (fun c => eqPd (predT c.head) x) p 0
  have hat := posOf_at (fun c => eqPd (predT c.head) x) p 0
  obtain ⟨xs, xn⟩ := x
  refine calls_i_callsOf ?_
  unfold sh_i_callsOf
  refine r_box hI fun b3 w' hI => ?_
  refine r_loadW hI 0 ag_iPred rfl rfl ?_
  refine Run.call0 fn_i_clausesFor nm_i_clausesFor hI (clausesFor_calls ⟨xs, xn⟩ h (by omega)) fun v1 I' S2 w_ => ?_
  rintro ⟨rfl, rfl⟩ _ hI
  generalize posOf (fun c => eqPd (predT c.head) ⟨xs, xn⟩) p 0 = ns at hcall hb hn hat hI
  have hI : Inv w [] ([.blk b3 (.cells #[.string xs, .int .i64 xn] t_iPred)] ++ [rowI v1 ns]) S2 w_ := hI
  obtain ⟨S1, hle, hrd, hI, _⟩ := hI.lend
  have hr := hrd.ints
  have h' := h.monoC hle
  refine r_lenSl hr sl_Sint ?_
  refine ⟨fun i t w' => ∃ (k : Nat) (l : List Pd), k ≤ ns.length ∧ i = .int .i64 k ∧ callsAt p l (ns.drop k) = callsP p ⟨xs, xn⟩ ∧ l.length + bodiesN p (ns.drop k) ≤ 1100000 ∧
      Inv w [] [.blk b3 (.cells #[.string xs, .int .i64 xn] t_iPred), rowP t l] S1 w', fun i _ _ => ns.length - (intOf i).toNat, ⟨0, [], Nat.zero_le _, rfl, hcall, by simp; omega, hI.rowNil t_iPred 2⟩, ?_⟩
  intro t12 _ t5 _ _ _ _ _ _ _ _ _ _ _ w'
  rintro ⟨k, l, hk, rfl, hrel, hl, hI⟩
  refine r_lss ?_
  refine condP (fun hki => ?_) (fun hki => ?_)
  · have hk' : k < ns.length := by omega
    obtain ⟨j, _, hj0, hj, _⟩ := hat ns[k] (List.getElem_mem hk')
    have hj0 : ns[k] = (j : Int) := by omega
    rw [List.drop_eq_getElem_cons hk'] at hrel hl
    have hpj : p[ns[k].toNat]? = some p[j] := by rw [hj0, Int.toNat_natCast, List.getElem?_eq_getElem hj]
    have hrel : callsAt p (goalsP l p[j].body) (ns.drop (k + 1)) = callsP p ⟨xs, xn⟩ := by
      rw [← hrel]
      simp only [callsAt, List.foldl_cons, hpj]
    have hl : l.length + (p[j].body.length + bodiesN p (ns.drop (k + 1))) ≤ 1100000 := by
      simp only [bodiesN, List.map_cons, List.sum_cons, hpj] at hl
      exact hl
    have hgl := goalsP_len p[j].body l
    refine r_elem1 hI hr sl_Sint sc_int hk' (fun cs hcs => hcs) ?_
    rw [hj0]
    obtain ⟨b, o, cap, c, E, fz, rfl, hS, hR⟩ := h'.at_ hj
    obtain ⟨hd, ks2, hcs, h1, h2⟩ := hR
    obtain ⟨kv, rfl, _⟩ := RdT.iff.1 h1
    refine r_indexAddr sl_SiClause hj ?_
    refine r_field fo_iClause_1 ?_
    refine r_load sc_SiTerm (by rw [hI.cellS hS]; exact cellsAt_get hcs 4 _ rfl) ?_
    refine Run.call (A := [_]) fn_i_called nm_i_called hI (i_called_calls l h2 (by omega)) fun v' I' S' w' => ?_
    rintro ⟨rfl, rfl⟩ _ hI
    refine r_add (by omega) ?_
    exact ⟨⟨k + 1, _, hk', rfl, hrel, by omega, hI⟩, by simp [intOf]; omega⟩
  · have : k = ns.length := by omega
    subst this
    rw [List.drop_length] at hrel
    have hrel : l = callsP p ⟨xs, xn⟩ := hrel
    rw [← hrel]
    exact ⟨_, _, _, rfl, (hI.less hle).pick [false, true], Ext.refl _ _ _, rfl, rfl⟩

end Go.Proofs.YtmnnpgdeecnfpaaGreat

/- What some predicates can lead to: both sides. -/
namespace Go.Proofs.YtmnnpgdeecnfpaaGreat
open Go Go.RowKit
attribute [local irreducible] Run CondV GuardV LoadV

theorem reachF_end (n : Nat) (p : List C) (l : List Pd) (i : Nat) (h : ¬ i < l.length) : reachF n p l i = l := by
  cases n with
  | zero => rfl
  | succ n => rw [reachF, dif_neg h]
theorem addP_ge (l : List Pd) (x : Pd) : l.length ≤ (addP l x).length := by
  unfold addP
  split
  · exact Nat.le_refl _
  · simp
theorem s_l14Reach_calls {p : List C} {S : Store} {pv v : Value} (l : List Pd) (h : RdSl S 5 (RdC S) pv p) (hp : p.length ≤ 1100000) (hw : wP p ≤ 1100000) (hl : l.length ≤ 1100000) :
    Tri Tryz.prog n_s_l14Reach [pv, v] [rowP v l] S (PostP S (reachP p l)) := by
  intro w hI
  have hg := gPs_le p
  have : p.length + wP p ≤ 2200000 := by omega
  obtain ⟨X, hX⟩ : ∃ X, X = feet [rowP v l] := ⟨_, rfl⟩
  rw [← hX] at hI ⊢
  refine calls_s_l14Reach ?_
  unfold sh_s_l14Reach
  obtain ⟨M, hM⟩ : ∃ M, M = l.length + (gPs p).length := ⟨_, rfl⟩
  have hr : reachP p l = reachF M p l 0 := by rw [reachP, hM]
  rw [hr]
  have hpot := pot_le (gPs p) l
  refine ⟨fun i t w' => ∃ (k : Nat) (m : List Pd), k ≤ m.length ∧ i = .int .i64 k ∧ reachF (M - k) p m k = reachF M p l 0 ∧ m.length + pot (gPs p) m ≤ M ∧ Inv w X [rowP t m] S w', fun i _ _ => M - (intOf i).toNat, ⟨0, l, Nat.zero_le _, rfl, rfl, by omega, hI⟩, ?_⟩
  intro t6 _ _ _ _ t5 _ _ _ _ _ _ _ _ _ _ _ _ _ _ _ _ _ _ _ _ _ _ w'
  rintro ⟨k, m, hk, rfl, hrel, hm, hI⟩
  refine r_lenRow hI 0 rfl sl_SiPred ?_
  refine r_lss ?_
  refine condP (fun hki => ?_) (fun hki => ?_)
  · have hk' : k < m.length := by omega
    obtain ⟨n, hn⟩ : ∃ n, M - k = n + 1 := ⟨M - k - 1, by omega⟩
    rw [hn, reachF, dif_pos hk'] at hrel
    refine r_elemRow hI 0 rfl sl_SiPred ag_iPred hk' ?_
    have hc := callsP_len p m[k]
    have hcm : ∀ y ∈ callsP p m[k], y ∈ gPs p := fun y hy => callsP_mem hy
    have hcalls : ∀ x : Pd, Tri Tryz.prog n_s_l14Calls [pv, .agg x.cells.toArray] [] S (PostP S (callsP p x)) := fun x => s_l14Calls_calls x h hw
    refine Run.call0 fn_s_l14Calls nm_s_l14Calls hI (hcalls m[k]) fun u I' S2 w' => ?_
    rintro ⟨rfl, rfl⟩ _ hI
    generalize callsP p m[k] = cs at hc hcm hrel hI
    have hI := hI.perm (M := [rowP u cs, rowP t5 m]) (List.Perm.swap _ _ _)
    refine ⟨fun i t w' => ∃ (j : Nat) (m' : List Pd), j ≤ cs.length ∧ i = .int .i64 j ∧ addAll m' (cs.drop j) = addAll m cs ∧ m'.length + pot (gPs p) m' ≤ M ∧ m.length ≤ m'.length ∧ Inv w X [rowP u cs, rowP t m'] S2 w', fun i _ _ => cs.length - (intOf i).toNat, ⟨0, m, Nat.zero_le _, rfl, rfl, hm, Nat.le_refl _, hI⟩, ?_⟩
    intro t8 _ _ t5 _ _ _ _ _ _ _ _ _ _ w'
    rintro ⟨j, m', hj, rfl, hrel2, hm', hmm, hI⟩
    refine r_lenRow hI 0 rfl sl_SiPred ?_
    refine r_lss ?_
    refine condP (fun hji => ?_) (fun hji => ?_)
    · have hj' : j < cs.length := by omega
      rw [addAll_drop m' cs j hj'] at hrel2
      have hpp := addP_pot (l := m') (hcm _ (List.getElem_mem hj'))
      have hge := addP_ge m' cs[j]
      refine r_elemRow hI 0 rfl sl_SiPred ag_iPred hj' ?_
      refine Run.call (A := [_]) fn_s_l14Add nm_s_l14Add hI (l14Add_calls cs[j] m' t5 S2 (by omega)) fun v' I' S3 w' => ?_
      rintro ⟨rfl, rfl⟩ _ hI
      refine r_add (by omega) ?_
      exact ⟨⟨j + 1, _, hj', rfl, hrel2, by omega, by omega, hI⟩, by simp [intOf]; omega⟩
    · have : j = cs.length := by omega
      subst this
      rw [List.drop_length] at hrel2
      have hrel2 : m' = addAll m cs := hrel2
      subst hrel2
      refine r_add (by omega) ?_
      exact ⟨⟨k + 1, _, by omega, rfl, by rw [show M - (k + 1) = n by omega]; exact hrel, hm', hI.pick [false, true]⟩, by simp [intOf]; omega⟩
  · have : k = m.length := by omega
    rw [reachF_end _ _ _ _ (by omega)] at hrel
    rw [← hrel]
    exact ⟨_, _, _, rfl, hI, Ext.refl _ _ _, rfl, rfl⟩
theorem i_reach_calls {p : List C} {S : Store} {pv v : Value} (l : List Pd) (h : RdSl S 5 (RdC S) pv p) (hp : p.length ≤ 1100000) (hw : wP p ≤ 1100000) (hl : l.length ≤ 1100000) :
    Tri Tryz.prog n_i_reach [pv, v] [rowP v l] S (PostP S (reachP p l)) := by
  intro w hI
  have hg := gPs_le p
  have : p.length + wP p ≤ 2200000 := by omega
  obtain ⟨X, hX⟩ : ∃ X, X = feet [rowP v l] := ⟨_, rfl⟩
  rw [← hX] at hI ⊢
  refine calls_i_reach ?_
  unfold sh_i_reach
  obtain ⟨M, hM⟩ : ∃ M, M = l.length + (gPs p).length := ⟨_, rfl⟩
  have hr : reachP p l = reachF M p l 0 := by rw [reachP, hM]
  rw [hr]
  have hpot := pot_le (gPs p) l
  refine ⟨fun i t w' => ∃ (k : Nat) (m : List Pd), k ≤ m.length ∧ i = .int .i64 k ∧ reachF (M - k) p m k = reachF M p l 0 ∧ m.length + pot (gPs p) m ≤ M ∧ Inv w X [rowP t m] S w', fun i _ _ => M - (intOf i).toNat, ⟨0, l, Nat.zero_le _, rfl, rfl, by omega, hI⟩, ?_⟩
  intro t5 _ _ _ t1 _ _ _ _ _ _ _ _ _ _ _ _ _ _ _ _ _ _ _ w'
  rintro ⟨k, m, hk, rfl, hrel, hm, hI⟩
  refine r_lenRow hI 0 rfl sl_SiPred ?_
  refine r_lss ?_
  refine condP (fun hki => ?_) (fun hki => ?_)
  · have hk' : k < m.length := by omega
    obtain ⟨n, hn⟩ : ∃ n, M - k = n + 1 := ⟨M - k - 1, by omega⟩
    rw [hn, reachF, dif_pos hk'] at hrel
    refine r_elemRow hI 0 rfl sl_SiPred ag_iPred hk' ?_
    have hc := callsP_len p m[k]
    have hcm : ∀ y ∈ callsP p m[k], y ∈ gPs p := fun y hy => callsP_mem hy
    have hcalls : ∀ x : Pd, Tri Tryz.prog n_i_callsOf [pv, .agg x.cells.toArray] [] S (PostP S (callsP p x)) := fun x => i_callsOf_calls x h hp hw
    refine Run.call0 fn_i_callsOf nm_i_callsOf hI (hcalls m[k]) fun u I' S2 w' => ?_
    rintro ⟨rfl, rfl⟩ _ hI
    generalize callsP p m[k] = cs at hc hcm hrel hI
    have hI := hI.perm (M := [rowP u cs, rowP t1 m]) (List.Perm.swap _ _ _)
    refine r_lenRow hI 0 rfl sl_SiPred ?_
    refine ⟨fun i t w' => ∃ (j : Nat) (m' : List Pd), j ≤ cs.length ∧ i = .int .i64 j ∧ addAll m' (cs.drop j) = addAll m cs ∧ m'.length + pot (gPs p) m' ≤ M ∧ m.length ≤ m'.length ∧ Inv w X [rowP u cs, rowP t m'] S2 w', fun i _ _ => cs.length - (intOf i).toNat, ⟨0, m, Nat.zero_le _, rfl, rfl, hm, Nat.le_refl _, hI⟩, ?_⟩
    intro t21 _ t1 _ _ _ _ _ _ _ w'
    rintro ⟨j, m', hj, rfl, hrel2, hm', hmm, hI⟩
    refine r_lss ?_
    refine condP (fun hji => ?_) (fun hji => ?_)
    · have hj' : j < cs.length := by omega
      rw [addAll_drop m' cs j hj'] at hrel2
      have hpp := addP_pot (l := m') (hcm _ (List.getElem_mem hj'))
      have hge := addP_ge m' cs[j]
      refine r_elemRow hI 0 rfl sl_SiPred ag_iPred hj' ?_
      refine r_alloc hI zo_iPred fun b7 w' hI => ?_
      refine r_storeW hI 2 rfl ag_iPred rfl rfl (by simp [Pd.cells, Value.oneCell']) fun w' hI => ?_
      refine r_loadW hI 2 ag_iPred rfl rfl ?_
      have hI := hI.pick [true, true, false]
      refine Run.call (A := [_]) fn_i_addPred nm_i_addPred hI (addPred_calls cs[j] m' t1 S2 (by omega)) fun v' I' S3 w' => ?_
      rintro ⟨rfl, rfl⟩ _ hI
      refine r_add (by omega) ?_
      exact ⟨⟨j + 1, _, hj', rfl, hrel2, by omega, by omega, hI⟩, by simp [intOf]; omega⟩
    · have : j = cs.length := by omega
      subst this
      rw [List.drop_length] at hrel2
      have hrel2 : m' = addAll m cs := hrel2
      subst hrel2
      refine r_add (by omega) ?_
      exact ⟨⟨k + 1, _, by omega, rfl, by rw [show M - (k + 1) = n by omega]; exact hrel, hm', hI.pick [false, true]⟩, by simp [intOf]; omega⟩
  · have : k = m.length := by omega
    rw [reachF_end _ _ _ _ (by omega)] at hrel
    rw [← hrel]
    exact ⟨_, _, _, rfl, hI, Ext.refl _ _ _, rfl, rfl⟩

end Go.Proofs.YtmnnpgdeecnfpaaGreat

/- Which predicates can lead to themselves: both sides. -/
namespace Go.Proofs.YtmnnpgdeecnfpaaGreat
open Go Go.RowKit
attribute [local irreducible] Run CondV GuardV LoadV

def recurB (p : List C) (x : Pd) : Bool := progB p && hasP (reachP p (callsP p x)) x
def recItems (B rA rB : Item) (d6 d7 : Bool) : List Item := B :: (match d7, d6 with | true, _ => [rB] | false, true => [rA] | false, false => [])
theorem s_RecursivePred_calls {p : List C} {S : Store} {v : Value} (x : Pd) (h : RdSl S 5 (RdC S) v p) (hw : p.length + wP p ≤ 1048576) : Pure Tryz.prog n_s_RecursivePred [v, .agg x.cells.toArray] S (.bool (recurB p x)) := by
  intro w hI
  have hg := gPs_le p
  have hcl := callsP_len p x
  obtain ⟨xs, xn⟩ := x
  refine calls_s_RecursivePred ?_
  unfold sh_s_RecursivePred
  refine r_box hI fun b3 w' hI => ?_
  have hI : Inv w [] [.blk b3 (.cells #[.string xs, .int .i64 xn] t_iPred)] S w' := hI
  cases hv : progB p
  · clear hg hcl
    refine ⟨fun D x4 x15 x14 x13 x12 x11 x10 x9 x8 x7 x6 x5 w_ => (D 0 = true → x5 = v) ∧ (D 1 = true → x6 = .bool false) ∧ (D 2 = true → x7 = .bool false) ∧ (D 3 = true → x8 = undef) ∧ (D 4 = true → x9 = undef) ∧ (D 5 = true → x10 = undef) ∧ (D 6 = true → x11 = undef) ∧ (D 7 = true → x12 = undef) ∧ (D 8 = true → x13 = undef) ∧ (D 9 = true → x14 = undef) ∧ (D 10 = true → x15 = .bool false) ∧ (D 11 = true → x4 = .bool false) ∧ Inv w [] [.blk b3 (.cells #[.string xs, .int .i64 xn] t_iPred)] S w_, ⟨fun h => Bool.noConfusion h, fun h => Bool.noConfusion h, fun h => Bool.noConfusion h, fun h => Bool.noConfusion h, fun h => Bool.noConfusion h, fun h => Bool.noConfusion h, fun h => Bool.noConfusion h, fun h => Bool.noConfusion h, fun h => Bool.noConfusion h, fun h => Bool.noConfusion h, fun h => Bool.noConfusion h, fun h => Bool.noConfusion h, hI.draw⟩, ⟨?_, ?_, ?_, ?_, ?_, ?_, ?_, ?_, ?_, ?_, ?_, ?_, trivial⟩, ?_⟩
    · intro D hD_  x4 x15 x14 x13 x12 x11 x10 x9 x8 x7 x6 x5 w_
      rintro ⟨h0_, h1_, h2_, h3_, h4_, h5_, h6_, h7_, h8_, h9_, h10_, h11_, hI⟩
      exact ⟨fun _ => rfl, h1_, h2_, h3_, h4_, h5_, h6_, h7_, h8_, h9_, h10_, h11_, hI⟩
    · intro D hD_ d0_0 x4 x15 x14 x13 x12 x11 x10 x9 x8 x7 x6 x5 w_
      rintro ⟨h0_, h1_, h2_, h3_, h4_, h5_, h6_, h7_, h8_, h9_, h10_, h11_, hI⟩
      obtain rfl := h0_ d0_0
      refine Run.callPure fn_s_ProgramValid nm_s_ProgramValid hI (s_ProgramValid_calls h (by omega)) fun w_ hI => ?_; rw [hv]
      exact ⟨h0_, fun _ => rfl, h2_, h3_, h4_, h5_, h6_, h7_, h8_, h9_, h10_, h11_, hI⟩
    · intro D hD_ d1_0 d1_1 x4 x15 x14 x13 x12 x11 x10 x9 x8 x7 x6 x5 w_
      rintro ⟨h0_, h1_, h2_, h3_, h4_, h5_, h6_, h7_, h8_, h9_, h10_, h11_, hI⟩
      obtain rfl := h1_ d1_0
      exact ⟨h0_, h1_, fun _ => rfl, h3_, h4_, h5_, h6_, h7_, h8_, h9_, h10_, h11_, hI⟩
    · intro D hD_ d2_0 x4 x15 x14 x13 x12 x11 x10 x9 x8 x7 x6 x5 w_
      rintro ⟨h0_, h1_, h2_, h3_, h4_, h5_, h6_, h7_, h8_, h9_, h10_, h11_, hI⟩
      obtain rfl := h2_ d2_0
      repeat (first | refine guard_true ?_ | refine guard_ne (by decide) ?_ | refine guard_undef ?_ | refine r_pickT ?_ | refine r_pickF ?_)
      exact ⟨h0_, h1_, h2_, fun _ => rfl, h4_, h5_, h6_, h7_, h8_, h9_, h10_, h11_, hI⟩
    · intro D hD_ d2_0 x4 x15 x14 x13 x12 x11 x10 x9 x8 x7 x6 x5 w_
      rintro ⟨h0_, h1_, h2_, h3_, h4_, h5_, h6_, h7_, h8_, h9_, h10_, h11_, hI⟩
      obtain rfl := h2_ d2_0
      repeat (first | refine guard_true ?_ | refine guard_ne (by decide) ?_ | refine guard_undef ?_ | refine r_pickT ?_ | refine r_pickF ?_)
      exact ⟨h0_, h1_, h2_, h3_, fun _ => rfl, h5_, h6_, h7_, h8_, h9_, h10_, h11_, hI⟩
    · intro D hD_ d2_0 x4 x15 x14 x13 x12 x11 x10 x9 x8 x7 x6 x5 w_
      rintro ⟨h0_, h1_, h2_, h3_, h4_, h5_, h6_, h7_, h8_, h9_, h10_, h11_, hI⟩
      obtain rfl := h2_ d2_0
      repeat (first | refine guard_true ?_ | refine guard_ne (by decide) ?_ | refine guard_undef ?_ | refine r_pickT ?_ | refine r_pickF ?_)
      exact ⟨h0_, h1_, h2_, h3_, h4_, fun _ => rfl, h6_, h7_, h8_, h9_, h10_, h11_, hI⟩
    · intro D hD_ d4_0 d5_1 d2_2 d2_3 x4 x15 x14 x13 x12 x11 x10 x9 x8 x7 x6 x5 w_
      rintro ⟨h0_, h1_, h2_, h3_, h4_, h5_, h6_, h7_, h8_, h9_, h10_, h11_, hI⟩
      obtain rfl := h4_ d4_0
      obtain rfl := h5_ d5_1
      obtain rfl := h2_ d2_2
      repeat (first | refine guard_true ?_ | refine guard_ne (by decide) ?_ | refine guard_undef ?_ | refine r_pickT ?_ | refine r_pickF ?_)
      exact ⟨h0_, h1_, h2_, h3_, h4_, h5_, fun _ => rfl, h7_, h8_, h9_, h10_, h11_, hI⟩
    · intro D hD_ d3_0 d6_1 d6_2 d2_3 x4 x15 x14 x13 x12 x11 x10 x9 x8 x7 x6 x5 w_
      rintro ⟨h0_, h1_, h2_, h3_, h4_, h5_, h6_, h7_, h8_, h9_, h10_, h11_, hI⟩
      obtain rfl := h3_ d3_0
      obtain rfl := h6_ d6_1
      obtain rfl := h2_ d2_3
      repeat (first | refine guard_true ?_ | refine guard_ne (by decide) ?_ | refine guard_undef ?_ | refine r_pickT ?_ | refine r_pickF ?_)
      exact ⟨h0_, h1_, h2_, h3_, h4_, h5_, h6_, fun _ => rfl, h8_, h9_, h10_, h11_, hI⟩
    · intro D hD_ d2_0 x4 x15 x14 x13 x12 x11 x10 x9 x8 x7 x6 x5 w_
      rintro ⟨h0_, h1_, h2_, h3_, h4_, h5_, h6_, h7_, h8_, h9_, h10_, h11_, hI⟩
      obtain rfl := h2_ d2_0
      repeat (first | refine guard_true ?_ | refine guard_ne (by decide) ?_ | refine guard_undef ?_ | refine r_pickT ?_ | refine r_pickF ?_)
      exact ⟨h0_, h1_, h2_, h3_, h4_, h5_, h6_, h7_, fun _ => rfl, h9_, h10_, h11_, hI⟩
    · intro D hD_ d7_0 d8_1 d7_2 d2_3 x4 x15 x14 x13 x12 x11 x10 x9 x8 x7 x6 x5 w_
      rintro ⟨h0_, h1_, h2_, h3_, h4_, h5_, h6_, h7_, h8_, h9_, h10_, h11_, hI⟩
      obtain rfl := h7_ d7_0
      obtain rfl := h8_ d8_1
      obtain rfl := h2_ d2_3
      repeat (first | refine guard_true ?_ | refine guard_ne (by decide) ?_ | refine guard_undef ?_ | refine r_pickT ?_ | refine r_pickF ?_)
      exact ⟨h0_, h1_, h2_, h3_, h4_, h5_, h6_, h7_, h8_, fun _ => rfl, h10_, h11_, hI⟩
    · intro D hD_ d2_0 d9_1 x4 x15 x14 x13 x12 x11 x10 x9 x8 x7 x6 x5 w_
      rintro ⟨h0_, h1_, h2_, h3_, h4_, h5_, h6_, h7_, h8_, h9_, h10_, h11_, hI⟩
      obtain rfl := h2_ d2_0
      obtain rfl := h9_ d9_1
      repeat (first | refine guard_true ?_ | refine guard_ne (by decide) ?_ | refine guard_undef ?_ | refine r_pickT ?_ | refine r_pickF ?_)
      exact ⟨h0_, h1_, h2_, h3_, h4_, h5_, h6_, h7_, h8_, h9_, fun _ => rfl, h11_, hI⟩
    · intro D hD_ d10_0 d9_1 d0_2 d1_3 d2_4 d3_5 d4_6 d5_7 d6_8 d7_9 d8_10 d9_11 d10_12 x4 x15 x14 x13 x12 x11 x10 x9 x8 x7 x6 x5 w_
      rintro ⟨h0_, h1_, h2_, h3_, h4_, h5_, h6_, h7_, h8_, h9_, h10_, h11_, hI⟩
      obtain rfl := h10_ d10_0
      exact ⟨h0_, h1_, h2_, h3_, h4_, h5_, h6_, h7_, h8_, h9_, h10_, fun _ => rfl, hI⟩
    intro D d11_ d10_ d9_ d8_ d7_ d6_ d5_ d4_ d3_ d2_ d1_ d0_ x4 x15 x14 x13 x12 x11 x10 x9 x8 x7 x6 x5 w_
    rintro ⟨h0_, h1_, h2_, h3_, h4_, h5_, h6_, h7_, h8_, h9_, h10_, h11_, hI⟩
    obtain rfl := h11_ d11_
    obtain rfl := h10_ d10_
    obtain rfl := h9_ d9_
    obtain rfl := h8_ d8_
    obtain rfl := h7_ d7_
    obtain rfl := h6_ d6_
    obtain rfl := h5_ d5_
    obtain rfl := h4_ d4_
    obtain rfl := h3_ d3_
    obtain rfl := h2_ d2_
    obtain rfl := h1_ d1_
    obtain rfl := h0_ d0_
    clear h0_ h1_ h2_ h3_ h4_ h5_ h6_ h7_ h8_ h9_ h10_ h11_
    exact done hI (by rw [recurB, hv]; rfl)
  · obtain ⟨cs, hcs⟩ : ∃ cs, cs = callsP p ⟨xs, xn⟩ := ⟨_, rfl⟩
    have hrs : ∀ u, Tri Tryz.prog n_s_l14Reach [v, u] [rowP u cs] S (PostP S (reachP p cs)) := fun u => s_l14Reach_calls cs h (by omega) (by omega) (by rw [hcs]; omega)
    have hcc := s_l14Calls_calls ⟨xs, xn⟩ h (by omega)
    rw [← hcs] at hcc
    refine ⟨fun D x4 x15 x14 x13 x12 x11 x10 x9 x8 x7 x6 x5 w_ => (D 0 = true → x5 = v) ∧ (D 1 = true → x6 = .bool true) ∧ (D 2 = true → x7 = .bool true) ∧ (D 3 = true → x8 = v) ∧ (D 4 = true → x9 = v) ∧ (D 5 = true → x10 = .agg #[.string xs, .int .i64 xn]) ∧ (D 6 = true → True) ∧ (D 7 = true → True) ∧ (D 8 = true → x13 = .agg #[.string xs, .int .i64 xn]) ∧ (D 9 = true → x14 = .bool (hasP (reachP p cs) ⟨xs, xn⟩)) ∧ (D 10 = true → x15 = .bool (hasP (reachP p cs) ⟨xs, xn⟩)) ∧ (D 11 = true → x4 = .bool (hasP (reachP p cs) ⟨xs, xn⟩)) ∧ (D 7 = true → D 6 = true) ∧ Inv w [] (recItems (.blk b3 (.cells #[.string xs, .int .i64 xn] t_iPred)) (rowP x11 cs) (rowP x12 (reachP p cs)) (D 6) (D 7)) S w_, ⟨fun h => Bool.noConfusion h, fun h => Bool.noConfusion h, fun h => Bool.noConfusion h, fun h => Bool.noConfusion h, fun h => Bool.noConfusion h, fun h => Bool.noConfusion h, fun h => Bool.noConfusion h, fun h => Bool.noConfusion h, fun h => Bool.noConfusion h, fun h => Bool.noConfusion h, fun h => Bool.noConfusion h, fun h => Bool.noConfusion h, ⟨fun h => Bool.noConfusion h, hI.draw⟩⟩, ⟨?_, ?_, ?_, ?_, ?_, ?_, ?_, ?_, ?_, ?_, ?_, ?_, trivial⟩, ?_⟩
    · intro D hD_  x4 x15 x14 x13 x12 x11 x10 x9 x8 x7 x6 x5 w_
      rintro ⟨h0_, h1_, h2_, h3_, h4_, h5_, h6_, h7_, h8_, h9_, h10_, h11_, ⟨k7, hI⟩⟩
      exact ⟨fun _ => rfl, h1_, h2_, h3_, h4_, h5_, h6_, h7_, h8_, h9_, h10_, h11_, ⟨k7, hI⟩⟩
    · intro D hD_ d0_0 x4 x15 x14 x13 x12 x11 x10 x9 x8 x7 x6 x5 w_
      rintro ⟨h0_, h1_, h2_, h3_, h4_, h5_, h6_, h7_, h8_, h9_, h10_, h11_, ⟨k7, hI⟩⟩
      obtain rfl := h0_ d0_0
      refine Run.callPure fn_s_ProgramValid nm_s_ProgramValid hI (s_ProgramValid_calls h (by omega)) fun w_ hI => ?_; rw [hv]
      exact ⟨h0_, fun _ => rfl, h2_, h3_, h4_, h5_, h6_, h7_, h8_, h9_, h10_, h11_, ⟨k7, hI⟩⟩
    · intro D hD_ d1_0 d1_1 x4 x15 x14 x13 x12 x11 x10 x9 x8 x7 x6 x5 w_
      rintro ⟨h0_, h1_, h2_, h3_, h4_, h5_, h6_, h7_, h8_, h9_, h10_, h11_, ⟨k7, hI⟩⟩
      obtain rfl := h1_ d1_0
      exact ⟨h0_, h1_, fun _ => rfl, h3_, h4_, h5_, h6_, h7_, h8_, h9_, h10_, h11_, ⟨k7, hI⟩⟩
    · intro D hD_ d2_0 x4 x15 x14 x13 x12 x11 x10 x9 x8 x7 x6 x5 w_
      rintro ⟨h0_, h1_, h2_, h3_, h4_, h5_, h6_, h7_, h8_, h9_, h10_, h11_, ⟨k7, hI⟩⟩
      obtain rfl := h2_ d2_0
      repeat (first | refine guard_true ?_ | refine guard_ne (by decide) ?_ | refine guard_undef ?_ | refine r_pickT ?_ | refine r_pickF ?_)
      exact ⟨h0_, h1_, h2_, fun _ => rfl, h4_, h5_, h6_, h7_, h8_, h9_, h10_, h11_, ⟨k7, hI⟩⟩
    · intro D hD_ d2_0 x4 x15 x14 x13 x12 x11 x10 x9 x8 x7 x6 x5 w_
      rintro ⟨h0_, h1_, h2_, h3_, h4_, h5_, h6_, h7_, h8_, h9_, h10_, h11_, ⟨k7, hI⟩⟩
      obtain rfl := h2_ d2_0
      repeat (first | refine guard_true ?_ | refine guard_ne (by decide) ?_ | refine guard_undef ?_ | refine r_pickT ?_ | refine r_pickF ?_)
      exact ⟨h0_, h1_, h2_, h3_, fun _ => rfl, h5_, h6_, h7_, h8_, h9_, h10_, h11_, ⟨k7, hI⟩⟩
    · intro D hD_ d2_0 x4 x15 x14 x13 x12 x11 x10 x9 x8 x7 x6 x5 w_
      rintro ⟨h0_, h1_, h2_, h3_, h4_, h5_, h6_, h7_, h8_, h9_, h10_, h11_, ⟨k7, hI⟩⟩
      obtain rfl := h2_ d2_0
      repeat (first | refine guard_true ?_ | refine guard_ne (by decide) ?_ | refine guard_undef ?_ | refine r_pickT ?_ | refine r_pickF ?_)
      refine r_loadW hI 0 ag_iPred rfl rfl ?_
      exact ⟨h0_, h1_, h2_, h3_, h4_, fun _ => rfl, h6_, h7_, h8_, h9_, h10_, h11_, ⟨k7, hI⟩⟩
    · intro D hD_ d4_0 d5_1 d2_2 d2_3 x4 x15 x14 x13 x12 x11 x10 x9 x8 x7 x6 x5 w_
      rintro ⟨h0_, h1_, h2_, h3_, h4_, h5_, h6_, h7_, h8_, h9_, h10_, h11_, ⟨k7, hI⟩⟩
      obtain rfl := h4_ d4_0
      obtain rfl := h5_ d5_1
      obtain rfl := h2_ d2_2
      repeat (first | refine guard_true ?_ | refine guard_ne (by decide) ?_ | refine guard_undef ?_ | refine r_pickT ?_ | refine r_pickF ?_)
      have e7 : D 7 = false := Bool.eq_false_iff.2 fun h => by rw [k7 h] at hD_; cases hD_
      rw [hD_, e7] at hI
      refine Run.call0 fn_s_l14Calls nm_s_l14Calls hI hcc fun u I' S2 w_ => ?_
      rintro ⟨rfl, rfl⟩ _ hI
      have k7 := fun (_ : setD D 6 7 = true) => (rfl : setD D 6 6 = true)
      have hI : Inv w [] (recItems (.blk b3 (.cells #[.string xs, .int .i64 xn] t_iPred)) (rowP u cs) (rowP x12 (reachP p cs)) (setD D 6 6) (setD D 6 7)) S2 w_ := by
        rw [show setD D 6 7 = false from e7]
        exact hI
      exact ⟨h0_, h1_, h2_, h3_, h4_, h5_, fun _ => by first | assumption | trivial, h7_, h8_, h9_, h10_, h11_, ⟨k7, hI⟩⟩
    · intro D hD_ d3_0 d6_1 d6_2 d2_3 x4 x15 x14 x13 x12 x11 x10 x9 x8 x7 x6 x5 w_
      rintro ⟨h0_, h1_, h2_, h3_, h4_, h5_, h6_, h7_, h8_, h9_, h10_, h11_, ⟨k7, hI⟩⟩
      obtain rfl := h3_ d3_0
      have g6_ := h6_ d6_1
      obtain rfl := h2_ d2_3
      repeat (first | refine guard_true ?_ | refine guard_ne (by decide) ?_ | refine guard_undef ?_ | refine r_pickT ?_ | refine r_pickF ?_)
      rw [d6_1, hD_] at hI
      refine Run.call (A := [_]) fn_s_l14Reach nm_s_l14Reach hI (hrs x11) fun u I' S2 w_ => ?_
      rintro ⟨rfl, rfl⟩ _ hI
      have k7 := fun (_ : setD D 7 7 = true) => (d6_1 : setD D 7 6 = true)
      exact ⟨h0_, h1_, h2_, h3_, h4_, h5_, h6_, fun _ => by first | assumption | trivial, h8_, h9_, h10_, h11_, ⟨k7, hI⟩⟩
    · intro D hD_ d2_0 x4 x15 x14 x13 x12 x11 x10 x9 x8 x7 x6 x5 w_
      rintro ⟨h0_, h1_, h2_, h3_, h4_, h5_, h6_, h7_, h8_, h9_, h10_, h11_, ⟨k7, hI⟩⟩
      obtain rfl := h2_ d2_0
      repeat (first | refine guard_true ?_ | refine guard_ne (by decide) ?_ | refine guard_undef ?_ | refine r_pickT ?_ | refine r_pickF ?_)
      refine r_loadW hI 0 ag_iPred rfl rfl ?_
      exact ⟨h0_, h1_, h2_, h3_, h4_, h5_, h6_, h7_, fun _ => rfl, h9_, h10_, h11_, ⟨k7, hI⟩⟩
    · intro D hD_ d7_0 d8_1 d7_2 d2_3 x4 x15 x14 x13 x12 x11 x10 x9 x8 x7 x6 x5 w_
      rintro ⟨h0_, h1_, h2_, h3_, h4_, h5_, h6_, h7_, h8_, h9_, h10_, h11_, ⟨k7, hI⟩⟩
      have g7_ := h7_ d7_0
      obtain rfl := h8_ d8_1
      obtain rfl := h2_ d2_3
      repeat (first | refine guard_true ?_ | refine guard_ne (by decide) ?_ | refine guard_undef ?_ | refine r_pickT ?_ | refine r_pickF ?_)
      have hI : Inv w [] ([.blk b3 (.cells #[.string xs, .int .i64 xn] t_iPred)] ++ [rowP x12 (reachP p cs)]) S w_ := by
        rw [d7_0] at hI; exact hI
      obtain ⟨S1, hle, hrd, hI, hback⟩ := hI.lend
      refine Run.callPure fn_s_l14Has nm_s_l14Has hI (l14Has_calls ⟨xs, xn⟩ hrd.preds) fun w_ hI => ?_
      have hI := hback _ _ hI
      have hI : Inv w [] (recItems (.blk b3 (.cells #[.string xs, .int .i64 xn] t_iPred)) (rowP x11 cs) (rowP x12 (reachP p cs)) (D 6) (D 7)) S w_ := by
        rw [d7_0]; exact hI
      exact ⟨h0_, h1_, h2_, h3_, h4_, h5_, h6_, h7_, h8_, fun _ => rfl, h10_, h11_, ⟨k7, hI⟩⟩
    · intro D hD_ d2_0 d9_1 x4 x15 x14 x13 x12 x11 x10 x9 x8 x7 x6 x5 w_
      rintro ⟨h0_, h1_, h2_, h3_, h4_, h5_, h6_, h7_, h8_, h9_, h10_, h11_, ⟨k7, hI⟩⟩
      obtain rfl := h2_ d2_0
      obtain rfl := h9_ d9_1
      refine r_pickT ?_
      exact ⟨h0_, h1_, h2_, h3_, h4_, h5_, h6_, h7_, h8_, h9_, fun _ => rfl, h11_, ⟨k7, hI⟩⟩
    · intro D hD_ d10_0 d9_1 d0_2 d1_3 d2_4 d3_5 d4_6 d5_7 d6_8 d7_9 d8_10 d9_11 d10_12 x4 x15 x14 x13 x12 x11 x10 x9 x8 x7 x6 x5 w_
      rintro ⟨h0_, h1_, h2_, h3_, h4_, h5_, h6_, h7_, h8_, h9_, h10_, h11_, ⟨k7, hI⟩⟩
      obtain rfl := h10_ d10_0
      exact ⟨h0_, h1_, h2_, h3_, h4_, h5_, h6_, h7_, h8_, h9_, h10_, fun _ => rfl, ⟨k7, hI⟩⟩
    intro D d11_ d10_ d9_ d8_ d7_ d6_ d5_ d4_ d3_ d2_ d1_ d0_ x4 x15 x14 x13 x12 x11 x10 x9 x8 x7 x6 x5 w_
    rintro ⟨h0_, h1_, h2_, h3_, h4_, h5_, h6_, h7_, h8_, h9_, h10_, h11_, ⟨k7, hI⟩⟩
    obtain rfl := h11_ d11_
    obtain rfl := h10_ d10_
    obtain rfl := h9_ d9_
    obtain rfl := h8_ d8_
    have g7_ := h7_ d7_
    have g6_ := h6_ d6_
    obtain rfl := h5_ d5_
    obtain rfl := h4_ d4_
    obtain rfl := h3_ d3_
    obtain rfl := h2_ d2_
    obtain rfl := h1_ d1_
    obtain rfl := h0_ d0_
    clear h0_ h1_ h2_ h3_ h4_ h5_ h6_ h7_ h8_ h9_ h10_ h11_
    exact done hI (by rw [recurB, hv, hcs]; rfl)
theorem i_RecursivePred_calls {p : List C} {S : Store} {v : Value} (x : Pd) (h : RdSl S 5 (RdC S) v p) (hw : p.length + wP p ≤ 1048576) : Pure Tryz.prog n_i_RecursivePred [v, .agg x.cells.toArray] S (.bool (recurB p x)) := by
  intro w hI
  have hg := gPs_le p
  have hcl := callsP_len p x
  obtain ⟨xs, xn⟩ := x
  refine calls_i_RecursivePred ?_
  unfold sh_i_RecursivePred
  refine r_box hI fun b3 w' hI => ?_
  have hI : Inv w [] [.blk b3 (.cells #[.string xs, .int .i64 xn] t_iPred)] S w' := hI
  cases hv : progB p
  · clear hg hcl
    refine ⟨fun D x4 x15 x14 x13 x12 x11 x10 x9 x8 x7 x6 x5 w_ => (D 0 = true → x5 = v) ∧ (D 1 = true → x6 = .bool false) ∧ (D 2 = true → x7 = .bool false) ∧ (D 3 = true → x8 = undef) ∧ (D 4 = true → x9 = undef) ∧ (D 5 = true → x10 = undef) ∧ (D 6 = true → x11 = undef) ∧ (D 7 = true → x12 = undef) ∧ (D 8 = true → x13 = undef) ∧ (D 9 = true → x14 = undef) ∧ (D 10 = true → x15 = .bool false) ∧ (D 11 = true → x4 = .bool false) ∧ Inv w [] [.blk b3 (.cells #[.string xs, .int .i64 xn] t_iPred)] S w_, ⟨fun h => Bool.noConfusion h, fun h => Bool.noConfusion h, fun h => Bool.noConfusion h, fun h => Bool.noConfusion h, fun h => Bool.noConfusion h, fun h => Bool.noConfusion h, fun h => Bool.noConfusion h, fun h => Bool.noConfusion h, fun h => Bool.noConfusion h, fun h => Bool.noConfusion h, fun h => Bool.noConfusion h, fun h => Bool.noConfusion h, hI.draw⟩, ⟨?_, ?_, ?_, ?_, ?_, ?_, ?_, ?_, ?_, ?_, ?_, ?_, trivial⟩, ?_⟩
    · intro D hD_  x4 x15 x14 x13 x12 x11 x10 x9 x8 x7 x6 x5 w_
      rintro ⟨h0_, h1_, h2_, h3_, h4_, h5_, h6_, h7_, h8_, h9_, h10_, h11_, hI⟩
      exact ⟨fun _ => rfl, h1_, h2_, h3_, h4_, h5_, h6_, h7_, h8_, h9_, h10_, h11_, hI⟩
    · intro D hD_ d0_0 x4 x15 x14 x13 x12 x11 x10 x9 x8 x7 x6 x5 w_
      rintro ⟨h0_, h1_, h2_, h3_, h4_, h5_, h6_, h7_, h8_, h9_, h10_, h11_, hI⟩
      obtain rfl := h0_ d0_0
      refine Run.callPure fn_i_ProgramValid nm_i_ProgramValid hI (iProgramValid_calls h) fun w_ hI => ?_; rw [hv]
      exact ⟨h0_, fun _ => rfl, h2_, h3_, h4_, h5_, h6_, h7_, h8_, h9_, h10_, h11_, hI⟩
    · intro D hD_ d1_0 d1_1 x4 x15 x14 x13 x12 x11 x10 x9 x8 x7 x6 x5 w_
      rintro ⟨h0_, h1_, h2_, h3_, h4_, h5_, h6_, h7_, h8_, h9_, h10_, h11_, hI⟩
      obtain rfl := h1_ d1_0
      exact ⟨h0_, h1_, fun _ => rfl, h3_, h4_, h5_, h6_, h7_, h8_, h9_, h10_, h11_, hI⟩
    · intro D hD_ d2_0 x4 x15 x14 x13 x12 x11 x10 x9 x8 x7 x6 x5 w_
      rintro ⟨h0_, h1_, h2_, h3_, h4_, h5_, h6_, h7_, h8_, h9_, h10_, h11_, hI⟩
      obtain rfl := h2_ d2_0
      repeat (first | refine guard_true ?_ | refine guard_ne (by decide) ?_ | refine guard_undef ?_ | refine r_pickT ?_ | refine r_pickF ?_)
      exact ⟨h0_, h1_, h2_, fun _ => rfl, h4_, h5_, h6_, h7_, h8_, h9_, h10_, h11_, hI⟩
    · intro D hD_ d2_0 x4 x15 x14 x13 x12 x11 x10 x9 x8 x7 x6 x5 w_
      rintro ⟨h0_, h1_, h2_, h3_, h4_, h5_, h6_, h7_, h8_, h9_, h10_, h11_, hI⟩
      obtain rfl := h2_ d2_0
      repeat (first | refine guard_true ?_ | refine guard_ne (by decide) ?_ | refine guard_undef ?_ | refine r_pickT ?_ | refine r_pickF ?_)
      exact ⟨h0_, h1_, h2_, h3_, fun _ => rfl, h5_, h6_, h7_, h8_, h9_, h10_, h11_, hI⟩
    · intro D hD_ d2_0 x4 x15 x14 x13 x12 x11 x10 x9 x8 x7 x6 x5 w_
      rintro ⟨h0_, h1_, h2_, h3_, h4_, h5_, h6_, h7_, h8_, h9_, h10_, h11_, hI⟩
      obtain rfl := h2_ d2_0
      repeat (first | refine guard_true ?_ | refine guard_ne (by decide) ?_ | refine guard_undef ?_ | refine r_pickT ?_ | refine r_pickF ?_)
      exact ⟨h0_, h1_, h2_, h3_, h4_, fun _ => rfl, h6_, h7_, h8_, h9_, h10_, h11_, hI⟩
    · intro D hD_ d4_0 d5_1 d2_2 d2_3 x4 x15 x14 x13 x12 x11 x10 x9 x8 x7 x6 x5 w_
      rintro ⟨h0_, h1_, h2_, h3_, h4_, h5_, h6_, h7_, h8_, h9_, h10_, h11_, hI⟩
      obtain rfl := h4_ d4_0
      obtain rfl := h5_ d5_1
      obtain rfl := h2_ d2_2
      repeat (first | refine guard_true ?_ | refine guard_ne (by decide) ?_ | refine guard_undef ?_ | refine r_pickT ?_ | refine r_pickF ?_)
      exact ⟨h0_, h1_, h2_, h3_, h4_, h5_, fun _ => rfl, h7_, h8_, h9_, h10_, h11_, hI⟩
    · intro D hD_ d3_0 d6_1 d6_2 d2_3 x4 x15 x14 x13 x12 x11 x10 x9 x8 x7 x6 x5 w_
      rintro ⟨h0_, h1_, h2_, h3_, h4_, h5_, h6_, h7_, h8_, h9_, h10_, h11_, hI⟩
      obtain rfl := h3_ d3_0
      obtain rfl := h6_ d6_1
      obtain rfl := h2_ d2_3
      repeat (first | refine guard_true ?_ | refine guard_ne (by decide) ?_ | refine guard_undef ?_ | refine r_pickT ?_ | refine r_pickF ?_)
      exact ⟨h0_, h1_, h2_, h3_, h4_, h5_, h6_, fun _ => rfl, h8_, h9_, h10_, h11_, hI⟩
    · intro D hD_ d2_0 x4 x15 x14 x13 x12 x11 x10 x9 x8 x7 x6 x5 w_
      rintro ⟨h0_, h1_, h2_, h3_, h4_, h5_, h6_, h7_, h8_, h9_, h10_, h11_, hI⟩
      obtain rfl := h2_ d2_0
      repeat (first | refine guard_true ?_ | refine guard_ne (by decide) ?_ | refine guard_undef ?_ | refine r_pickT ?_ | refine r_pickF ?_)
      exact ⟨h0_, h1_, h2_, h3_, h4_, h5_, h6_, h7_, fun _ => rfl, h9_, h10_, h11_, hI⟩
    · intro D hD_ d7_0 d8_1 d7_2 d2_3 x4 x15 x14 x13 x12 x11 x10 x9 x8 x7 x6 x5 w_
      rintro ⟨h0_, h1_, h2_, h3_, h4_, h5_, h6_, h7_, h8_, h9_, h10_, h11_, hI⟩
      obtain rfl := h7_ d7_0
      obtain rfl := h8_ d8_1
      obtain rfl := h2_ d2_3
      repeat (first | refine guard_true ?_ | refine guard_ne (by decide) ?_ | refine guard_undef ?_ | refine r_pickT ?_ | refine r_pickF ?_)
      exact ⟨h0_, h1_, h2_, h3_, h4_, h5_, h6_, h7_, h8_, fun _ => rfl, h10_, h11_, hI⟩
    · intro D hD_ d2_0 d9_1 x4 x15 x14 x13 x12 x11 x10 x9 x8 x7 x6 x5 w_
      rintro ⟨h0_, h1_, h2_, h3_, h4_, h5_, h6_, h7_, h8_, h9_, h10_, h11_, hI⟩
      obtain rfl := h2_ d2_0
      obtain rfl := h9_ d9_1
      repeat (first | refine guard_true ?_ | refine guard_ne (by decide) ?_ | refine guard_undef ?_ | refine r_pickT ?_ | refine r_pickF ?_)
      exact ⟨h0_, h1_, h2_, h3_, h4_, h5_, h6_, h7_, h8_, h9_, fun _ => rfl, h11_, hI⟩
    · intro D hD_ d10_0 d9_1 d0_2 d1_3 d2_4 d3_5 d4_6 d5_7 d6_8 d7_9 d8_10 d9_11 d10_12 x4 x15 x14 x13 x12 x11 x10 x9 x8 x7 x6 x5 w_
      rintro ⟨h0_, h1_, h2_, h3_, h4_, h5_, h6_, h7_, h8_, h9_, h10_, h11_, hI⟩
      obtain rfl := h10_ d10_0
      exact ⟨h0_, h1_, h2_, h3_, h4_, h5_, h6_, h7_, h8_, h9_, h10_, fun _ => rfl, hI⟩
    intro D d11_ d10_ d9_ d8_ d7_ d6_ d5_ d4_ d3_ d2_ d1_ d0_ x4 x15 x14 x13 x12 x11 x10 x9 x8 x7 x6 x5 w_
    rintro ⟨h0_, h1_, h2_, h3_, h4_, h5_, h6_, h7_, h8_, h9_, h10_, h11_, hI⟩
    obtain rfl := h11_ d11_
    obtain rfl := h10_ d10_
    obtain rfl := h9_ d9_
    obtain rfl := h8_ d8_
    obtain rfl := h7_ d7_
    obtain rfl := h6_ d6_
    obtain rfl := h5_ d5_
    obtain rfl := h4_ d4_
    obtain rfl := h3_ d3_
    obtain rfl := h2_ d2_
    obtain rfl := h1_ d1_
    obtain rfl := h0_ d0_
    clear h0_ h1_ h2_ h3_ h4_ h5_ h6_ h7_ h8_ h9_ h10_ h11_
    exact done hI (by rw [recurB, hv]; rfl)
  · obtain ⟨cs, hcs⟩ : ∃ cs, cs = callsP p ⟨xs, xn⟩ := ⟨_, rfl⟩
    have hrs : ∀ u, Tri Tryz.prog n_i_reach [v, u] [rowP u cs] S (PostP S (reachP p cs)) := fun u => i_reach_calls cs h (by omega) (by omega) (by rw [hcs]; omega)
    have hcc := i_callsOf_calls ⟨xs, xn⟩ h (by omega) (by omega)
    rw [← hcs] at hcc
    refine ⟨fun D x4 x15 x14 x13 x12 x11 x10 x9 x8 x7 x6 x5 w_ => (D 0 = true → x5 = v) ∧ (D 1 = true → x6 = .bool true) ∧ (D 2 = true → x7 = .bool true) ∧ (D 3 = true → x8 = v) ∧ (D 4 = true → x9 = v) ∧ (D 5 = true → x10 = .agg #[.string xs, .int .i64 xn]) ∧ (D 6 = true → True) ∧ (D 7 = true → True) ∧ (D 8 = true → x13 = .agg #[.string xs, .int .i64 xn]) ∧ (D 9 = true → x14 = .bool (hasP (reachP p cs) ⟨xs, xn⟩)) ∧ (D 10 = true → x15 = .bool (hasP (reachP p cs) ⟨xs, xn⟩)) ∧ (D 11 = true → x4 = .bool (hasP (reachP p cs) ⟨xs, xn⟩)) ∧ (D 7 = true → D 6 = true) ∧ Inv w [] (recItems (.blk b3 (.cells #[.string xs, .int .i64 xn] t_iPred)) (rowP x11 cs) (rowP x12 (reachP p cs)) (D 6) (D 7)) S w_, ⟨fun h => Bool.noConfusion h, fun h => Bool.noConfusion h, fun h => Bool.noConfusion h, fun h => Bool.noConfusion h, fun h => Bool.noConfusion h, fun h => Bool.noConfusion h, fun h => Bool.noConfusion h, fun h => Bool.noConfusion h, fun h => Bool.noConfusion h, fun h => Bool.noConfusion h, fun h => Bool.noConfusion h, fun h => Bool.noConfusion h, ⟨fun h => Bool.noConfusion h, hI.draw⟩⟩, ⟨?_, ?_, ?_, ?_, ?_, ?_, ?_, ?_, ?_, ?_, ?_, ?_, trivial⟩, ?_⟩
    · intro D hD_  x4 x15 x14 x13 x12 x11 x10 x9 x8 x7 x6 x5 w_
      rintro ⟨h0_, h1_, h2_, h3_, h4_, h5_, h6_, h7_, h8_, h9_, h10_, h11_, ⟨k7, hI⟩⟩
      exact ⟨fun _ => rfl, h1_, h2_, h3_, h4_, h5_, h6_, h7_, h8_, h9_, h10_, h11_, ⟨k7, hI⟩⟩
    · intro D hD_ d0_0 x4 x15 x14 x13 x12 x11 x10 x9 x8 x7 x6 x5 w_
      rintro ⟨h0_, h1_, h2_, h3_, h4_, h5_, h6_, h7_, h8_, h9_, h10_, h11_, ⟨k7, hI⟩⟩
      obtain rfl := h0_ d0_0
      refine Run.callPure fn_i_ProgramValid nm_i_ProgramValid hI (iProgramValid_calls h) fun w_ hI => ?_; rw [hv]
      exact ⟨h0_, fun _ => rfl, h2_, h3_, h4_, h5_, h6_, h7_, h8_, h9_, h10_, h11_, ⟨k7, hI⟩⟩
    · intro D hD_ d1_0 d1_1 x4 x15 x14 x13 x12 x11 x10 x9 x8 x7 x6 x5 w_
      rintro ⟨h0_, h1_, h2_, h3_, h4_, h5_, h6_, h7_, h8_, h9_, h10_, h11_, ⟨k7, hI⟩⟩
      obtain rfl := h1_ d1_0
      exact ⟨h0_, h1_, fun _ => rfl, h3_, h4_, h5_, h6_, h7_, h8_, h9_, h10_, h11_, ⟨k7, hI⟩⟩
    · intro D hD_ d2_0 x4 x15 x14 x13 x12 x11 x10 x9 x8 x7 x6 x5 w_
      rintro ⟨h0_, h1_, h2_, h3_, h4_, h5_, h6_, h7_, h8_, h9_, h10_, h11_, ⟨k7, hI⟩⟩
      obtain rfl := h2_ d2_0
      repeat (first | refine guard_true ?_ | refine guard_ne (by decide) ?_ | refine guard_undef ?_ | refine r_pickT ?_ | refine r_pickF ?_)
      exact ⟨h0_, h1_, h2_, fun _ => rfl, h4_, h5_, h6_, h7_, h8_, h9_, h10_, h11_, ⟨k7, hI⟩⟩
    · intro D hD_ d2_0 x4 x15 x14 x13 x12 x11 x10 x9 x8 x7 x6 x5 w_
      rintro ⟨h0_, h1_, h2_, h3_, h4_, h5_, h6_, h7_, h8_, h9_, h10_, h11_, ⟨k7, hI⟩⟩
      obtain rfl := h2_ d2_0
      repeat (first | refine guard_true ?_ | refine guard_ne (by decide) ?_ | refine guard_undef ?_ | refine r_pickT ?_ | refine r_pickF ?_)
      exact ⟨h0_, h1_, h2_, h3_, fun _ => rfl, h5_, h6_, h7_, h8_, h9_, h10_, h11_, ⟨k7, hI⟩⟩
    · intro D hD_ d2_0 x4 x15 x14 x13 x12 x11 x10 x9 x8 x7 x6 x5 w_
      rintro ⟨h0_, h1_, h2_, h3_, h4_, h5_, h6_, h7_, h8_, h9_, h10_, h11_, ⟨k7, hI⟩⟩
      obtain rfl := h2_ d2_0
      repeat (first | refine guard_true ?_ | refine guard_ne (by decide) ?_ | refine guard_undef ?_ | refine r_pickT ?_ | refine r_pickF ?_)
      refine r_loadW hI 0 ag_iPred rfl rfl ?_
      exact ⟨h0_, h1_, h2_, h3_, h4_, fun _ => rfl, h6_, h7_, h8_, h9_, h10_, h11_, ⟨k7, hI⟩⟩
    · intro D hD_ d4_0 d5_1 d2_2 d2_3 x4 x15 x14 x13 x12 x11 x10 x9 x8 x7 x6 x5 w_
      rintro ⟨h0_, h1_, h2_, h3_, h4_, h5_, h6_, h7_, h8_, h9_, h10_, h11_, ⟨k7, hI⟩⟩
      obtain rfl := h4_ d4_0
      obtain rfl := h5_ d5_1
      obtain rfl := h2_ d2_2
      repeat (first | refine guard_true ?_ | refine guard_ne (by decide) ?_ | refine guard_undef ?_ | refine r_pickT ?_ | refine r_pickF ?_)
      have e7 : D 7 = false := Bool.eq_false_iff.2 fun h => by rw [k7 h] at hD_; cases hD_
      rw [hD_, e7] at hI
      refine Run.call0 fn_i_callsOf nm_i_callsOf hI hcc fun u I' S2 w_ => ?_
      rintro ⟨rfl, rfl⟩ _ hI
      have k7 := fun (_ : setD D 6 7 = true) => (rfl : setD D 6 6 = true)
      have hI : Inv w [] (recItems (.blk b3 (.cells #[.string xs, .int .i64 xn] t_iPred)) (rowP u cs) (rowP x12 (reachP p cs)) (setD D 6 6) (setD D 6 7)) S2 w_ := by
        rw [show setD D 6 7 = false from e7]
        exact hI
      exact ⟨h0_, h1_, h2_, h3_, h4_, h5_, fun _ => by first | assumption | trivial, h7_, h8_, h9_, h10_, h11_, ⟨k7, hI⟩⟩
    · intro D hD_ d3_0 d6_1 d6_2 d2_3 x4 x15 x14 x13 x12 x11 x10 x9 x8 x7 x6 x5 w_
      rintro ⟨h0_, h1_, h2_, h3_, h4_, h5_, h6_, h7_, h8_, h9_, h10_, h11_, ⟨k7, hI⟩⟩
      obtain rfl := h3_ d3_0
      have g6_ := h6_ d6_1
      obtain rfl := h2_ d2_3
      repeat (first | refine guard_true ?_ | refine guard_ne (by decide) ?_ | refine guard_undef ?_ | refine r_pickT ?_ | refine r_pickF ?_)
      rw [d6_1, hD_] at hI
      refine Run.call (A := [_]) fn_i_reach nm_i_reach hI (hrs x11) fun u I' S2 w_ => ?_
      rintro ⟨rfl, rfl⟩ _ hI
      have k7 := fun (_ : setD D 7 7 = true) => (d6_1 : setD D 7 6 = true)
      exact ⟨h0_, h1_, h2_, h3_, h4_, h5_, h6_, fun _ => by first | assumption | trivial, h8_, h9_, h10_, h11_, ⟨k7, hI⟩⟩
    · intro D hD_ d2_0 x4 x15 x14 x13 x12 x11 x10 x9 x8 x7 x6 x5 w_
      rintro ⟨h0_, h1_, h2_, h3_, h4_, h5_, h6_, h7_, h8_, h9_, h10_, h11_, ⟨k7, hI⟩⟩
      obtain rfl := h2_ d2_0
      repeat (first | refine guard_true ?_ | refine guard_ne (by decide) ?_ | refine guard_undef ?_ | refine r_pickT ?_ | refine r_pickF ?_)
      refine r_loadW hI 0 ag_iPred rfl rfl ?_
      exact ⟨h0_, h1_, h2_, h3_, h4_, h5_, h6_, h7_, fun _ => rfl, h9_, h10_, h11_, ⟨k7, hI⟩⟩
    · intro D hD_ d7_0 d8_1 d7_2 d2_3 x4 x15 x14 x13 x12 x11 x10 x9 x8 x7 x6 x5 w_
      rintro ⟨h0_, h1_, h2_, h3_, h4_, h5_, h6_, h7_, h8_, h9_, h10_, h11_, ⟨k7, hI⟩⟩
      have g7_ := h7_ d7_0
      obtain rfl := h8_ d8_1
      obtain rfl := h2_ d2_3
      repeat (first | refine guard_true ?_ | refine guard_ne (by decide) ?_ | refine guard_undef ?_ | refine r_pickT ?_ | refine r_pickF ?_)
      have hI : Inv w [] ([.blk b3 (.cells #[.string xs, .int .i64 xn] t_iPred)] ++ [rowP x12 (reachP p cs)]) S w_ := by
        rw [d7_0] at hI; exact hI
      obtain ⟨S1, hle, hrd, hI, hback⟩ := hI.lend
      refine Run.callPure fn_x_Contains_Pred nm_x_Contains_Pred hI (Contains_Pred_calls ⟨xs, xn⟩ hrd.preds) fun w_ hI => ?_
      have hI := hback _ _ hI
      have hI : Inv w [] (recItems (.blk b3 (.cells #[.string xs, .int .i64 xn] t_iPred)) (rowP x11 cs) (rowP x12 (reachP p cs)) (D 6) (D 7)) S w_ := by
        rw [d7_0]; exact hI
      exact ⟨h0_, h1_, h2_, h3_, h4_, h5_, h6_, h7_, h8_, fun _ => rfl, h10_, h11_, ⟨k7, hI⟩⟩
    · intro D hD_ d2_0 d9_1 x4 x15 x14 x13 x12 x11 x10 x9 x8 x7 x6 x5 w_
      rintro ⟨h0_, h1_, h2_, h3_, h4_, h5_, h6_, h7_, h8_, h9_, h10_, h11_, ⟨k7, hI⟩⟩
      obtain rfl := h2_ d2_0
      obtain rfl := h9_ d9_1
      refine r_pickT ?_
      exact ⟨h0_, h1_, h2_, h3_, h4_, h5_, h6_, h7_, h8_, h9_, fun _ => rfl, h11_, ⟨k7, hI⟩⟩
    · intro D hD_ d10_0 d9_1 d0_2 d1_3 d2_4 d3_5 d4_6 d5_7 d6_8 d7_9 d8_10 d9_11 d10_12 x4 x15 x14 x13 x12 x11 x10 x9 x8 x7 x6 x5 w_
      rintro ⟨h0_, h1_, h2_, h3_, h4_, h5_, h6_, h7_, h8_, h9_, h10_, h11_, ⟨k7, hI⟩⟩
      obtain rfl := h10_ d10_0
      exact ⟨h0_, h1_, h2_, h3_, h4_, h5_, h6_, h7_, h8_, h9_, h10_, fun _ => rfl, ⟨k7, hI⟩⟩
    intro D d11_ d10_ d9_ d8_ d7_ d6_ d5_ d4_ d3_ d2_ d1_ d0_ x4 x15 x14 x13 x12 x11 x10 x9 x8 x7 x6 x5 w_
    rintro ⟨h0_, h1_, h2_, h3_, h4_, h5_, h6_, h7_, h8_, h9_, h10_, h11_, ⟨k7, hI⟩⟩
    obtain rfl := h11_ d11_
    obtain rfl := h10_ d10_
    obtain rfl := h9_ d9_
    obtain rfl := h8_ d8_
    have g7_ := h7_ d7_
    have g6_ := h6_ d6_
    obtain rfl := h5_ d5_
    obtain rfl := h4_ d4_
    obtain rfl := h3_ d3_
    obtain rfl := h2_ d2_
    obtain rfl := h1_ d1_
    obtain rfl := h0_ d0_
    clear h0_ h1_ h2_ h3_ h4_ h5_ h6_ h7_ h8_ h9_ h10_ h11_
    exact done hI (by rw [recurB, hv, hcs]; rfl)

end Go.Proofs.YtmnnpgdeecnfpaaGreat

/- PredsOf, CallsOf, ReachOf: both sides. -/
namespace Go.Proofs.YtmnnpgdeecnfpaaGreat
open Go Go.RowKit
attribute [local irreducible] Run CondV GuardV LoadV

def predsFrom (l : List Pd) (p : List C) : List Pd := p.foldl (fun l c => addP l (predT c.head)) l
def callsOf (p : List C) (x : Pd) : List Pd := if progB p = true then callsP p x else []
def reachOf (p : List C) (q : List T) : List Pd := if (progB p && queryB q) = true then reachP p (goalsP [] q) else []
theorem predsFrom_drop (l : List Pd) (p : List C) (k : Nat) (h : k < p.length) : predsFrom l (p.drop k) = predsFrom (addP l (predT p[k].head)) (p.drop (k + 1)) := by
  rw [List.drop_eq_getElem_cons h]; rfl
theorem s_l14Preds_calls {p : List C} {S : Store} {v : Value} (h : RdSl S 5 (RdC S) v p) (hp : p.length ≤ 1100000) : Tri Tryz.prog n_s_l14Preds [v] [] S (PostP S (predsFrom [] p)) := by
  intro w hI
  refine calls_s_l14Preds ?_
  unfold sh_s_l14Preds
  refine r_slice0 hI mk_SiPred fun v0 w' hI => ?_
  refine ⟨fun i t w' => ∃ (k : Nat) (l : List Pd), k ≤ p.length ∧ i = .int .i64 k ∧ predsFrom l (p.drop k) = predsFrom [] p ∧ l.length ≤ k ∧ Inv w [] [rowP t l] S w', fun i _ _ => p.length - (intOf i).toNat, ⟨0, [], Nat.zero_le _, rfl, rfl, Nat.le_refl _, hI⟩, ?_⟩
  intro t4 _ _ t3 _ _ _ _ _ _ _ _ _ _ _ _ w'
  rintro ⟨k, l, hk, rfl, hrel, hl, hI⟩
  refine r_lenSl h sl_SiClause ?_
  refine r_lss ?_
  refine condP (fun hki => ?_) (fun hki => ?_)
  · have hk' : k < p.length := by omega
    rw [predsFrom_drop l p k hk'] at hrel
    have hal := addP_len l (predT p[k].head)
    obtain ⟨b, o, cap, c, E, fz, rfl, hS, hR⟩ := h.at_ hk'
    obtain ⟨hd, ks2, hcs, h1, h2⟩ := hR
    obtain ⟨kv, rfl, _, _, hs1, hk1⟩ := RdT.iff.1 h1
    refine r_indexAddr sl_SiClause hk' ?_
    refine r_field fo_iClause_0 ?_
    rw [Nat.add_zero]
    refine r_loadA (cs := [.int .i64 p[k].head.kind, .int .i64 p[k].head.n, .string p[k].head.name, kv]) ag_iTerm rfl (fun j v hj => by rw [hI.cellS hS]; exact cellsAt_get hcs j v (by match j, hj with | 0, hj => exact hj | 1, hj => exact hj | 2, hj => exact hj | 3, hj => exact hj | j + 4, hj => simp at hj)) ?_
    refine Run.callPure fn_s_l14Of nm_s_l14Of hI (s_l14Of_calls h1) fun w' hI => ?_
    refine Run.call (A := []) fn_s_l14Add nm_s_l14Add hI (l14Add_calls (predT p[k].head) l t3 S (by omega)) fun v' I' S' w' => ?_
    rintro ⟨rfl, rfl⟩ _ hI
    refine r_add (by omega) ?_
    exact ⟨⟨k + 1, _, hk', rfl, hrel, by omega, hI⟩, by simp [intOf]; omega⟩
  · have : k = p.length := by omega
    subst this
    rw [List.drop_length] at hrel
    have hrel : l = predsFrom [] p := hrel
    rw [← hrel]
    exact ⟨_, _, _, rfl, hI, Ext.refl _ _ _, rfl, rfl⟩
theorem i_CallsOf_calls {p : List C} {S : Store} {v : Value} (x : Pd) (h : RdSl S 5 (RdC S) v p) (hw : p.length + wP p ≤ 1048576) : Tri Tryz.prog n_i_CallsOf [v, .agg x.cells.toArray] [] S (PostP S (callsOf p x)) := by
  intro w hI
  obtain ⟨xs, xn⟩ := x
  refine calls_i_CallsOf ?_
  unfold sh_i_CallsOf
  refine r_box hI fun b3 w' hI => ?_
  refine Run.callPure fn_i_ProgramValid nm_i_ProgramValid hI (iProgramValid_calls h) fun w' hI => ?_
  refine r_not ?_
  refine condV (fun hb => ?_) (fun hb => ?_)
  · rw [callsOf, if_neg (by simp at hb; simp [hb])]
    exact ⟨_, _, _, rfl, (hI.rowNil t_iPred 2).pick [false, true], Ext.refl _ _ _, rfl, rfl⟩
  · rw [callsOf, if_pos (by simpa using hb)]
    refine r_loadW hI 0 ag_iPred rfl rfl ?_
    refine Run.call0 fn_i_callsOf nm_i_callsOf hI (i_callsOf_calls ⟨xs, xn⟩ h (by omega) (by omega)) fun v' I' S' w' => ?_
    rintro ⟨rfl, rfl⟩ _ hI
    exact ⟨_, _, _, rfl, hI.pick [false, true], Ext.refl _ _ _, rfl, rfl⟩

theorem i_ReachOf_calls {p : List C} {q : List T} {S : Store} {v u : Value} (h : RdSl S 5 (RdC S) v p) (hq : RdSl S 4 (RdT S) u q) (hw : p.length + wP p ≤ 1048576) (hw2 : q.length + wL q ≤ 1048576) : Tri Tryz.prog n_i_ReachOf [v, u] [] S (PostP S (reachOf p q)) := by
  intro w hI
  have hgl := goalsP_len q []
  refine calls_i_ReachOf ?_
  unfold sh_i_ReachOf
  refine ⟨fun t w' => t = .bool (!(progB p && queryB q)) ∧ Inv w [] [] S w', ?_, ?_⟩
  · refine Run.callPure fn_i_ProgramValid nm_i_ProgramValid hI (iProgramValid_calls h) fun w' hI => ?_
    refine r_not ?_
    cases hv : progB p
    · repeat (first | refine guard_true ?_ | refine guard_ne (by decide) ?_ | refine guard_undef ?_ | refine r_pickT ?_ | refine r_pickF ?_)
      exact ⟨rfl, hI⟩
    · repeat (first | refine guard_true ?_ | refine guard_ne (by decide) ?_ | refine guard_undef ?_ | refine r_pickT ?_ | refine r_pickF ?_)
      refine Run.callPure fn_i_QueryValid nm_i_QueryValid hI (iQueryValid_calls hq) fun w' hI => ?_
      refine r_not ?_
      repeat (first | refine guard_true ?_ | refine guard_ne (by decide) ?_ | refine guard_undef ?_ | refine r_pickT ?_ | refine r_pickF ?_)
      exact ⟨rfl, hI⟩
  intro t _ _ _ _ _ _ _ w'
  rintro ⟨rfl, hI⟩
  refine condV (fun hb => ?_) (fun hb => ?_)
  · rw [reachOf, if_neg (by rw [Bool.not_eq_true'] at hb; rw [hb]; decide)]
    exact ⟨_, _, _, rfl, hI.rowNil t_iPred 2, Ext.refl _ _ _, rfl, rfl⟩
  · rw [reachOf, if_pos (by simpa using hb)]
    refine Run.call (A := []) fn_i_called nm_i_called (hI.rowNil t_iPred 2) (i_called_calls [] hq (by simp; omega)) fun v' I' S' w' => ?_
    rintro ⟨rfl, rfl⟩ _ hI
    refine Run.call (A := []) fn_i_reach nm_i_reach hI (i_reach_calls (goalsP [] q) h (by omega) (by omega) (by simp at hgl; omega)) fun v' I' S' w' => ?_
    rintro ⟨rfl, rfl⟩ _ hI
    exact ⟨_, _, _, rfl, hI, Ext.refl _ _ _, rfl, rfl⟩

end Go.Proofs.YtmnnpgdeecnfpaaGreat

/- A predicate that comes in: its size, its copy, its reading. -/
namespace Go.Proofs.YtmnnpgdeecnfpaaGreat
open Go Go.ChangeShapes Go.WideShapes Go.ChangeAt Go.RowKit
section
attribute [local irreducible] Run CondV GuardV LoadV
end
theorem two {cs : List Value} (h : cs.length = 2) : ∃ a b, cs = [a, b] := by
  match cs, h with
  | [a, b], _ => exact ⟨a, b, rfl⟩
end Go.Proofs.YtmnnpgdeecnfpaaGreat

/- spec.l14Pred, DrawPredsOf, DrawCallsOf, DrawRecursivePred. -/
namespace Go.Proofs.YtmnnpgdeecnfpaaGreat
open Go Go.RowKit
theorem Inv.lendRow {w0 w : World} {X : List Nat} {A : List Item} {S : Store} {v : Value} {e : TypeId} {k n : Nat} {xs : List Value} (h : Inv w0 X (A ++ [.row v e k n xs]) S w) :
    ∃ S', Ext w0.heap.size X S S' ∧ RowRd S' v e k n xs ∧ Inv w0 X A S' w := by
  obtain ⟨hl, ho⟩ := h.openRow
  rcases ho with ⟨rfl, h0⟩ | ⟨g, cap, cur, rfl, hnc, hcm, hcs, ht, hI⟩
  · exact ⟨S, Ext.refl _ _ _, ⟨hl, .inl ⟨rfl, h0⟩⟩, h.sub (List.sublist_append_left _ _)⟩
  · obtain ⟨S', h1, h2, h3⟩ := Inv.pub1 (A := A) hI
    exact ⟨S', h2, ⟨hl, .inr ⟨g, cap, cur, rfl, h3, hnc, hcm, hcs, ht⟩⟩, h1⟩
theorem RdSl.monoP {S S' : Store} {v : Value} {ys : List Pd} (hs : Sle S S') (h : RdSl S 2 RdPd v ys) : RdSl S' 2 RdPd v ys := h.mono hs fun _ _ h => h
def recTexts : List ByteArray := [⟨#[97, 58, 45, 98, 44, 99, 46, 10, 98, 58, 45, 97, 46, 10, 99, 58, 45, 97, 44, 65, 61, 49, 46, 10]⟩, ⟨#[112, 40, 65, 41, 58, 45, 113, 40, 65, 44, 65, 41, 46, 10, 113, 40, 65, 44, 66, 41, 58, 45, 114, 44, 112, 40, 66, 41, 46, 10, 114, 46, 10]⟩, ⟨#[110, 40, 65, 41, 58, 45, 110, 40, 65, 41, 46, 10, 109, 58, 45, 110, 40, 49, 41, 46, 10]⟩]
def okTwo (s : ByteArray) : Bool := okS s && match progF 60 (bs s) with
  | some q => decide (2 ≤ q.length)
  | none => false
theorem recTexts_ok : recTexts.all okTwo = true := by decide +kernel
abbrev PostDQ (br : Nat) (sl : Value) (p k : Nat) : Value → List Item → Store → Prop := fun v I' _ => ∃ p', p' ≤ p + k ∧ I' = [rdI br sl p'] ∧ ∃ x : Pd, v = .agg x.cells.toArray
section
variable {br : Nat} {sl : Value} {ys : List Nat}
attribute [local irreducible] Run CondV GuardV LoadV
theorem Pd.one (x : Pd) : ∀ u ∈ x.cells, u.oneCell' = true := by
  intro u hu
  have hu' : u ∈ ([.string x.name, .int .i64 x.arity] : List Value) := hu
  simp at hu'
  rcases hu' with rfl | rfl <;> rfl
theorem l14Pred_calls {p m : Nat} {S : Store} {v : Value} {q : List C} (hrd : RdSl S 1 RdU8 sl ys) (h : RdSl S 5 (RdC S) v q) (hq : Light 30 m q) (hp : p ≤ 100000000) :
    Tri Tryz.prog n_s_l14Pred [rdP br, v] [rdI br sl p] S (PostDQ br sl p 5) := by
  intro w hI
  have hql := hq.1
  refine calls_s_l14Pred ?_
  unfold sh_s_l14Pred
  refine r_alloc hI zo_iPred fun b4 w' hI => ?_
  have hI : Inv w [br] [.blk b4 (.cells #[.string ⟨#[]⟩, .int .i64 0] t_iPred), rdI br sl p] S w' := hI.last 0 rfl
  refine Run.call0E fn_s_l14Preds nm_s_l14Preds hI (s_l14Preds_calls h (by omega)) fun v' I' S1 w' => ?_
  rintro ⟨rfl, rfl⟩ _ hI
  obtain ⟨S2, hE2, hrow, hI⟩ := Inv.lendRow (A := [_, _]) hI
  have hr := hrow.preds
  have hI : Inv w [br] [.blk b4 (.cells #[.string ⟨#[]⟩, .int .i64 0] t_iPred), rdI br sl p] S2 w' := hI
  refine ⟨fun t w' => ∃ (c : Bool) (p1 : Nat), t = .bool c ∧ p1 ≤ p + 1 ∧ (c = false → 0 < (predsFrom [] q).length) ∧ Inv w [br] [.blk b4 (.cells #[.string ⟨#[]⟩, .int .i64 0] t_iPred), rdI br sl p1] S2 w', ?_, ?_⟩
  · refine r_lenSl hr sl_SiPred ?_
    by_cases h0 : ((predsFrom [] q).length : Int) = 0
    · refine r_eqlT h0 ?_
      repeat (first | refine guard_true ?_ | refine guard_ne (by decide) ?_ | refine guard_undef ?_ | refine r_pickT ?_ | refine r_pickF ?_)
      exact ⟨true, p, rfl, by omega, (fun h => by cases h), hI⟩
    · refine r_eqlF h0 ?_
      repeat (first | refine guard_true ?_ | refine guard_ne (by decide) ?_ | refine guard_undef ?_ | refine r_pickT ?_ | refine r_pickF ?_)
      refine Run.callL fn_s_l18Rd_pick nm_s_l18Rd_pick hI (pick_calls (n := 6) (hrd.monoU hE2.1) (by omega) (by omega)) rfl fun v' I' S2 w' => ?_
      rintro ⟨rfl, rfl, k, hk, rfl⟩ _ hI
      refine r_eql ?_
      repeat (first | refine guard_true ?_ | refine guard_ne (by decide) ?_ | refine guard_undef ?_ | refine r_pickT ?_ | refine r_pickF ?_)
      exact ⟨_, p + 1, rfl, by omega, fun _ => by omega, hI⟩
  intro t15 _ _ _ _ _ _ _ w'
  rintro ⟨c, p1, rfl, hp1, hc, hI⟩
  refine condV (fun _ => ?_) (fun hc' => ?_)
  · refine r_strs hI (by kernel_rfl) rfl (by omega) fun v S3 w' hE3 hv hI => ?_
    refine Run.callL fn_s_l18Rd_of nm_s_l18Rd_of hI (of_calls (p := p1) (hrd.monoU (hE2.trans hE3).1) hv (by decide) (by omega)) rfl fun v' I' S3 w' => ?_
    rintro ⟨rfl, rfl, s, hs, rfl⟩ _ hI
    refine Run.callL fn_s_l18Rd_pick nm_s_l18Rd_pick hI (pick_calls (n := 4) (p := p1 + 1) (hrd.monoU (hE2.trans hE3).1) (by omega) (by omega)) rfl fun v' I' S3 w' => ?_
    rintro ⟨rfl, rfl, k, hk, rfl⟩ _ hI
    refine r_buildPred ?_
    refine r_storeW hI 0 rfl ag_iPred rfl rfl (Pd.one ⟨s, k⟩) fun w' hI => ?_
    refine loadV_W hI 0 ag_iPred rfl rfl ?_
    exact ⟨_, _, S3, rfl, hI.pick [false, true], hE2.trans hE3, p1 + 2, by omega, rfl, ⟨s, k⟩, rfl⟩
  · have h0 := hc hc'
    refine r_lenSl hr sl_SiPred ?_
    refine Run.callL fn_s_l18Rd_pick nm_s_l18Rd_pick hI (pick_calls (n := (predsFrom [] q).length) (hrd.monoU hE2.1) (by omega) h0) rfl fun v' I' S2 w' => ?_
    rintro ⟨rfl, rfl, k, hk, rfl⟩ _ hI
    refine r_elem hI hr sl_SiPred ag_iPred hk (fun cs x hx => by rw [hx]; rfl) fun cs hcs => ?_
    have hcs : cs = Pd.cells _ := hcs
    subst hcs
    refine r_storeW hI 0 rfl ag_iPred rfl rfl (Pd.one _) fun w' hI => ?_
    refine loadV_W hI 0 ag_iPred rfl rfl ?_
    exact ⟨_, _, S2, rfl, hI.pick [false, true], hE2, p1 + 1, by omega, rfl, _, rfl⟩
abbrev PostPX (v' : Value) (I' : List Item) (S' : Store) : Prop := I' = [] ∧ ∃ u q x, v' = .tuple #[u, .agg (Pd.cells x).toArray] ∧ RdSl S' 5 (RdC S') u q ∧ Light 30 900 q
theorem DrawCallsOf_calls {S : Store} {v : Value} (h : RdSl S 1 RdU8 v ys) : Tri Tryz.prog n_s_DrawCallsOf [v] [] S PostPX := by
  intro w hI
  refine calls_s_DrawCallsOf ?_
  unfold sh_s_DrawCallsOf
  refine r_alloc hI zo_iPred fun b3 w' hI => ?_
  refine Run.call0E fn_s_l18Open nm_s_l18Open hI (open_calls h) fun v1 I' S1 w' => ?_
  rintro ⟨rfl, br, sl, ys', rfl, rfl, hrd⟩ _ hI
  have hI : Inv w [] [.blk b3 (.cells #[.string ⟨#[]⟩, .int .i64 0] t_iPred), rdI br sl 0] S1 w' := hI
  refine Run.callL fn_s_l14Two nm_s_l14Two hI (l14Two_calls (p := 0) hrd (by omega)) rfl fun v2 I' S2 w' => ?_
  rintro ⟨p1, css, q, hp1, rfl, hR, hq, h0⟩ hE2 hI
  have hI : Inv w [] [rowG v2 t_iClause 5 css, rdI br sl p1, .blk b3 (.cells #[.string ⟨#[]⟩, .int .i64 0] t_iPred)] S2 w' := hI.last 0 rfl
  obtain ⟨S3, hE3, hI, hr⟩ := pub_prog hI hR
  have hI : Inv w [] [.blk b3 (.cells #[.string ⟨#[]⟩, .int .i64 0] t_iPred), rdI br sl p1] S3 w' := hI.last 0 rfl
  refine Run.callL fn_s_l4MutateAll nm_s_l4MutateAll hI (l4MutateAll_calls (m := 200) (hrd.monoU (hE2.trans hE3).1) hr ⟨by have := hq.1; omega, hq.2⟩ h0 (by omega) (by omega)) rfl fun v3 I' S4 w' => ?_
  rintro ⟨p2, hp2, rfl, q2, hr2, hq2⟩ hE4 hI
  have hE4 := (hE2.trans hE3).trans hE4
  refine Run.callL fn_s_l14Pred nm_s_l14Pred hI (l14Pred_calls (p := p2) (hrd.monoU hE4.1) hr2 hq2 (by omega)) rfl fun v4 I' S5 w' => ?_
  rintro ⟨p3, hp3, rfl, x, rfl⟩ hE5 hI
  refine r_storeW hI 0 rfl ag_iPred rfl rfl (Pd.one _) fun w' hI => ?_
  refine loadV_W hI 0 ag_iPred rfl rfl ?_
  exact ⟨_, [], S5, rfl, hI.nil, hE4.trans hE5, rfl, _, q2, x, rfl, hr2.monoC hE5.1, hq2⟩
theorem DrawRecursivePred_calls {S : Store} {v : Value} (h : RdSl S 1 RdU8 v ys) : Tri Tryz.prog n_s_DrawRecursivePred [v] [] S PostPX := by
  intro w hI
  refine calls_s_DrawRecursivePred ?_
  unfold sh_s_DrawRecursivePred
  refine r_alloc hI zo_iPred fun b3 w' hI => ?_
  refine Run.call0E fn_s_l18Open nm_s_l18Open hI (open_calls h) fun v1 I' S1 w' => ?_
  rintro ⟨rfl, br, sl, ys', rfl, rfl, hrd⟩ _ hI
  have hI : Inv w [] [.blk b3 (.cells #[.string ⟨#[]⟩, .int .i64 0] t_iPred), rdI br sl 0] S1 w' := hI
  refine Run.callL fn_s_l18Rd_pick nm_s_l18Rd_pick hI (pick_calls (n := 2) hrd (by omega) (by omega)) rfl fun v' I' S1 w' => ?_
  rintro ⟨rfl, rfl, k, hk, rfl⟩ _ hI
  have hI : Inv w [] [.blk b3 (.cells #[.string ⟨#[]⟩, .int .i64 0] t_iPred), rdI br sl 1] S1 w' := hI
  refine r_eql ?_
  refine condP (fun _ => ?_) (fun _ => ?_)
  · refine r_strs hI (by kernel_rfl) rfl (by omega) fun v S2 w' hE2 hv hI => ?_
    have hv : RdSl S2 1 RdStr v recTexts := hv
    have hok := recTexts_ok
    refine r_lenSl hv sl_Sstring ?_
    refine Run.callL fn_s_l18Rd_pick nm_s_l18Rd_pick hI (pick_calls (n := 3) (p := 1) (hrd.monoU hE2.1) (by omega) (by omega)) rfl fun v' I' S2 w' => ?_
    rintro ⟨rfl, rfl, k, hk, rfl⟩ _ hI
    refine r_elem1 hI hv sl_Sstring sc_string (i := k) hk (fun cs hcs => hcs) ?_
    rw [List.all_eq_true] at hok
    have hok := hok _ (List.getElem_mem (l := recTexts) hk)
    rw [okTwo, Bool.and_eq_true] at hok
    obtain ⟨q0, hq0, h0, hl, hcl, hs⟩ := okS_spec hok.1
    have h2 : 2 ≤ q0.length := by
      have := hok.2
      rw [hq0] at this
      exact of_decide_eq_true this
    refine Run.call0E fn_s_ParseProgram nm_s_ParseProgram hI (ParseProgram_calls (f := 60) (by omega) hq0 (Nat.le_trans (Nat.le_of_eq (st_size (bs _)).symm) (Nat.le_trans hs (by omega)))) fun v I' S3 w' => ?_
    rintro ⟨u, css, rfl, rfl, hR⟩ hE3 hI
    have hI : Inv w [] [rowG u t_iClause 5 css, .blk b3 (.cells #[.string ⟨#[]⟩, .int .i64 0] t_iPred), rdI br sl 2] S3 w' := (hI.last 0 rfl).last 0 rfl
    obtain ⟨S4, hE4, hI', hr⟩ := pub_prog hI hR
    clear hI
    have hI := hI'
    clear hI'
    have hE4 := (hE2.trans hE3).trans hE4
    refine r_extract (v := u) rfl ?_
    refine r_extract (v := .bool true) rfl ?_
    refine Run.callL fn_s_l18Rd_pick nm_s_l18Rd_pick hI (pick_calls (n := 2) (p := 2) (hrd.monoU hE4.1) (by omega) (by omega)) rfl fun v' I' S4 w' => ?_
    rintro ⟨rfl, rfl, k2, hk2, rfl⟩ _ hI
    have hk3 : k2 < q0.length := by omega
    have hJ := hI
    obtain ⟨b, o, cap, c, E, fz, rfl, hS, hd, kb, he, hh, hb⟩ := hr.at_ hk3
    refine r_indexAddr sl_SiClause hk3 ?_
    refine r_field fo_iClause_0 ?_
    refine r_loadA ag_iTerm (cs := hd) hh.length (fun j v hj => ?_) ?_
    · rw [hJ.cellS hS, Nat.add_zero]
      refine cellsAt_get he j v ?_
      rw [List.getElem?_append_left (List.getElem?_eq_some_iff.1 hj).1]
      exact hj
    refine Run.callPure fn_s_l14Of nm_s_l14Of hJ (s_l14Of_calls hh) fun w' hI => ?_
    refine r_storeW hI 0 rfl ag_iPred rfl rfl (Pd.one _) fun w' hI => ?_
    refine loadV_W hI 0 ag_iPred rfl rfl ?_
    exact ⟨_, [], S4, rfl, hI.nil, hE4, rfl, _, q0, _, rfl, hr, ⟨by have := hl.1; omega, fun c hc => by have := hl.2 c hc; omega⟩⟩
  · refine Run.call0E fn_s_DrawCallsOf nm_s_DrawCallsOf hI (DrawCallsOf_calls h) fun v I' S2 w' => ?_
    rintro ⟨rfl, u, q, x, rfl, hr, hl⟩ hE2 hI
    refine r_extract (v := u) rfl ?_
    refine r_extract (v := .agg x.cells.toArray) rfl ?_
    refine r_storeW hI 0 rfl ag_iPred rfl rfl (Pd.one _) fun w' hI => ?_
    refine loadV_W hI 0 ag_iPred rfl rfl ?_
    exact ⟨_, [], S2, rfl, hI.nil, hE2, rfl, u, q, x, rfl, hr, hl⟩
end
end Go.Proofs.YtmnnpgdeecnfpaaGreat

/- Whether terms are the same: both sides. -/
namespace Go.Proofs.YtmnnpgdeecnfpaaGreat
open Go Go.RowKit
attribute [local irreducible] Run CondV GuardV LoadV

end Go.Proofs.YtmnnpgdeecnfpaaGreat

/- Whether terms are the same: the program's side. -/
namespace Go.Proofs.YtmnnpgdeecnfpaaGreat
open Go Go.RowKit
attribute [local irreducible] Run CondV GuardV LoadV

end Go.Proofs.YtmnnpgdeecnfpaaGreat

/- What the laws compare with: pgPreds, pgPred, impl.ClauseSame, pgClauses; bytes that come in. -/
namespace Go.Proofs.YtmnnpgdeecnfpaaGreat
open Go Go.ChangeShapes Go.WideShapes Go.ChangeAt Go.RowKit
theorem un_u8 : Tryz.prog.underlying t_uint8 = some (.int .u8) := by kernel_rfl
theorem trod_u8 {H : Type} {enc : TypeId × Value → H} {W : World} {sp : Nat → Bool} {held : Bool} {fuel : Nat} {cs : List Value} {x : DataW H × List MemPlace} (h : DataW.trod enc Tryz.prog W 0 sp held fuel t_uint8 cs = some x) :
    ∃ n, RdU8 cs n := by
  cases fuel with
  | zero => simp [DataW.trod] at h
  | succ n =>
    unfold DataW.trod at h
    rw [un_u8] at h
    split at h <;> simp_all
    rename_i k1 k2 m he
    subst he
    obtain ⟨⟨_, h⟩, _⟩ := h
    simp only [Lit.wf, Bool.and_eq_true, decide_eq_true_eq] at h
    have h1 : 0 ≤ m ∧ m ≤ 255 := h
    exact ⟨m.toNat, by rw [RdU8, Int.toNat_of_nonneg (by omega)]; exact ⟨rfl, by omega⟩⟩
theorem trod_bytes {H : Type} {enc : TypeId × Value → H} {W : World} {sp : Nat → Bool} {held : Bool} {fuel : Nat} {v : Value} {x : DataW H × List MemPlace} (h : DataW.trod enc Tryz.prog W 0 sp held fuel t_Suint8 [v] = some x) :
    ∃ ys, RdSl (heapS W) 1 RdU8 v ys := trod_sl sl_Suint8 (by omega) h fun _ _ _ _ hy => trod_u8 hy
section
variable {w0 w : World} {X : List Nat} {L : List Item} {S : Store} {K : Value → World → Prop}
attribute [local irreducible] Run CondV GuardV LoadV
theorem r_beqB {P : Program} {T : TypeId} {cx cy : Bool} {a b : Bool} (hu : P.underlying T = some .bool) (hk : K (.bool (a == b)) w) : Run P (sBin .eql T cx cy (.bool a) (.bool b)) w K :=
  Run.of (by
    have he : (Op.equal T (.bool a) (.bool b)).run P w = .ok (a == b) w := by
      rw [Op.equal, Op.maxDepth, Op.equalIn.eq_def]
      simp [run_underlying hu]
    simp only [sBin, binOp, Sem.run_bind, eqGuard_bool, Result.andThen_ok, he, Sem.run_pure]) hk
theorem pgPred_calls (x : Pd) {l : List Pd} {v : Value} (h : RdSl S 2 RdPd v l) : Pure Tryz.prog n_l_pgPred [v, .agg x.cells.toArray] S (.bool (hasP l x)) := by
  intro w hI
  have hlen := h.le
  simp only [maxLen] at hlen
  obtain ⟨xs, xn⟩ := x
  refine calls_l_pgPred ?_
  unfold sh_l_pgPred
  refine r_box hI fun b3 w' hI => ?_
  have hI : Inv w [] [.blk b3 (.cells #[.string xs, .int .i64 xn] t_iPred)] S w' := hI
  refine ⟨fun i w' => ∃ k : Nat, k ≤ l.length ∧ i = .int .i64 k ∧ hasP (l.drop k) ⟨xs, xn⟩ = hasP l ⟨xs, xn⟩ ∧ Inv w [] [.blk b3 (.cells #[.string xs, .int .i64 xn] t_iPred)] S w', fun i _ => l.length - (intOf i).toNat, ⟨0, Nat.zero_le _, rfl, rfl, hI⟩, ?_⟩
  intro t5 _ _ _ t17 t16 t15 t14 t13 t12 _ _ _ _ w'
  rintro ⟨k, hk, rfl, hrel, hI⟩
  refine r_lenSl h sl_SiPred ?_
  refine r_lss ?_
  refine condP (fun hki => ?_) (fun hki => ?_)
  · have hk' : k < l.length := by omega
    have hstep : hasP (l.drop k) ⟨xs, xn⟩ = (eqPd ⟨xs, xn⟩ l[k] || hasP (l.drop (k + 1)) ⟨xs, xn⟩) := any_drop _ l k hk'
    obtain ⟨b, o, cap, c, E, fz, rfl, hS, hR⟩ := h.at_ hk'
    have hR' : cellsAt c (o + k * 2) 2 = [.string l[k].name, .int .i64 l[k].arity] := hR
    refine ⟨fun D x17 x16 x15 x14 x13 x12 w_ => (D 0 = true → x12 = .slice (some ⟨b, o, none⟩) l.length cap) ∧ (D 1 = true → x13 = .int .i64 k) ∧ (D 2 = true → x14 = .pointer (some ⟨b, o + k * 2, none⟩)) ∧ (D 3 = true → x15 = .agg #[.string l[k].name, .int .i64 l[k].arity]) ∧ (D 4 = true → x16 = .agg #[.string xs, .int .i64 xn]) ∧ (D 5 = true → x17 = .bool (eqPd l[k] ⟨xs, xn⟩)) ∧ Inv w [] [.blk b3 (.cells #[.string xs, .int .i64 xn] t_iPred)] S w_, ⟨fun h => Bool.noConfusion h, fun h => Bool.noConfusion h, fun h => Bool.noConfusion h, fun h => Bool.noConfusion h, fun h => Bool.noConfusion h, fun h => Bool.noConfusion h, hI.draw⟩, ⟨?_, ?_, ?_, ?_, ?_, ?_, trivial⟩, ?_⟩
    · intro D hD_  x17 x16 x15 x14 x13 x12 w_
      rintro ⟨h0_, h1_, h2_, h3_, h4_, h5_, hI⟩
      exact ⟨fun _ => rfl, h1_, h2_, h3_, h4_, h5_, hI⟩
    · intro D hD_  x17 x16 x15 x14 x13 x12 w_
      rintro ⟨h0_, h1_, h2_, h3_, h4_, h5_, hI⟩
      exact ⟨h0_, fun _ => rfl, h2_, h3_, h4_, h5_, hI⟩
    · intro D hD_ d0_0 d1_1 x17 x16 x15 x14 x13 x12 w_
      rintro ⟨h0_, h1_, h2_, h3_, h4_, h5_, hI⟩
      obtain rfl := h0_ d0_0
      obtain rfl := h1_ d1_1
      refine r_indexAddr sl_SiPred hk' ?_
      exact ⟨h0_, h1_, fun _ => rfl, h3_, h4_, h5_, hI⟩
    · intro D hD_ d2_0 x17 x16 x15 x14 x13 x12 w_
      rintro ⟨h0_, h1_, h2_, h3_, h4_, h5_, hI⟩
      obtain rfl := h2_ d2_0
      refine r_loadA (cs := [.string l[k].name, .int .i64 l[k].arity]) ag_iPred rfl (fun j v hj => by rw [hI.cellS hS]; exact cellsAt_get hR' j v hj) ?_
      exact ⟨h0_, h1_, h2_, fun _ => rfl, h4_, h5_, hI⟩
    · intro D hD_  x17 x16 x15 x14 x13 x12 w_
      rintro ⟨h0_, h1_, h2_, h3_, h4_, h5_, hI⟩
      refine r_loadW hI 0 ag_iPred rfl rfl ?_
      exact ⟨h0_, h1_, h2_, h3_, fun _ => rfl, h5_, hI⟩
    · intro D hD_ d3_0 d4_1 x17 x16 x15 x14 x13 x12 w_
      rintro ⟨h0_, h1_, h2_, h3_, h4_, h5_, hI⟩
      obtain rfl := h3_ d3_0
      obtain rfl := h4_ d4_1
      refine r_peql ?_
      exact ⟨h0_, h1_, h2_, h3_, h4_, fun _ => rfl, hI⟩
    intro D d5_ d4_ d3_ d2_ d1_ d0_ x17 x16 x15 x14 x13 x12 w_
    rintro ⟨h0_, h1_, h2_, h3_, h4_, h5_, hI⟩
    obtain rfl := h5_ d5_
    obtain rfl := h4_ d4_
    obtain rfl := h3_ d3_
    obtain rfl := h2_ d2_
    obtain rfl := h1_ d1_
    obtain rfl := h0_ d0_
    clear h0_ h1_ h2_ h3_ h4_ h5_
    refine condV (fun hb => done hI ?_) (fun hb => ?_)
    · rw [← hrel, hstep, eqPd_comm, hb]; rfl
    · refine r_add (by omega) ?_
      exact ⟨⟨k + 1, hk', rfl, by rw [← hrel, hstep, eqPd_comm, hb]; rfl, hI⟩, by simp [intOf]; omega⟩
  · have : k = l.length := by omega
    subst this
    exact done hI (by rw [← hrel, List.drop_length]; rfl)
end
end Go.Proofs.YtmnnpgdeecnfpaaGreat

/- MovePred: both sides. -/
namespace Go.Proofs.YtmnnpgdeecnfpaaGreat
open Go Go.RowKit
attribute [local irreducible] Run CondV GuardV LoadV

end Go.Proofs.YtmnnpgdeecnfpaaGreat

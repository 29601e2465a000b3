/- spec.l4Texts, l4Program, l4Clause, l14Two. -/
import Derived.Test.YtmnnpgdeecnfpaaGreatZPa6
import Derived.Test.YtmnnpgdeecnfpaaGreatZPa2
import Derived.Test.YtmnnpgdeecnfpaaGreatZPa1
namespace Go.Proofs.YtmnnpgdeecnfpaaGreat
open Go Go.RowKit
def okS (s : ByteArray) : Bool := okText (bs s) && decide (s.size ≤ 1000)
theorem okS_spec {s : ByteArray} (h : okS s = true) : ∃ q, progF 60 (bs s) = some q ∧ 0 < q.length ∧ Light 8 200 q ∧ (∀ c ∈ q, clauseB c = true) ∧ s.size ≤ 1000 := by
  rw [okS, Bool.and_eq_true, decide_eq_true_eq] at h
  obtain ⟨h, hs⟩ := h
  unfold okText at h
  split at h
  · rename_i q hq
    simp only [Bool.and_eq_true, decide_eq_true_eq, List.all_eq_true] at h
    exact ⟨q, hq, h.1, ⟨h.2.1, fun c hc => (h.2.2 c hc).2⟩, fun c hc => (h.2.2 c hc).1, hs⟩
  · cases h
section
attribute [local irreducible] Run CondV GuardV LoadV
theorem parse_row {S : Store} {s : ByteArray} (h : okS s = true) : Tri Tryz.prog n_s_ParseProgram [.string s] [] S fun v I' S' => ∃ u css q, v = .tuple #[u, .bool true] ∧ I' = [rowG u t_iClause 5 css] ∧ Rows 5 (RdC S') css q ∧ 0 < q.length ∧ Light 8 200 q ∧ ∀ c ∈ q, clauseB c = true := by
  obtain ⟨q, hq, h0, hl, hc, hs⟩ := okS_spec h
  intro w hI
  have hb : (bs s).length = s.size := (st_size (bs s)).symm
  refine (ParseProgram_calls (f := 60) (by omega) hq (by rw [hb]; omega) w hI).mono ?_
  rintro e w' ⟨v, I', S', rfl, hI, hE, u, css, rfl, rfl, hR⟩
  exact ⟨_, _, S', rfl, hI, hE, u, css, q, rfl, rfl, hR, h0, hl, hc⟩
theorem l4Texts_calls (S : Store) : Tri Tryz.prog n_s_l4Texts [] [] S fun v I' S' => I' = [] ∧ ∃ l, RdSl S' 1 RdStr v l ∧ l.length = 11 ∧ l.all okS = true := by
  intro w hI
  refine calls_s_l4Texts ?_
  unfold sh_s_l4Texts
  refine r_strs hI (by kernel_rfl) rfl (by omega) fun v S1 w' hE1 hv hI => ?_
  exact ⟨_, [], S1, rfl, hI, hE1, rfl, _, hv, rfl, by decide +kernel⟩
variable {br : Nat} {sl : Value} {ys : List Nat}
theorem l4Program_calls {p : Nat} {S : Store} (hrd : RdSl S 1 RdU8 sl ys) (hp : p ≤ 100000000) : Tri Tryz.prog n_s_l4Program [rdP br] [rdI br sl p] S (PostDR br sl p 1 8 200) := by
  intro w hI
  refine calls_s_l4Program ?_
  unfold sh_s_l4Program
  refine Run.call0E fn_s_l4Texts nm_s_l4Texts hI (l4Texts_calls S) fun v' I' S1 w' => ?_
  rintro ⟨rfl, l, hl, hl11, hok⟩ hE1 hI
  have hI : Inv w [br] [rdI br sl p] S1 w' := hI
  refine r_lenSl hl sl_Sstring ?_
  refine Run.callL fn_s_l18Rd_pick nm_s_l18Rd_pick hI (pick_calls (n := l.length) (hrd.monoU hE1.1) (by omega) (by omega)) rfl fun v' I' S1 w' => ?_
  rintro ⟨rfl, rfl, k, hk, rfl⟩ _ hI
  have hI : Inv w [br] [rdI br sl (p + 1)] S1 w' := hI
  refine r_elem1 hI hl sl_Sstring sc_string hk (fun cs hcs => hcs) ?_
  rw [List.all_eq_true] at hok
  refine Run.call0E fn_s_ParseProgram nm_s_ParseProgram hI (parse_row (hok _ (List.getElem_mem hk))) fun v I' S2 w' => ?_
  rintro ⟨u, css, q, rfl, rfl, hR, h0, hq, _⟩ hE2 hI
  refine r_extract (v := u) rfl ?_
  refine r_extract (v := .bool true) rfl ?_
  exact ⟨_, _, S2, rfl, hI.last 0 rfl, hE1.trans hE2, p + 1, css, q, Nat.le_refl _, rfl, hR, hq, h0⟩
theorem l14Two_calls {p : Nat} {S : Store} (hrd : RdSl S 1 RdU8 sl ys) (hp : p ≤ 10000000) : Tri Tryz.prog n_s_l14Two [rdP br] [rdI br sl p] S (PostDR br sl p 2 16 200) := by
  intro w hI
  refine calls_s_l14Two ?_
  unfold sh_s_l14Two
  refine Run.callL fn_s_l4Program nm_s_l4Program hI (l4Program_calls hrd (by omega)) rfl fun v1 I' S1 w' => ?_
  rintro ⟨p1, css1, q1, hp1, rfl, hR1, hq1, h1⟩ hE1 hI
  refine Run.callL fn_s_l4Program nm_s_l4Program hI (l4Program_calls (p := p1) (hrd.monoU hE1.1) (by omega)) rfl fun v2 I' S2 w' => ?_
  rintro ⟨p2, css2, q2, hp2, rfl, hR2, hq2, h2⟩ hE2 hI
  have hI : Inv w [br] [rowG v1 t_iClause 5 css1, rowG v2 t_iClause 5 css2, rdI br sl p2] S2 w' := hI
  have hI : Inv w [br] [rowG v2 t_iClause 5 css2, rdI br sl p2, rowG v1 t_iClause 5 css1] S2 w' := hI.last 0 rfl
  obtain ⟨S3, hE3, hI, hr⟩ := pub_prog hI hR2
  have hc1 := hR1.hc
  have hl1 := hq1.1
  have hl2 := hq2.1
  refine r_appendRd hI 1 (css := css1) mk_SiClause (by omega) rfl hr (fun _ _ => RdC.length) (fun _ _ => RdC.one) (by omega) (by omega) fun v' w' css3 hR3 hI => ?_
  have hI : Inv w [br] [rowG v' t_iClause 5 (css1 ++ css3), rdI br sl p2] S3 w' := hI.last 0 rfl
  exact ⟨_, _, S3, rfl, hI, (hE1.trans hE2).trans hE3, p2, css1 ++ css3, q1 ++ q2, by omega, rfl, (hR1.monoR fun _ _ h => RdC.mono (hE2.trans hE3).1 h).append hR3, hq1.append hq2, by rw [List.length_append]; omega⟩
end
end Go.Proofs.YtmnnpgdeecnfpaaGreat

/- spec.l4Clause. -/
namespace Go.Proofs.YtmnnpgdeecnfpaaGreat
open Go Go.RowKit
section
variable {br : Nat} {sl : Value} {ys : List Nat}
attribute [local irreducible] Run CondV GuardV LoadV
end
end Go.Proofs.YtmnnpgdeecnfpaaGreat

/- What calls what, and what can be reached: both sides. -/
namespace Go.Proofs.YtmnnpgdeecnfpaaGreat
open Go Go.RowKit
attribute [local irreducible] Run CondV GuardV LoadV

def addItems (B blk rA rB rC : Item) (d0 d2 d4 d5 : Bool) : List Item :=
  B :: ((match d4 with | true => [blk] | false => []) ++ (match d5, d2, d0 with | true, _, _ => [rC] | false, true, _ => [rB] | false, false, true => [rA] | false, false, false => []))
theorem l14Add_calls (x : Pd) (l : List Pd) (v : Value) (S : Store) (hl : l.length ≤ 1000000000) : Tri Tryz.prog n_s_l14Add [v, .agg x.cells.toArray] [rowP v l] S (PostP S (addP l x)) := by
  intro w hJ
  obtain ⟨xs, xn⟩ := x
  obtain ⟨X, hX⟩ : ∃ X, X = feet [rowP v l] := ⟨_, rfl⟩
  rw [← hX] at hJ ⊢
  refine calls_s_l14Add ?_
  unfold sh_s_l14Add
  refine r_box hJ fun b3 w' hJ => ?_
  have hJ := hJ.perm (M := [.blk b3 (.cells #[.string xs, .int .i64 xn] t_iPred), rowP v l]) (List.Perm.swap _ _ _)
  refine r_loadW hJ 0 ag_iPred rfl rfl ?_
  obtain ⟨S1, hle, hrd, hI, hback⟩ := Inv.lend (A := [_]) hJ
  have h := hrd.preds
  refine Run.callPure fn_s_l14Has nm_s_l14Has hI (l14Has_calls ⟨xs, xn⟩ h) fun w' hI => ?_
  refine condV (fun hb => ?_) (fun hb => ?_)
  · rw [addP, if_pos hb]
    exact ⟨_, _, _, rfl, Inv.pick (hback _ _ hI) [false, true], Ext.refl _ _ _, rfl, rfl⟩
  · rw [addP, if_neg (by rw [hb]; decide)]
    refine ⟨fun D x4 x14 x13 x12 x11 x10 x9 w_ => (D 0 = true → True) ∧ (D 1 = true → x10 = v) ∧ (D 2 = true → True) ∧ (D 3 = true → x12 = .agg #[.string xs, .int .i64 xn]) ∧ (D 4 = true → True) ∧ (D 5 = true → True) ∧ (D 6 = true → True) ∧ ∃ b13 : Nat, (D 4 = true → x13 = .slice (some ⟨b13, 0, none⟩) 1 1) ∧ (D 2 = true → D 0 = true) ∧ (D 5 = true → D 2 = true) ∧ (D 5 = true → D 4 = true) ∧ (D 6 = true → D 5 = true ∧ x4 = x14) ∧ Inv w X (addItems (.blk b3 (.cells #[.string xs, .int .i64 xn] t_iPred)) (.blk b13 (.cells #[.string xs, .int .i64 xn] t_iPred)) (rowP x9 []) (rowP x11 l) (rowP x14 (l ++ [⟨xs, xn⟩])) (D 0) (D 2) (D 4) (D 5)) S1 w_, ⟨fun h => Bool.noConfusion h, fun h => Bool.noConfusion h, fun h => Bool.noConfusion h, fun h => Bool.noConfusion h, fun h => Bool.noConfusion h, fun h => Bool.noConfusion h, fun h => Bool.noConfusion h, ⟨0, fun h => Bool.noConfusion h, fun h => Bool.noConfusion h, fun h => Bool.noConfusion h, fun h => Bool.noConfusion h, fun h => Bool.noConfusion h, hI.draw⟩⟩, ⟨?_, ?_, ?_, ?_, ?_, ?_, ?_, trivial⟩, ?_⟩
    · intro D hD_  x4 x14 x13 x12 x11 x10 x9 w_
      rintro ⟨h0_, h1_, h2_, h3_, h4_, h5_, h6_, ⟨b13, k4, k2, k5, k54, k6, hI⟩⟩
      have e2 : D 2 = false := Bool.eq_false_iff.2 fun h => by rw [k2 h] at hD_; cases hD_
      have e5 : D 5 = false := Bool.eq_false_iff.2 fun h => by rw [k5 h] at e2; cases e2
      refine r_slice0 hI mk_SiPred fun v9 w_ hI => ?_
      have k2 := fun (h : setD D 0 2 = true) => (show setD D 0 0 = true from rfl)
      have hI : Inv w X (addItems (.blk b3 (.cells #[.string xs, .int .i64 xn] t_iPred)) (.blk b13 (.cells #[.string xs, .int .i64 xn] t_iPred)) (rowP v9 []) (rowP x11 l) (rowP x14 (l ++ [⟨xs, xn⟩])) true (D 2) (D 4) (D 5)) S1 w_ := by
        rw [e2, e5] at hI ⊢
        rw [hD_] at hI
        cases h4 : D 4 <;> rw [h4] at hI <;> exact hI
      exact ⟨fun _ => by first | assumption | trivial, h1_, h2_, h3_, h4_, h5_, h6_, ⟨b13, k4, k2, k5, k54, k6, hI⟩⟩
    · intro D hD_  x4 x14 x13 x12 x11 x10 x9 w_
      rintro ⟨h0_, h1_, h2_, h3_, h4_, h5_, h6_, ⟨b13, k4, k2, k5, k54, k6, hI⟩⟩
      exact ⟨h0_, fun _ => rfl, h2_, h3_, h4_, h5_, h6_, ⟨b13, k4, k2, k5, k54, k6, hI⟩⟩
    · intro D hD_ d0_0 d1_1 x4 x14 x13 x12 x11 x10 x9 w_
      rintro ⟨h0_, h1_, h2_, h3_, h4_, h5_, h6_, ⟨b13, k4, k2, k5, k54, k6, hI⟩⟩
      have g0_ := h0_ d0_0
      obtain rfl := h1_ d1_1
      have e5 : D 5 = false := Bool.eq_false_iff.2 fun h => by rw [k5 h] at hD_; cases hD_
      have hI : Inv w X (addItems (.blk b3 (.cells #[.string xs, .int .i64 xn] t_iPred)) (.blk b13 (.cells #[.string xs, .int .i64 xn] t_iPred)) (rowP x9 []) (rowP x11 l) (rowP x14 (l ++ [⟨xs, xn⟩])) true false (D 4) false) S1 w_ := by
        rw [e5, hD_, d0_0] at hI
        exact hI
      have k2 := fun (h : setD D 2 2 = true) => (show setD D 2 0 = true from d0_0)
      have k5 := fun (h : setD D 2 5 = true) => (show setD D 2 2 = true from rfl)
      cases h4 : D 4
      · rw [h4] at hI
        refine r_appendSl (f := Pd.cells) hI 1 mk_SiPred (by omega) rfl h (fun _ _ h => h) (fun _ => rfl) (fun y c hc => by simp [Pd.cells] at hc; rcases hc with rfl | rfl <;> rfl) (by simp; omega) (by omega) fun v' w_ hI => ?_
        have hI : Inv w X (addItems (.blk b3 (.cells #[.string xs, .int .i64 xn] t_iPred)) (.blk b13 (.cells #[.string xs, .int .i64 xn] t_iPred)) (rowP x9 []) (rowP v' l) (rowP x14 (l ++ [⟨xs, xn⟩])) (D 0) true (D 4) (D 5)) S1 w_ := by
          rw [d0_0, h4, e5]
          have e : Item.row v' t_iPred 2 (([] : List Pd).length + l.length) (pds [] ++ l.flatMap Pd.cells) = rowP v' l := by simp [rowP, pds]
          exact e ▸ hI
        exact ⟨h0_, h1_, fun _ => trivial, h3_, h4_, h5_, h6_, ⟨b13, k4, k2, k5, k54, k6, hI⟩⟩
      rw [h4] at hI
      refine r_appendSl (f := Pd.cells) hI 2 mk_SiPred (by omega) rfl h (fun _ _ h => h) (fun _ => rfl) (fun y c hc => by simp [Pd.cells] at hc; rcases hc with rfl | rfl <;> rfl) (by simp; omega) (by omega) fun v' w_ hI => ?_
      have hI : Inv w X (addItems (.blk b3 (.cells #[.string xs, .int .i64 xn] t_iPred)) (.blk b13 (.cells #[.string xs, .int .i64 xn] t_iPred)) (rowP x9 []) (rowP v' l) (rowP x14 (l ++ [⟨xs, xn⟩])) (D 0) true (D 4) (D 5)) S1 w_ := by
        rw [d0_0, h4, e5]
        have e : Item.row v' t_iPred 2 (([] : List Pd).length + l.length) (pds [] ++ l.flatMap Pd.cells) = rowP v' l := by simp [rowP, pds]
        exact e ▸ hI
      exact ⟨h0_, h1_, fun _ => by first | assumption | trivial, h3_, h4_, h5_, h6_, ⟨b13, k4, k2, k5, k54, k6, hI⟩⟩
    · intro D hD_  x4 x14 x13 x12 x11 x10 x9 w_
      rintro ⟨h0_, h1_, h2_, h3_, h4_, h5_, h6_, ⟨b13, k4, k2, k5, k54, k6, hI⟩⟩
      refine r_loadW hI 0 ag_iPred rfl rfl ?_
      exact ⟨h0_, h1_, h2_, fun _ => rfl, h4_, h5_, h6_, ⟨b13, k4, k2, k5, k54, k6, hI⟩⟩
    · intro D hD_ d3_0 x4 x14 x13 x12 x11 x10 x9 w_
      rintro ⟨h0_, h1_, h2_, h3_, h4_, h5_, h6_, ⟨b13, k4, k2, k5, k54, k6, hI⟩⟩
      obtain rfl := h3_ d3_0
      have e5 : D 5 = false := Bool.eq_false_iff.2 fun h => by rw [k54 h] at hD_; cases hD_
      refine r_slice1 hI mk_SiPred rfl (by omega) (by omega) fun b13 w_ hI => ?_
      have k4 := fun (_ : setD D 4 4 = true) => (rfl : Value.slice (some ⟨b13, 0, none⟩) 1 1 = _)
      have k54 := fun (_ : setD D 4 5 = true) => (rfl : setD D 4 4 = true)
      have hI : Inv w X (addItems (.blk b3 (.cells #[.string xs, .int .i64 xn] t_iPred)) (.blk b13 (.cells #[.string xs, .int .i64 xn] t_iPred)) (rowP x9 []) (rowP x11 l) (rowP x14 (l ++ [⟨xs, xn⟩])) (D 0) (D 2) true (D 5)) S1 w_ := by
        rw [e5, hD_] at hI
        rw [e5]
        cases h0 : D 0 <;> cases h2 : D 2 <;> rw [h0, h2] at hI
        · exact hI
        · exact hI.perm ((List.Perm.swap _ _ _).cons _)
        · exact hI.perm ((List.Perm.swap _ _ _).cons _)
        · exact hI.perm ((List.Perm.swap _ _ _).cons _)
      exact ⟨h0_, h1_, h2_, h3_, fun _ => by first | assumption | trivial, h5_, h6_, ⟨b13, k4, k2, k5, k54, k6, hI⟩⟩
    · intro D hD_ d2_0 d4_1 d2_2 x4 x14 x13 x12 x11 x10 x9 w_
      rintro ⟨h0_, h1_, h2_, h3_, h4_, h5_, h6_, ⟨b13, k4, k2, k5, k54, k6, hI⟩⟩
      have g2_ := h2_ d2_0
      have g4_ := h4_ d4_1
      obtain rfl := k4 d4_1
      rw [d4_1, d2_0, hD_] at hI
      refine r_append hI 2 (k := 2) [.string xs, .int .i64 xn] mk_SiPred (by omega) rfl rfl ?_ ?_ (by omega) (by omega) fun v' w_ hI => ?_
      · intro j u hj
        rw [hI.cellL (i := 1) rfl]
        match j with
        | 0 | 1 => simpa [Value.cells] using hj
        | j + 2 => simp at hj
      · simp [Value.oneCell']
      have e : Item.row v' t_iPred 2 (l.length + 1) (pds l ++ [.string xs, .int .i64 xn]) = rowP v' (l ++ [⟨xs, xn⟩]) := by
        rw [show ([.string xs, .int .i64 xn] : List Value) = Pd.cells ⟨xs, xn⟩ from rfl, pds_snoc]; simp [rowP]
      have hI : Inv w X (addItems (.blk b3 (.cells #[.string xs, .int .i64 xn] t_iPred)) (.blk b13 (.cells #[.string xs, .int .i64 xn] t_iPred)) (rowP x9 []) (rowP x11 l) (rowP v' (l ++ [⟨xs, xn⟩])) (D 0) (D 2) (D 4) true) S1 w_ := by
        rw [d4_1]
        exact e ▸ hI
      have k5 := fun (_ : setD D 5 5 = true) => d2_0
      have k54 := fun (_ : setD D 5 5 = true) => d4_1
      have k6 : setD D 5 6 = true → setD D 5 5 = true ∧ x4 = v' := fun h => absurd (k6 h).1 (by rw [hD_]; decide)
      exact ⟨h0_, h1_, h2_, h3_, h4_, fun _ => by first | assumption | trivial, h6_, ⟨b13, k4, k2, k5, k54, k6, hI⟩⟩
    · intro D hD_ d5_0 d5_1 d0_2 d1_3 d2_4 d3_5 d4_6 d5_7 x4 x14 x13 x12 x11 x10 x9 w_
      rintro ⟨h0_, h1_, h2_, h3_, h4_, h5_, h6_, ⟨b13, k4, k2, k5, k54, k6, hI⟩⟩
      have g5_ := h5_ d5_0
      have k6 := fun (_ : setD D 6 6 = true) => (⟨d5_0, rfl⟩ : D 5 = true ∧ x14 = x14)
      exact ⟨h0_, h1_, h2_, h3_, h4_, h5_, fun _ => by first | assumption | trivial, ⟨b13, k4, k2, k5, k54, k6, hI⟩⟩
    intro D d6_ d5_ d4_ d3_ d2_ d1_ d0_ x4 x14 x13 x12 x11 x10 x9 w_
    rintro ⟨h0_, h1_, h2_, h3_, h4_, h5_, h6_, ⟨b13, k4, k2, k5, k54, k6, hI⟩⟩
    have g6_ := h6_ d6_
    have g5_ := h5_ d5_
    have g4_ := h4_ d4_
    obtain rfl := h3_ d3_
    have g2_ := h2_ d2_
    obtain rfl := h1_ d1_
    have g0_ := h0_ d0_
    clear h0_ h1_ h2_ h3_ h4_ h5_ h6_
    obtain ⟨_, rfl⟩ := k6 d6_
    rw [d5_, d4_] at hI
    exact ⟨_, _, _, rfl, (hI.less hle).pick [false, false, true], Ext.refl _ _ _, rfl, rfl⟩

end Go.Proofs.YtmnnpgdeecnfpaaGreat

/- The graph of calls: the plain form. -/
namespace Go.Proofs.YtmnnpgdeecnfpaaGreat
open Go Go.RowKit
attribute [local irreducible] Run CondV GuardV LoadV

def goalsP (l : List Pd) (ts : List T) : List Pd := ts.foldl (fun l t => if plainB t = true then addP l (predT t) else l) l
def callsFrom (l : List Pd) (p : List C) (x : Pd) : List Pd := p.foldl (fun l c => if eqPd (predT c.head) x = true then goalsP l c.body else l) l
def callsP (p : List C) (x : Pd) : List Pd := callsFrom [] p x
theorem addP_len (l : List Pd) (x : Pd) : (addP l x).length ≤ l.length + 1 := by
  unfold addP
  split
  · omega
  · simp
/- what may still come in -/
/- rows of predicates: their length, an element -/
section
variable {P : Program} {w w0 : World} {X : List Nat} {L : List Item} {S : Store} {K : Value → World → Prop}
end

end Go.Proofs.YtmnnpgdeecnfpaaGreat

/- What the clauses for a name call: both sides. -/
namespace Go.Proofs.YtmnnpgdeecnfpaaGreat
open Go Go.RowKit
attribute [local irreducible] Run CondV GuardV LoadV

/- the program's side goes over the clauses' numbers -/
end Go.Proofs.YtmnnpgdeecnfpaaGreat

/- What some predicates can lead to: both sides. -/
namespace Go.Proofs.YtmnnpgdeecnfpaaGreat
open Go Go.RowKit
attribute [local irreducible] Run CondV GuardV LoadV

end Go.Proofs.YtmnnpgdeecnfpaaGreat

/- Which predicates can lead to themselves: both sides. -/
namespace Go.Proofs.YtmnnpgdeecnfpaaGreat
open Go Go.RowKit
attribute [local irreducible] Run CondV GuardV LoadV

end Go.Proofs.YtmnnpgdeecnfpaaGreat

/- PredsOf, CallsOf, ReachOf: both sides. -/
namespace Go.Proofs.YtmnnpgdeecnfpaaGreat
open Go Go.RowKit
attribute [local irreducible] Run CondV GuardV LoadV

def predsFrom (l : List Pd) (p : List C) : List Pd := p.foldl (fun l c => addP l (predT c.head)) l
def predsOf (p : List C) : List Pd := if progB p = true then predsFrom [] p else []
theorem predsFrom_drop (l : List Pd) (p : List C) (k : Nat) (h : k < p.length) : predsFrom l (p.drop k) = predsFrom (addP l (predT p[k].head)) (p.drop (k + 1)) := by
  rw [List.drop_eq_getElem_cons h]; rfl
theorem predsFrom_len : ∀ (p : List C) (l : List Pd), (predsFrom l p).length ≤ l.length + p.length
  | [], l => Nat.le_refl _
  | c :: p, l => by
    have h := predsFrom_len p (addP l (predT c.head))
    have h2 := addP_len l (predT c.head)
    have e : predsFrom l (c :: p) = predsFrom (addP l (predT c.head)) p := rfl
    rw [e, List.length_cons]
    omega

theorem s_l14Preds_calls {p : List C} {S : Store} {v : Value} (h : RdSl S 5 (RdC S) v p) (hp : p.length ≤ 1100000) : Tri Tryz.prog n_s_l14Preds [v] [] S (PostP S (predsFrom [] p)) := by
  intro w hI
  refine calls_s_l14Preds ?_
  unfold sh_s_l14Preds
  refine r_slice0 hI mk_SiPred fun v0 w' hI => ?_
  refine ⟨fun i t w' => ∃ (k : Nat) (l : List Pd), k ≤ p.length ∧ i = .int .i64 k ∧ predsFrom l (p.drop k) = predsFrom [] p ∧ l.length ≤ k ∧ Inv w [] [rowP t l] S w', fun i _ _ => p.length - (intOf i).toNat, ⟨0, [], Nat.zero_le _, rfl, rfl, Nat.le_refl _, hI⟩, ?_⟩
  intro t4 _ _ t3 _ _ _ _ _ _ _ _ _ _ _ _ w'
  rintro ⟨k, l, hk, rfl, hrel, hl, hI⟩
  refine r_lenSl h sl_SiClause ?_
  refine r_lss ?_
  refine condP (fun hki => ?_) (fun hki => ?_)
  · have hk' : k < p.length := by omega
    rw [predsFrom_drop l p k hk'] at hrel
    have hal := addP_len l (predT p[k].head)
    obtain ⟨b, o, cap, c, E, fz, rfl, hS, hR⟩ := h.at_ hk'
    obtain ⟨hd, ks2, hcs, h1, h2⟩ := hR
    obtain ⟨kv, rfl, _, _, hs1, hk1⟩ := RdT.iff.1 h1
    refine r_indexAddr sl_SiClause hk' ?_
    refine r_field fo_iClause_0 ?_
    rw [Nat.add_zero]
    refine r_loadA (cs := [.int .i64 p[k].head.kind, .int .i64 p[k].head.n, .string p[k].head.name, kv]) ag_iTerm rfl (fun j v hj => by rw [hI.cellS hS]; exact cellsAt_get hcs j v (by match j, hj with | 0, hj => exact hj | 1, hj => exact hj | 2, hj => exact hj | 3, hj => exact hj | j + 4, hj => simp at hj)) ?_
    refine Run.callPure fn_s_l14Of nm_s_l14Of hI (s_l14Of_calls h1) fun w' hI => ?_
    refine Run.call (A := []) fn_s_l14Add nm_s_l14Add hI (l14Add_calls (predT p[k].head) l t3 S (by omega)) fun v' I' S' w' => ?_
    rintro ⟨rfl, rfl⟩ _ hI
    refine r_add (by omega) ?_
    exact ⟨⟨k + 1, _, hk', rfl, hrel, by omega, hI⟩, by simp [intOf]; omega⟩
  · have : k = p.length := by omega
    subst this
    rw [List.drop_length] at hrel
    have hrel : l = predsFrom [] p := hrel
    rw [← hrel]
    exact ⟨_, _, _, rfl, hI, Ext.refl _ _ _, rfl, rfl⟩
theorem s_PredsOf_calls {p : List C} {S : Store} {v : Value} (h : RdSl S 5 (RdC S) v p) (hw : p.length + wP p ≤ 1048576) : Tri Tryz.prog n_s_PredsOf [v] [] S (PostP S (predsOf p)) := by
  intro w hI
  refine calls_s_PredsOf ?_
  unfold sh_s_PredsOf
  refine Run.callPure fn_s_ProgramValid nm_s_ProgramValid hI (s_ProgramValid_calls h (by omega)) fun w' hI => ?_
  refine r_not ?_
  refine condV (fun hb => ?_) (fun hb => ?_)
  · rw [predsOf, if_neg (by simp at hb; simp [hb])]
    refine r_slice0 hI mk_SiPred fun v0 w' hI => ?_
    exact ⟨_, _, _, rfl, hI, Ext.refl _ _ _, rfl, rfl⟩
  · rw [predsOf, if_pos (by simpa using hb)]
    refine Run.call0 fn_s_l14Preds nm_s_l14Preds hI (s_l14Preds_calls h (by omega)) fun v' I' S' w' => ?_
    rintro ⟨rfl, rfl⟩ _ hI
    exact ⟨_, _, _, rfl, hI, Ext.refl _ _ _, rfl, rfl⟩
theorem i_PredsOf_calls {p : List C} {S : Store} {v : Value} (h : RdSl S 5 (RdC S) v p) (hw : p.length + wP p ≤ 1048576) : Tri Tryz.prog n_i_PredsOf [v] [] S (PostP S (predsOf p)) := by
  intro w hI
  refine calls_i_PredsOf ?_
  unfold sh_i_PredsOf
  refine Run.callPure fn_i_ProgramValid nm_i_ProgramValid hI (iProgramValid_calls h) fun w' hI => ?_
  refine r_not ?_
  refine condV (fun hb => ?_) (fun hb => ?_)
  · rw [predsOf, if_neg (by simp at hb; simp [hb])]
    exact ⟨_, _, _, rfl, hI.rowNil t_iPred 2, Ext.refl _ _ _, rfl, rfl⟩
  rw [predsOf, if_pos (by simpa using hb)]
  refine r_lenSl h sl_SiClause ?_
  refine ⟨fun i t w' => ∃ (k : Nat) (l : List Pd), k ≤ p.length ∧ i = .int .i64 k ∧ predsFrom l (p.drop k) = predsFrom [] p ∧ l.length ≤ k ∧ Inv w [] [rowP t l] S w', fun i _ _ => p.length - (intOf i).toNat, ⟨0, [], Nat.zero_le _, rfl, rfl, Nat.le_refl _, hI.rowNil t_iPred 2⟩, ?_⟩
  intro t11 _ t3 _ _ _ _ _ _ _ _ _ w'
  rintro ⟨k, l, hk, rfl, hrel, hl, hI⟩
  refine r_lss ?_
  refine condP (fun hki => ?_) (fun hki => ?_)
  · have hk' : k < p.length := by omega
    rw [predsFrom_drop l p k hk'] at hrel
    have hal := addP_len l (predT p[k].head)
    refine r_elem hI h sl_SiClause ag_iClause hk' (fun _ _ => RdC.length) fun cs hcs => ?_
    obtain ⟨hd, ks, rfl, h1, h2⟩ := hcs
    have h1' := h1
    obtain ⟨kv, rfl, _, _, hs, hks⟩ := RdT.iff.1 h1
    have hkv : kv.oneCell' = true ∧ ks.oneCell' = true := by
      obtain ⟨a, cap, rfl, _⟩ := hks
      obtain ⟨a, cap, rfl, _⟩ := h2
      exact ⟨rfl, rfl⟩
    refine r_alloc hI zo_iClause fun b7 w' hI => ?_
    refine r_storeW hI 1 rfl ag_iClause rfl rfl (by
      intro u hu
      have hu' : u ∈ ([.int .i64 p[k].head.kind, .int .i64 p[k].head.n, .string p[k].head.name, kv, ks] : List Value) := hu
      simp at hu'
      rcases hu' with rfl | rfl | rfl | rfl | rfl <;> first | rfl | exact hkv.1 | exact hkv.2) fun w' hI => ?_
    refine r_field fo_iClause_0 ?_
    refine r_loadLA hI 1 [.int .i64 p[k].head.kind, .int .i64 p[k].head.n, .string p[k].head.name, kv] ag_iTerm rfl rfl sub4 ?_
    refine Run.callPure fn_i_pred nm_i_pred hI (i_pred_calls h1') fun w' hI => ?_
    have hI := hI.pick [true, false]
    refine Run.call (A := []) fn_i_addPred nm_i_addPred hI (addPred_calls (predT p[k].head) l t3 S (by omega)) fun v' I' S' w' => ?_
    rintro ⟨rfl, rfl⟩ _ hI
    refine r_add (by omega) ?_
    exact ⟨⟨k + 1, _, hk', rfl, hrel, by omega, hI⟩, by simp [intOf]; omega⟩
  · have : k = p.length := by omega
    subst this
    rw [List.drop_length] at hrel
    have hrel : l = predsFrom [] p := hrel
    rw [← hrel]
    exact ⟨_, _, _, rfl, hI, Ext.refl _ _ _, rfl, rfl⟩

end Go.Proofs.YtmnnpgdeecnfpaaGreat

/- A predicate that comes in: its size, its copy, its reading. -/
namespace Go.Proofs.YtmnnpgdeecnfpaaGreat
open Go Go.ChangeShapes Go.WideShapes Go.ChangeAt Go.RowKit
section
attribute [local irreducible] Run CondV GuardV LoadV
end
theorem two {cs : List Value} (h : cs.length = 2) : ∃ a b, cs = [a, b] := by
  match cs, h with
  | [a, b], _ => exact ⟨a, b, rfl⟩
end Go.Proofs.YtmnnpgdeecnfpaaGreat

/- spec.l14Pred, DrawPredsOf, DrawCallsOf, DrawRecursivePred. -/
namespace Go.Proofs.YtmnnpgdeecnfpaaGreat
open Go Go.RowKit
theorem Inv.lendRow {w0 w : World} {X : List Nat} {A : List Item} {S : Store} {v : Value} {e : TypeId} {k n : Nat} {xs : List Value} (h : Inv w0 X (A ++ [.row v e k n xs]) S w) :
    ∃ S', Ext w0.heap.size X S S' ∧ RowRd S' v e k n xs ∧ Inv w0 X A S' w := by
  obtain ⟨hl, ho⟩ := h.openRow
  rcases ho with ⟨rfl, h0⟩ | ⟨g, cap, cur, rfl, hnc, hcm, hcs, ht, hI⟩
  · exact ⟨S, Ext.refl _ _ _, ⟨hl, .inl ⟨rfl, h0⟩⟩, h.sub (List.sublist_append_left _ _)⟩
  · obtain ⟨S', h1, h2, h3⟩ := Inv.pub1 (A := A) hI
    exact ⟨S', h2, ⟨hl, .inr ⟨g, cap, cur, rfl, h3, hnc, hcm, hcs, ht⟩⟩, h1⟩
theorem RdSl.monoP {S S' : Store} {v : Value} {ys : List Pd} (hs : Sle S S') (h : RdSl S 2 RdPd v ys) : RdSl S' 2 RdPd v ys := h.mono hs fun _ _ h => h
abbrev PostDQ (br : Nat) (sl : Value) (p k : Nat) : Value → List Item → Store → Prop := fun v I' _ => ∃ p', p' ≤ p + k ∧ I' = [rdI br sl p'] ∧ ∃ x : Pd, v = .agg x.cells.toArray
section
variable {br : Nat} {sl : Value} {ys : List Nat}
attribute [local irreducible] Run CondV GuardV LoadV
theorem Pd.one (x : Pd) : ∀ u ∈ x.cells, u.oneCell' = true := by
  intro u hu
  have hu' : u ∈ ([.string x.name, .int .i64 x.arity] : List Value) := hu
  simp at hu'
  rcases hu' with rfl | rfl <;> rfl
theorem l14Pred_calls {p m : Nat} {S : Store} {v : Value} {q : List C} (hrd : RdSl S 1 RdU8 sl ys) (h : RdSl S 5 (RdC S) v q) (hq : Light 30 m q) (hp : p ≤ 100000000) :
    Tri Tryz.prog n_s_l14Pred [rdP br, v] [rdI br sl p] S (PostDQ br sl p 5) := by
  intro w hI
  have hql := hq.1
  refine calls_s_l14Pred ?_
  unfold sh_s_l14Pred
  refine r_alloc hI zo_iPred fun b4 w' hI => ?_
  have hI : Inv w [br] [.blk b4 (.cells #[.string ⟨#[]⟩, .int .i64 0] t_iPred), rdI br sl p] S w' := hI.last 0 rfl
  refine Run.call0E fn_s_l14Preds nm_s_l14Preds hI (s_l14Preds_calls h (by omega)) fun v' I' S1 w' => ?_
  rintro ⟨rfl, rfl⟩ _ hI
  obtain ⟨S2, hE2, hrow, hI⟩ := Inv.lendRow (A := [_, _]) hI
  have hr := hrow.preds
  have hI : Inv w [br] [.blk b4 (.cells #[.string ⟨#[]⟩, .int .i64 0] t_iPred), rdI br sl p] S2 w' := hI
  refine ⟨fun t w' => ∃ (c : Bool) (p1 : Nat), t = .bool c ∧ p1 ≤ p + 1 ∧ (c = false → 0 < (predsFrom [] q).length) ∧ Inv w [br] [.blk b4 (.cells #[.string ⟨#[]⟩, .int .i64 0] t_iPred), rdI br sl p1] S2 w', ?_, ?_⟩
  · refine r_lenSl hr sl_SiPred ?_
    by_cases h0 : ((predsFrom [] q).length : Int) = 0
    · refine r_eqlT h0 ?_
      repeat (first | refine guard_true ?_ | refine guard_ne (by decide) ?_ | refine guard_undef ?_ | refine r_pickT ?_ | refine r_pickF ?_)
      exact ⟨true, p, rfl, by omega, (fun h => by cases h), hI⟩
    · refine r_eqlF h0 ?_
      repeat (first | refine guard_true ?_ | refine guard_ne (by decide) ?_ | refine guard_undef ?_ | refine r_pickT ?_ | refine r_pickF ?_)
      refine Run.callL fn_s_l18Rd_pick nm_s_l18Rd_pick hI (pick_calls (n := 6) (hrd.monoU hE2.1) (by omega) (by omega)) rfl fun v' I' S2 w' => ?_
      rintro ⟨rfl, rfl, k, hk, rfl⟩ _ hI
      refine r_eql ?_
      repeat (first | refine guard_true ?_ | refine guard_ne (by decide) ?_ | refine guard_undef ?_ | refine r_pickT ?_ | refine r_pickF ?_)
      exact ⟨_, p + 1, rfl, by omega, fun _ => by omega, hI⟩
  intro t15 _ _ _ _ _ _ _ w'
  rintro ⟨c, p1, rfl, hp1, hc, hI⟩
  refine condV (fun _ => ?_) (fun hc' => ?_)
  · refine r_strs hI (by kernel_rfl) rfl (by omega) fun v S3 w' hE3 hv hI => ?_
    refine Run.callL fn_s_l18Rd_of nm_s_l18Rd_of hI (of_calls (p := p1) (hrd.monoU (hE2.trans hE3).1) hv (by decide) (by omega)) rfl fun v' I' S3 w' => ?_
    rintro ⟨rfl, rfl, s, hs, rfl⟩ _ hI
    refine Run.callL fn_s_l18Rd_pick nm_s_l18Rd_pick hI (pick_calls (n := 4) (p := p1 + 1) (hrd.monoU (hE2.trans hE3).1) (by omega) (by omega)) rfl fun v' I' S3 w' => ?_
    rintro ⟨rfl, rfl, k, hk, rfl⟩ _ hI
    refine r_buildPred ?_
    refine r_storeW hI 0 rfl ag_iPred rfl rfl (Pd.one ⟨s, k⟩) fun w' hI => ?_
    refine loadV_W hI 0 ag_iPred rfl rfl ?_
    exact ⟨_, _, S3, rfl, hI.pick [false, true], hE2.trans hE3, p1 + 2, by omega, rfl, ⟨s, k⟩, rfl⟩
  · have h0 := hc hc'
    refine r_lenSl hr sl_SiPred ?_
    refine Run.callL fn_s_l18Rd_pick nm_s_l18Rd_pick hI (pick_calls (n := (predsFrom [] q).length) (hrd.monoU hE2.1) (by omega) h0) rfl fun v' I' S2 w' => ?_
    rintro ⟨rfl, rfl, k, hk, rfl⟩ _ hI
    refine r_elem hI hr sl_SiPred ag_iPred hk (fun cs x hx => by rw [hx]; rfl) fun cs hcs => ?_
    have hcs : cs = Pd.cells _ := hcs
    subst hcs
    refine r_storeW hI 0 rfl ag_iPred rfl rfl (Pd.one _) fun w' hI => ?_
    refine loadV_W hI 0 ag_iPred rfl rfl ?_
    exact ⟨_, _, S2, rfl, hI.pick [false, true], hE2, p1 + 1, by omega, rfl, _, rfl⟩
theorem DrawPredsOf_calls {S : Store} {v : Value} (h : RdSl S 1 RdU8 v ys) : Tri Tryz.prog n_s_DrawPredsOf [v] [] S fun v' I' S' => I' = [] ∧ ∃ q, RdSl S' 5 (RdC S') v' q ∧ Light 30 900 q := by
  intro w hI
  refine calls_s_DrawPredsOf ?_
  unfold sh_s_DrawPredsOf
  refine Run.call0E fn_s_l18Open nm_s_l18Open hI (open_calls h) fun v1 I' S1 w' => ?_
  rintro ⟨rfl, br, sl, ys', rfl, rfl, hrd⟩ _ hI
  have hI : Inv w [] [rdI br sl 0] S1 w' := hI
  refine Run.callL fn_s_l14Two nm_s_l14Two hI (l14Two_calls (p := 0) hrd (by omega)) rfl fun v2 I' S2 w' => ?_
  rintro ⟨p1, css, q, hp1, rfl, hR, hq, h0⟩ hE2 hI
  obtain ⟨S3, hE3, hI, hr⟩ := pub_prog (A := [rdI br sl p1]) hI hR
  refine Run.callL fn_s_l4MutateAll nm_s_l4MutateAll hI (l4MutateAll_calls (m := 200) (hrd.monoU (hE2.trans hE3).1) hr ⟨by have := hq.1; omega, hq.2⟩ h0 (by omega) (by omega)) rfl fun v3 I' S4 w' => ?_
  rintro ⟨p2, hp2, rfl, q2, hr2, hq2⟩ hE4 hI
  exact ⟨_, [], S4, rfl, hI.nil, (hE2.trans hE3).trans hE4, rfl, q2, hr2, hq2⟩
abbrev PostPX (v' : Value) (I' : List Item) (S' : Store) : Prop := I' = [] ∧ ∃ u q x, v' = .tuple #[u, .agg (Pd.cells x).toArray] ∧ RdSl S' 5 (RdC S') u q ∧ Light 30 900 q
theorem DrawCallsOf_calls {S : Store} {v : Value} (h : RdSl S 1 RdU8 v ys) : Tri Tryz.prog n_s_DrawCallsOf [v] [] S PostPX := by
  intro w hI
  refine calls_s_DrawCallsOf ?_
  unfold sh_s_DrawCallsOf
  refine r_alloc hI zo_iPred fun b3 w' hI => ?_
  refine Run.call0E fn_s_l18Open nm_s_l18Open hI (open_calls h) fun v1 I' S1 w' => ?_
  rintro ⟨rfl, br, sl, ys', rfl, rfl, hrd⟩ _ hI
  have hI : Inv w [] [.blk b3 (.cells #[.string ⟨#[]⟩, .int .i64 0] t_iPred), rdI br sl 0] S1 w' := hI
  refine Run.callL fn_s_l14Two nm_s_l14Two hI (l14Two_calls (p := 0) hrd (by omega)) rfl fun v2 I' S2 w' => ?_
  rintro ⟨p1, css, q, hp1, rfl, hR, hq, h0⟩ hE2 hI
  have hI : Inv w [] [rowG v2 t_iClause 5 css, rdI br sl p1, .blk b3 (.cells #[.string ⟨#[]⟩, .int .i64 0] t_iPred)] S2 w' := hI.last 0 rfl
  obtain ⟨S3, hE3, hI, hr⟩ := pub_prog hI hR
  have hI : Inv w [] [.blk b3 (.cells #[.string ⟨#[]⟩, .int .i64 0] t_iPred), rdI br sl p1] S3 w' := hI.last 0 rfl
  refine Run.callL fn_s_l4MutateAll nm_s_l4MutateAll hI (l4MutateAll_calls (m := 200) (hrd.monoU (hE2.trans hE3).1) hr ⟨by have := hq.1; omega, hq.2⟩ h0 (by omega) (by omega)) rfl fun v3 I' S4 w' => ?_
  rintro ⟨p2, hp2, rfl, q2, hr2, hq2⟩ hE4 hI
  have hE4 := (hE2.trans hE3).trans hE4
  refine Run.callL fn_s_l14Pred nm_s_l14Pred hI (l14Pred_calls (p := p2) (hrd.monoU hE4.1) hr2 hq2 (by omega)) rfl fun v4 I' S5 w' => ?_
  rintro ⟨p3, hp3, rfl, x, rfl⟩ hE5 hI
  refine r_storeW hI 0 rfl ag_iPred rfl rfl (Pd.one _) fun w' hI => ?_
  refine loadV_W hI 0 ag_iPred rfl rfl ?_
  exact ⟨_, [], S5, rfl, hI.nil, hE4.trans hE5, rfl, _, q2, x, rfl, hr2.monoC hE5.1, hq2⟩
end
end Go.Proofs.YtmnnpgdeecnfpaaGreat

/- Whether terms are the same: both sides. -/
namespace Go.Proofs.YtmnnpgdeecnfpaaGreat
open Go Go.RowKit
attribute [local irreducible] Run CondV GuardV LoadV

end Go.Proofs.YtmnnpgdeecnfpaaGreat

/- Whether terms are the same: the program's side. -/
namespace Go.Proofs.YtmnnpgdeecnfpaaGreat
open Go Go.RowKit
attribute [local irreducible] Run CondV GuardV LoadV

theorem EqualFunc_of {xs : List T} (ih : ∀ t ∈ xs, ∀ (u : T) (S : Store) (cs ds : List Value), RdT S cs t → RdT S ds u → Pure Tryz.prog n_i_TermSame [.agg cs.toArray, .agg ds.toArray] S (.bool (eqT t u)))
    {ys : List T} {S : Store} {v u : Value} (h : RdSl S 4 (RdT S) v xs) (h' : RdSl S 4 (RdT S) u ys) : Pure Tryz.prog n_x_EqualFunc_Term [v, u, .func (.func n_i_TermSame) #[] #[]] S (.bool (eqL xs ys)) := by
  intro w hI
  have hlen : (xs.length : Int) ≤ 9223372036854775807 := by have := h.le; simp only [maxLen] at this; omega
  refine calls_x_EqualFunc_Term ?_
  unfold sh_x_EqualFunc_Term
  refine r_lenSl h sl_SiTerm ?_
  refine r_lenSl h' sl_SiTerm ?_
  refine r_neq ?_
  refine condV (fun hne => ?_) (fun he => ?_)
  · exact done hI (by rw [eqL_len (by simp at hne; omega)])
  have he : xs.length = ys.length := by simp at he; omega
  refine r_lenSl h sl_SiTerm ?_
  refine ⟨fun i w' => ∃ (k : Nat), k ≤ xs.length ∧ i = .int .i64 k ∧ eqL (xs.drop k) (ys.drop k) = eqL xs ys ∧ Inv w [] [] S w', fun i _ => xs.length - (intOf i).toNat, ⟨0, Nat.zero_le _, rfl, rfl, hI⟩, ?_⟩
  intro t5 _ _ _ _ _ _ _ _ _ _ _ _ _ _ _ _ _ _ w'
  rintro ⟨k, hk, rfl, hrel, hI⟩
  refine r_lss ?_
  refine condP (fun hki => ?_) (fun hki => ?_)
  · have hk1 : k < xs.length := by omega
    have hk2 : k < ys.length := by omega
    have hstep : eqL (xs.drop k) (ys.drop k) = (eqT xs[k] ys[k] && eqL (xs.drop (k + 1)) (ys.drop (k + 1))) := by
      rw [List.drop_eq_getElem_cons hk1, List.drop_eq_getElem_cons hk2, eqL]
    refine r_elem hI h sl_SiTerm ag_iTerm hk1 (fun _ _ => RdT.length) fun cs hcs => ?_
    have hlc := hcs.length
    refine r_alloc hI zo_iTerm fun b8 w' hI => ?_
    refine r_storeW hI 0 rfl ag_iTerm (by simpa using hlc) rfl (by simpa using hcs.one) fun w' hI => ?_
    refine r_elem hI h' sl_SiTerm ag_iTerm hk2 (fun _ _ => RdT.length) fun ds hds => ?_
    have hld := hds.length
    refine r_alloc hI zo_iTerm fun b9 w' hI => ?_
    refine r_storeW hI 1 rfl ag_iTerm (by simpa using hld) rfl (by simpa using hds.one) fun w' hI => ?_
    refine r_loadW hI 0 ag_iTerm rfl (by simpa using hlc) ?_
    refine r_loadW hI 1 ag_iTerm rfl (by simpa using hld) ?_
    refine Run.callPure fn_i_TermSame nm_i_TermSame hI (ih _ (List.getElem_mem hk1) _ S _ _ hcs hds) fun w' hI => ?_
    refine r_not ?_
    refine condV (fun hne => ?_) (fun he' => ?_)
    · exact done hI (by rw [← hrel, hstep]; simp at hne; rw [hne]; rfl)
    · refine r_add (by omega) ?_
      refine ⟨⟨k + 1, hk1, rfl, ?_, hI.nil⟩, by simp [intOf]; omega⟩
      rw [← hrel, hstep]
      simp at he'
      rw [he', Bool.true_and]
  · have : k = xs.length := by omega
    subst this
    refine done hI ?_
    rw [← hrel, List.drop_length, he, List.drop_length]
    rfl
theorem i_TermSame_calls : ∀ (t u : T) (S : Store) (cs ds : List Value), RdT S cs t → RdT S ds u → Pure Tryz.prog n_i_TermSame [.agg cs.toArray, .agg ds.toArray] S (.bool (eqT t u)) := by
  refine T.ind fun k n s ks ih u S cs ds h h' => ?_
  intro w hI
  obtain ⟨kv, rfl, _, _, _, hks⟩ := RdT.iff.1 h
  obtain ⟨kv', rfl, _, _, _, hks'⟩ := RdT.iff.1 h'
  obtain ⟨k', n', s', ks'⟩ := u
  simp only [T.name, T.kids, T.kind, T.n] at hks hks' ⊢
  refine calls_i_TermSame ?_
  unfold sh_i_TermSame
  refine r_box hI fun b1 w' hI => ?_
  refine r_box hI fun b2 w' hI => ?_
  refine r_fieldL hI 0 rfl fo_iTerm_0 sc_int rfl ?_
  refine r_fieldL hI 1 rfl fo_iTerm_0 sc_int rfl ?_
  refine r_eql ?_
  by_cases e1 : k = k'
  · rw [decide_eq_true e1]
    repeat (first | refine guard_true ?_ | refine guard_ne (by decide) ?_ | refine guard_undef ?_ | refine r_pickT ?_ | refine r_pickF ?_)
    refine r_fieldL hI 0 rfl fo_iTerm_1 sc_int rfl ?_
    refine r_fieldL hI 1 rfl fo_iTerm_1 sc_int rfl ?_
    refine r_eql ?_
    by_cases e2 : n = n'
    · rw [decide_eq_true e2]
      repeat (first | refine guard_true ?_ | refine guard_ne (by decide) ?_ | refine guard_undef ?_ | refine r_pickT ?_ | refine r_pickF ?_)
      refine r_fieldL hI 0 rfl fo_iTerm_2 sc_string rfl ?_
      refine r_fieldL hI 1 rfl fo_iTerm_2 sc_string rfl ?_
      refine r_seql ?_
      by_cases e3 : s = s'
      · rw [decide_eq_true e3]
        repeat (first | refine guard_true ?_ | refine guard_ne (by decide) ?_ | refine guard_undef ?_ | refine r_pickT ?_ | refine r_pickF ?_)
        refine r_fieldL hI 0 rfl fo_iTerm_3 sc_SiTerm rfl ?_
        refine r_fieldL hI 1 rfl fo_iTerm_3 sc_SiTerm rfl ?_
        refine Run.callPure fn_x_EqualFunc_Term nm_x_EqualFunc_Term hI (EqualFunc_of ih hks hks') fun w' hI => ?_
        repeat (first | refine guard_true ?_ | refine guard_ne (by decide) ?_ | refine guard_undef ?_ | refine r_pickT ?_ | refine r_pickF ?_)
        exact done hI (by rw [eqT, decide_eq_true e1, decide_eq_true e2, decide_eq_true e3]; rfl)
      · rw [decide_eq_false e3]
        repeat (first | refine guard_true ?_ | refine guard_ne (by decide) ?_ | refine guard_undef ?_ | refine r_pickT ?_ | refine r_pickF ?_)
        exact done hI (by rw [eqT, decide_eq_true e1, decide_eq_true e2, decide_eq_false e3]; rfl)
    · rw [decide_eq_false e2]
      repeat (first | refine guard_true ?_ | refine guard_ne (by decide) ?_ | refine guard_undef ?_ | refine r_pickT ?_ | refine r_pickF ?_)
      exact done hI (by rw [eqT, decide_eq_true e1, decide_eq_false e2]; rfl)
  · rw [decide_eq_false e1]
    repeat (first | refine guard_true ?_ | refine guard_ne (by decide) ?_ | refine guard_undef ?_ | refine r_pickT ?_ | refine r_pickF ?_)
    exact done hI (by rw [eqT, decide_eq_false e1]; rfl)

end Go.Proofs.YtmnnpgdeecnfpaaGreat

/- What the laws compare with: pgPreds, pgPred, impl.ClauseSame, pgClauses; bytes that come in. -/
namespace Go.Proofs.YtmnnpgdeecnfpaaGreat
open Go Go.ChangeShapes Go.WideShapes Go.ChangeAt Go.RowKit
theorem un_u8 : Tryz.prog.underlying t_uint8 = some (.int .u8) := by kernel_rfl
theorem trod_u8 {H : Type} {enc : TypeId × Value → H} {W : World} {sp : Nat → Bool} {held : Bool} {fuel : Nat} {cs : List Value} {x : DataW H × List MemPlace} (h : DataW.trod enc Tryz.prog W 0 sp held fuel t_uint8 cs = some x) :
    ∃ n, RdU8 cs n := by
  cases fuel with
  | zero => simp [DataW.trod] at h
  | succ n =>
    unfold DataW.trod at h
    rw [un_u8] at h
    split at h <;> simp_all
    rename_i k1 k2 m he
    subst he
    obtain ⟨⟨_, h⟩, _⟩ := h
    simp only [Lit.wf, Bool.and_eq_true, decide_eq_true_eq] at h
    have h1 : 0 ≤ m ∧ m ≤ 255 := h
    exact ⟨m.toNat, by rw [RdU8, Int.toNat_of_nonneg (by omega)]; exact ⟨rfl, by omega⟩⟩
theorem trod_bytes {H : Type} {enc : TypeId × Value → H} {W : World} {sp : Nat → Bool} {held : Bool} {fuel : Nat} {v : Value} {x : DataW H × List MemPlace} (h : DataW.trod enc Tryz.prog W 0 sp held fuel t_Suint8 [v] = some x) :
    ∃ ys, RdSl (heapS W) 1 RdU8 v ys := trod_sl sl_Suint8 (by omega) h fun _ _ _ _ hy => trod_u8 hy
section
variable {w0 w : World} {X : List Nat} {L : List Item} {S : Store} {K : Value → World → Prop}
attribute [local irreducible] Run CondV GuardV LoadV
theorem r_beqB {P : Program} {T : TypeId} {cx cy : Bool} {a b : Bool} (hu : P.underlying T = some .bool) (hk : K (.bool (a == b)) w) : Run P (sBin .eql T cx cy (.bool a) (.bool b)) w K :=
  Run.of (by
    have he : (Op.equal T (.bool a) (.bool b)).run P w = .ok (a == b) w := by
      rw [Op.equal, Op.maxDepth, Op.equalIn.eq_def]
      simp [run_underlying hu]
    simp only [sBin, binOp, Sem.run_bind, eqGuard_bool, Result.andThen_ok, he, Sem.run_pure]) hk
theorem pgPred_calls (x : Pd) {l : List Pd} {v : Value} (h : RdSl S 2 RdPd v l) : Pure Tryz.prog n_l_pgPred [v, .agg x.cells.toArray] S (.bool (hasP l x)) := by
  intro w hI
  have hlen := h.le
  simp only [maxLen] at hlen
  obtain ⟨xs, xn⟩ := x
  refine calls_l_pgPred ?_
  unfold sh_l_pgPred
  refine r_box hI fun b3 w' hI => ?_
  have hI : Inv w [] [.blk b3 (.cells #[.string xs, .int .i64 xn] t_iPred)] S w' := hI
  refine ⟨fun i w' => ∃ k : Nat, k ≤ l.length ∧ i = .int .i64 k ∧ hasP (l.drop k) ⟨xs, xn⟩ = hasP l ⟨xs, xn⟩ ∧ Inv w [] [.blk b3 (.cells #[.string xs, .int .i64 xn] t_iPred)] S w', fun i _ => l.length - (intOf i).toNat, ⟨0, Nat.zero_le _, rfl, rfl, hI⟩, ?_⟩
  intro t5 _ _ _ t17 t16 t15 t14 t13 t12 _ _ _ _ w'
  rintro ⟨k, hk, rfl, hrel, hI⟩
  refine r_lenSl h sl_SiPred ?_
  refine r_lss ?_
  refine condP (fun hki => ?_) (fun hki => ?_)
  · have hk' : k < l.length := by omega
    have hstep : hasP (l.drop k) ⟨xs, xn⟩ = (eqPd ⟨xs, xn⟩ l[k] || hasP (l.drop (k + 1)) ⟨xs, xn⟩) := any_drop _ l k hk'
    obtain ⟨b, o, cap, c, E, fz, rfl, hS, hR⟩ := h.at_ hk'
    have hR' : cellsAt c (o + k * 2) 2 = [.string l[k].name, .int .i64 l[k].arity] := hR
    refine ⟨fun D x17 x16 x15 x14 x13 x12 w_ => (D 0 = true → x12 = .slice (some ⟨b, o, none⟩) l.length cap) ∧ (D 1 = true → x13 = .int .i64 k) ∧ (D 2 = true → x14 = .pointer (some ⟨b, o + k * 2, none⟩)) ∧ (D 3 = true → x15 = .agg #[.string l[k].name, .int .i64 l[k].arity]) ∧ (D 4 = true → x16 = .agg #[.string xs, .int .i64 xn]) ∧ (D 5 = true → x17 = .bool (eqPd l[k] ⟨xs, xn⟩)) ∧ Inv w [] [.blk b3 (.cells #[.string xs, .int .i64 xn] t_iPred)] S w_, ⟨fun h => Bool.noConfusion h, fun h => Bool.noConfusion h, fun h => Bool.noConfusion h, fun h => Bool.noConfusion h, fun h => Bool.noConfusion h, fun h => Bool.noConfusion h, hI.draw⟩, ⟨?_, ?_, ?_, ?_, ?_, ?_, trivial⟩, ?_⟩
    · intro D hD_  x17 x16 x15 x14 x13 x12 w_
      rintro ⟨h0_, h1_, h2_, h3_, h4_, h5_, hI⟩
      exact ⟨fun _ => rfl, h1_, h2_, h3_, h4_, h5_, hI⟩
    · intro D hD_  x17 x16 x15 x14 x13 x12 w_
      rintro ⟨h0_, h1_, h2_, h3_, h4_, h5_, hI⟩
      exact ⟨h0_, fun _ => rfl, h2_, h3_, h4_, h5_, hI⟩
    · intro D hD_ d0_0 d1_1 x17 x16 x15 x14 x13 x12 w_
      rintro ⟨h0_, h1_, h2_, h3_, h4_, h5_, hI⟩
      obtain rfl := h0_ d0_0
      obtain rfl := h1_ d1_1
      refine r_indexAddr sl_SiPred hk' ?_
      exact ⟨h0_, h1_, fun _ => rfl, h3_, h4_, h5_, hI⟩
    · intro D hD_ d2_0 x17 x16 x15 x14 x13 x12 w_
      rintro ⟨h0_, h1_, h2_, h3_, h4_, h5_, hI⟩
      obtain rfl := h2_ d2_0
      refine r_loadA (cs := [.string l[k].name, .int .i64 l[k].arity]) ag_iPred rfl (fun j v hj => by rw [hI.cellS hS]; exact cellsAt_get hR' j v hj) ?_
      exact ⟨h0_, h1_, h2_, fun _ => rfl, h4_, h5_, hI⟩
    · intro D hD_  x17 x16 x15 x14 x13 x12 w_
      rintro ⟨h0_, h1_, h2_, h3_, h4_, h5_, hI⟩
      refine r_loadW hI 0 ag_iPred rfl rfl ?_
      exact ⟨h0_, h1_, h2_, h3_, fun _ => rfl, h5_, hI⟩
    · intro D hD_ d3_0 d4_1 x17 x16 x15 x14 x13 x12 w_
      rintro ⟨h0_, h1_, h2_, h3_, h4_, h5_, hI⟩
      obtain rfl := h3_ d3_0
      obtain rfl := h4_ d4_1
      refine r_peql ?_
      exact ⟨h0_, h1_, h2_, h3_, h4_, fun _ => rfl, hI⟩
    intro D d5_ d4_ d3_ d2_ d1_ d0_ x17 x16 x15 x14 x13 x12 w_
    rintro ⟨h0_, h1_, h2_, h3_, h4_, h5_, hI⟩
    obtain rfl := h5_ d5_
    obtain rfl := h4_ d4_
    obtain rfl := h3_ d3_
    obtain rfl := h2_ d2_
    obtain rfl := h1_ d1_
    obtain rfl := h0_ d0_
    clear h0_ h1_ h2_ h3_ h4_ h5_
    refine condV (fun hb => done hI ?_) (fun hb => ?_)
    · rw [← hrel, hstep, eqPd_comm, hb]; rfl
    · refine r_add (by omega) ?_
      exact ⟨⟨k + 1, hk', rfl, by rw [← hrel, hstep, eqPd_comm, hb]; rfl, hI⟩, by simp [intOf]; omega⟩
  · have : k = l.length := by omega
    subst this
    exact done hI (by rw [← hrel, List.drop_length]; rfl)
theorem run_pneq {cx cy : Bool} {s : ByteArray} {n : Int} : (sBin .neq t_iPred cx cy (.agg #[.string s, .int .i64 n]) (.agg #[.string s, .int .i64 n])).run Tryz.prog w = .ok (.value (.bool false)) w := by
  unfold sBin
  have e : (binOp .neq t_iPred (.agg #[.string s, .int .i64 n]) (.agg #[.string s, .int .i64 n])).run Tryz.prog w = .ok (.bool false) w := by
    have h := eq_iPred (w := w) s s n n
    rw [decide_eq_true rfl, decide_eq_true rfl] at h
    simp only [binOp, Op.equal, Op.maxDepth, Sem.run_bind]
    rw [h]
    rfl
  rw [Sem.run_bind, run_eqGuard_agg w .neq t_iPred _ _ _ _ guard_iPred, Result.andThen_ok, Sem.run_bind, e, Result.andThen_ok]
  rfl
theorem pgPreds_calls {l : List Pd} {u v : Value} (h : RdSl S 2 RdPd u l) (g : RdSl S 2 RdPd v l) : Pure Tryz.prog n_l_pgPreds [u, v] S (.bool true) := by
  intro w hI
  have hlen := h.le
  simp only [maxLen] at hlen
  refine calls_l_pgPreds ?_
  unfold sh_l_pgPreds
  refine r_lenSl h sl_SiPred ?_
  refine r_lenSl g sl_SiPred ?_
  refine r_neq ?_
  refine condV (fun hb => by simp at hb) (fun _ => ?_)
  refine ⟨fun i w' => ∃ k : Nat, k ≤ l.length ∧ i = .int .i64 k ∧ Inv w [] [] S w', fun i _ => l.length - (intOf i).toNat, ⟨0, Nat.zero_le _, rfl, hI⟩, ?_⟩
  intro t5 _ _ _ t25 t24 t23 t22 t21 t20 t19 t18 t17 _ _ _ _ w'
  rintro ⟨k, hk, rfl, hI⟩
  refine r_lenSl h sl_SiPred ?_
  refine r_lss ?_
  refine condP (fun hki => ?_) (fun hki => done hI rfl)
  have hk' : k < l.length := by omega
  obtain ⟨b, o, cap, c, E, fz, rfl, hS, hR⟩ := h.at_ hk'
  have hR1 : cellsAt c (o + k * 2) 2 = [.string l[k].name, .int .i64 l[k].arity] := hR
  obtain ⟨b2, o2, cap2, c2, E2, fz2, rfl, hS2, hR2⟩ := g.at_ hk'
  have hR2 : cellsAt c2 (o2 + k * 2) 2 = [.string l[k].name, .int .i64 l[k].arity] := hR2
  refine ⟨fun D x25 x24 x23 x22 x21 x20 x19 x18 x17 w_ => (D 0 = true → x17 = .slice (some ⟨b, o, none⟩) l.length cap) ∧ (D 1 = true → x18 = .int .i64 k) ∧ (D 2 = true → x19 = .pointer (some ⟨b, o + k * 2, none⟩)) ∧ (D 3 = true → x20 = .agg #[.string l[k].name, .int .i64 l[k].arity]) ∧ (D 4 = true → x21 = .slice (some ⟨b2, o2, none⟩) l.length cap2) ∧ (D 5 = true → x22 = .int .i64 k) ∧ (D 6 = true → x23 = .pointer (some ⟨b2, o2 + k * 2, none⟩)) ∧ (D 7 = true → x24 = .agg #[.string l[k].name, .int .i64 l[k].arity]) ∧ (D 8 = true → x25 = .bool false) ∧ Inv w [] [] S w_, ⟨fun h => Bool.noConfusion h, fun h => Bool.noConfusion h, fun h => Bool.noConfusion h, fun h => Bool.noConfusion h, fun h => Bool.noConfusion h, fun h => Bool.noConfusion h, fun h => Bool.noConfusion h, fun h => Bool.noConfusion h, fun h => Bool.noConfusion h, hI.draw⟩, ⟨?_, ?_, ?_, ?_, ?_, ?_, ?_, ?_, ?_, trivial⟩, ?_⟩
  · intro D hD_  x25 x24 x23 x22 x21 x20 x19 x18 x17 w_
    rintro ⟨h0_, h1_, h2_, h3_, h4_, h5_, h6_, h7_, h8_, hI⟩
    exact ⟨fun _ => rfl, h1_, h2_, h3_, h4_, h5_, h6_, h7_, h8_, hI⟩
  · intro D hD_  x25 x24 x23 x22 x21 x20 x19 x18 x17 w_
    rintro ⟨h0_, h1_, h2_, h3_, h4_, h5_, h6_, h7_, h8_, hI⟩
    exact ⟨h0_, fun _ => rfl, h2_, h3_, h4_, h5_, h6_, h7_, h8_, hI⟩
  · intro D hD_ d0_0 d1_1 x25 x24 x23 x22 x21 x20 x19 x18 x17 w_
    rintro ⟨h0_, h1_, h2_, h3_, h4_, h5_, h6_, h7_, h8_, hI⟩
    obtain rfl := h0_ d0_0
    obtain rfl := h1_ d1_1
    refine r_indexAddr sl_SiPred hk' ?_
    exact ⟨h0_, h1_, fun _ => rfl, h3_, h4_, h5_, h6_, h7_, h8_, hI⟩
  · intro D hD_ d2_0 x25 x24 x23 x22 x21 x20 x19 x18 x17 w_
    rintro ⟨h0_, h1_, h2_, h3_, h4_, h5_, h6_, h7_, h8_, hI⟩
    obtain rfl := h2_ d2_0
    refine r_loadA (cs := [.string l[k].name, .int .i64 l[k].arity]) ag_iPred rfl (fun j v hj => by rw [hI.cellS hS]; exact cellsAt_get hR1 j v hj) ?_
    exact ⟨h0_, h1_, h2_, fun _ => rfl, h4_, h5_, h6_, h7_, h8_, hI⟩
  · intro D hD_  x25 x24 x23 x22 x21 x20 x19 x18 x17 w_
    rintro ⟨h0_, h1_, h2_, h3_, h4_, h5_, h6_, h7_, h8_, hI⟩
    exact ⟨h0_, h1_, h2_, h3_, fun _ => rfl, h5_, h6_, h7_, h8_, hI⟩
  · intro D hD_  x25 x24 x23 x22 x21 x20 x19 x18 x17 w_
    rintro ⟨h0_, h1_, h2_, h3_, h4_, h5_, h6_, h7_, h8_, hI⟩
    exact ⟨h0_, h1_, h2_, h3_, h4_, fun _ => rfl, h6_, h7_, h8_, hI⟩
  · intro D hD_ d4_0 d5_1 x25 x24 x23 x22 x21 x20 x19 x18 x17 w_
    rintro ⟨h0_, h1_, h2_, h3_, h4_, h5_, h6_, h7_, h8_, hI⟩
    obtain rfl := h4_ d4_0
    obtain rfl := h5_ d5_1
    refine r_indexAddr sl_SiPred hk' ?_
    exact ⟨h0_, h1_, h2_, h3_, h4_, h5_, fun _ => rfl, h7_, h8_, hI⟩
  · intro D hD_ d6_0 x25 x24 x23 x22 x21 x20 x19 x18 x17 w_
    rintro ⟨h0_, h1_, h2_, h3_, h4_, h5_, h6_, h7_, h8_, hI⟩
    obtain rfl := h6_ d6_0
    refine r_loadA (cs := [.string l[k].name, .int .i64 l[k].arity]) ag_iPred rfl (fun j v hj => by rw [hI.cellS hS2]; exact cellsAt_get hR2 j v hj) ?_
    exact ⟨h0_, h1_, h2_, h3_, h4_, h5_, h6_, fun _ => rfl, h8_, hI⟩
  · intro D hD_ d3_0 d7_1 x25 x24 x23 x22 x21 x20 x19 x18 x17 w_
    rintro ⟨h0_, h1_, h2_, h3_, h4_, h5_, h6_, h7_, h8_, hI⟩
    obtain rfl := h3_ d3_0
    obtain rfl := h7_ d7_1
    refine Run.of run_pneq ?_
    exact ⟨h0_, h1_, h2_, h3_, h4_, h5_, h6_, h7_, fun _ => rfl, hI⟩
  intro D d8_ d7_ d6_ d5_ d4_ d3_ d2_ d1_ d0_ x25 x24 x23 x22 x21 x20 x19 x18 x17 w_
  rintro ⟨h0_, h1_, h2_, h3_, h4_, h5_, h6_, h7_, h8_, hI⟩
  obtain rfl := h8_ d8_
  obtain rfl := h7_ d7_
  obtain rfl := h6_ d6_
  obtain rfl := h5_ d5_
  obtain rfl := h4_ d4_
  obtain rfl := h3_ d3_
  obtain rfl := h2_ d2_
  obtain rfl := h1_ d1_
  obtain rfl := h0_ d0_
  clear h0_ h1_ h2_ h3_ h4_ h5_ h6_ h7_ h8_
  refine condV (fun hb => by cases hb) (fun _ => ?_)
  refine r_add (by omega) ?_
  exact ⟨⟨k + 1, hk', rfl, hI⟩, by simp [intOf]; omega⟩
theorem eqT_refl (t : T) : eqT t t = true := (eqT_iff t t).2 rfl
theorem i_ClauseSame_calls {c0 d0 : C} {cs ds : List Value} (h : RdC S cs c0) (g : RdC S ds d0) : Pure Tryz.prog n_i_ClauseSame [.agg cs.toArray, .agg ds.toArray] S (.bool (eqT c0.head d0.head && eqL c0.body d0.body)) := by
  intro w hI
  obtain ⟨hd, kb, rfl, h1, h2⟩ := h
  obtain ⟨hd', kb', rfl, g1, g2⟩ := g
  have h1' := h1
  have g1' := g1
  obtain ⟨kv, rfl, _⟩ := RdT.iff.1 h1
  obtain ⟨kv', rfl, _⟩ := RdT.iff.1 g1
  refine calls_i_ClauseSame ?_
  unfold sh_i_ClauseSame
  refine r_box hI fun b1 w' hI => ?_
  refine r_box hI fun b2 w' hI => ?_
  have hI : Inv w [] [.blk b1 (.cells #[.int .i64 c0.head.kind, .int .i64 c0.head.n, .string c0.head.name, kv, kb] t_iClause), .blk b2 (.cells #[.int .i64 d0.head.kind, .int .i64 d0.head.n, .string d0.head.name, kv', kb'] t_iClause)] S w' := hI
  refine r_field fo_iClause_0 ?_
  refine r_loadLA hI 0 [.int .i64 c0.head.kind, .int .i64 c0.head.n, .string c0.head.name, kv] ag_iTerm rfl rfl sub4 ?_
  refine r_field fo_iClause_0 ?_
  refine r_loadLA hI 1 [.int .i64 d0.head.kind, .int .i64 d0.head.n, .string d0.head.name, kv'] ag_iTerm rfl rfl sub4 ?_
  refine Run.callPure fn_i_TermSame nm_i_TermSame hI (i_TermSame_calls _ _ S _ _ h1' g1') fun w' hI => ?_
  cases he : eqT c0.head d0.head
  · repeat (first | refine guard_true ?_ | refine guard_ne (by decide) ?_ | refine guard_undef ?_ | refine r_pickT ?_ | refine r_pickF ?_)
    exact done hI (by rw [Bool.false_and])
  · repeat (first | refine guard_true ?_ | refine guard_ne (by decide) ?_ | refine guard_undef ?_ | refine r_pickT ?_ | refine r_pickF ?_)
    refine r_fieldL hI 0 rfl fo_iClause_1 sc_SiTerm rfl ?_
    refine r_fieldL hI 1 rfl fo_iClause_1 sc_SiTerm rfl ?_
    refine Run.callPure fn_x_EqualFunc_Term nm_x_EqualFunc_Term hI (EqualFunc_of (fun t _ => i_TermSame_calls t) h2 g2) fun w' hI => ?_
    repeat (first | refine guard_true ?_ | refine guard_ne (by decide) ?_ | refine guard_undef ?_ | refine r_pickT ?_ | refine r_pickF ?_)
    exact done hI (by rw [Bool.true_and])
theorem i_ClauseSame_eq {c0 : C} {cs ds : List Value} (h : RdC S cs c0) (g : RdC S ds c0) : Pure Tryz.prog n_i_ClauseSame [.agg cs.toArray, .agg ds.toArray] S (.bool true) := by
  have := i_ClauseSame_calls h g
  rwa [eqT_refl, (eqL_iff _ _).2 rfl] at this
theorem pgClauses_calls {p : List C} {u v : Value} (h : RdSl S 5 (RdC S) u p) (g : RdSl S 5 (RdC S) v p) : Pure Tryz.prog n_l_pgClauses [u, v] S (.bool true) := by
  intro w hI
  have hlen := h.le
  simp only [maxLen] at hlen
  refine calls_l_pgClauses ?_
  unfold sh_l_pgClauses
  refine r_lenSl h sl_SiClause ?_
  refine r_lenSl g sl_SiClause ?_
  refine r_neq ?_
  refine condV (fun hb => by simp at hb) (fun _ => ?_)
  refine ⟨fun i w' => ∃ k : Nat, k ≤ p.length ∧ i = .int .i64 k ∧ Inv w [] [] S w', fun i _ => p.length - (intOf i).toNat, ⟨0, Nat.zero_le _, rfl, hI⟩, ?_⟩
  intro t5 _ _ _ t26 t25 t24 t23 t22 t21 t20 t19 t18 t17 _ _ _ _ w'
  rintro ⟨k, hk, rfl, hI⟩
  refine r_lenSl h sl_SiClause ?_
  refine r_lss ?_
  refine condP (fun hki => ?_) (fun hki => done hI rfl)
  have hk' : k < p.length := by omega
  obtain ⟨b, o, cap, c, E, fz, rfl, hS, hR⟩ := h.at_ hk'
  obtain ⟨b2, o2, cap2, c2, E2, fz2, rfl, hS2, hR2⟩ := g.at_ hk'
  refine ⟨fun D x26 x25 x24 x23 x22 x21 x20 x19 x18 x17 w_ => (D 0 = true → x17 = .slice (some ⟨b, o, none⟩) p.length cap) ∧ (D 1 = true → x18 = .int .i64 k) ∧ (D 2 = true → x19 = .pointer (some ⟨b, o + k * 5, none⟩)) ∧ (D 3 = true → x20 = .agg (cellsAt c (o + k * 5) 5).toArray) ∧ (D 4 = true → x21 = .slice (some ⟨b2, o2, none⟩) p.length cap2) ∧ (D 5 = true → x22 = .int .i64 k) ∧ (D 6 = true → x23 = .pointer (some ⟨b2, o2 + k * 5, none⟩)) ∧ (D 7 = true → x24 = .agg (cellsAt c2 (o2 + k * 5) 5).toArray) ∧ (D 8 = true → x25 = .bool true) ∧ (D 9 = true → x26 = .bool false) ∧ Inv w [] [] S w_, ⟨fun h => Bool.noConfusion h, fun h => Bool.noConfusion h, fun h => Bool.noConfusion h, fun h => Bool.noConfusion h, fun h => Bool.noConfusion h, fun h => Bool.noConfusion h, fun h => Bool.noConfusion h, fun h => Bool.noConfusion h, fun h => Bool.noConfusion h, fun h => Bool.noConfusion h, hI.draw⟩, ⟨?_, ?_, ?_, ?_, ?_, ?_, ?_, ?_, ?_, ?_, trivial⟩, ?_⟩
  · intro D hD_  x26 x25 x24 x23 x22 x21 x20 x19 x18 x17 w_
    rintro ⟨h0_, h1_, h2_, h3_, h4_, h5_, h6_, h7_, h8_, h9_, hI⟩
    exact ⟨fun _ => rfl, h1_, h2_, h3_, h4_, h5_, h6_, h7_, h8_, h9_, hI⟩
  · intro D hD_  x26 x25 x24 x23 x22 x21 x20 x19 x18 x17 w_
    rintro ⟨h0_, h1_, h2_, h3_, h4_, h5_, h6_, h7_, h8_, h9_, hI⟩
    exact ⟨h0_, fun _ => rfl, h2_, h3_, h4_, h5_, h6_, h7_, h8_, h9_, hI⟩
  · intro D hD_ d0_0 d1_1 x26 x25 x24 x23 x22 x21 x20 x19 x18 x17 w_
    rintro ⟨h0_, h1_, h2_, h3_, h4_, h5_, h6_, h7_, h8_, h9_, hI⟩
    obtain rfl := h0_ d0_0
    obtain rfl := h1_ d1_1
    refine r_indexAddr sl_SiClause hk' ?_
    exact ⟨h0_, h1_, fun _ => rfl, h3_, h4_, h5_, h6_, h7_, h8_, h9_, hI⟩
  · intro D hD_ d2_0 x26 x25 x24 x23 x22 x21 x20 x19 x18 x17 w_
    rintro ⟨h0_, h1_, h2_, h3_, h4_, h5_, h6_, h7_, h8_, h9_, hI⟩
    obtain rfl := h2_ d2_0
    refine r_loadA ag_iClause hR.length (fun j v hj => by rw [hI.cellS hS]; exact cellsAt_get rfl j v hj) ?_
    exact ⟨h0_, h1_, h2_, fun _ => rfl, h4_, h5_, h6_, h7_, h8_, h9_, hI⟩
  · intro D hD_  x26 x25 x24 x23 x22 x21 x20 x19 x18 x17 w_
    rintro ⟨h0_, h1_, h2_, h3_, h4_, h5_, h6_, h7_, h8_, h9_, hI⟩
    exact ⟨h0_, h1_, h2_, h3_, fun _ => rfl, h5_, h6_, h7_, h8_, h9_, hI⟩
  · intro D hD_  x26 x25 x24 x23 x22 x21 x20 x19 x18 x17 w_
    rintro ⟨h0_, h1_, h2_, h3_, h4_, h5_, h6_, h7_, h8_, h9_, hI⟩
    exact ⟨h0_, h1_, h2_, h3_, h4_, fun _ => rfl, h6_, h7_, h8_, h9_, hI⟩
  · intro D hD_ d4_0 d5_1 x26 x25 x24 x23 x22 x21 x20 x19 x18 x17 w_
    rintro ⟨h0_, h1_, h2_, h3_, h4_, h5_, h6_, h7_, h8_, h9_, hI⟩
    obtain rfl := h4_ d4_0
    obtain rfl := h5_ d5_1
    refine r_indexAddr sl_SiClause hk' ?_
    exact ⟨h0_, h1_, h2_, h3_, h4_, h5_, fun _ => rfl, h7_, h8_, h9_, hI⟩
  · intro D hD_ d6_0 x26 x25 x24 x23 x22 x21 x20 x19 x18 x17 w_
    rintro ⟨h0_, h1_, h2_, h3_, h4_, h5_, h6_, h7_, h8_, h9_, hI⟩
    obtain rfl := h6_ d6_0
    refine r_loadA ag_iClause hR2.length (fun j v hj => by rw [hI.cellS hS2]; exact cellsAt_get rfl j v hj) ?_
    exact ⟨h0_, h1_, h2_, h3_, h4_, h5_, h6_, fun _ => rfl, h8_, h9_, hI⟩
  · intro D hD_ d3_0 d7_1 x26 x25 x24 x23 x22 x21 x20 x19 x18 x17 w_
    rintro ⟨h0_, h1_, h2_, h3_, h4_, h5_, h6_, h7_, h8_, h9_, hI⟩
    obtain rfl := h3_ d3_0
    obtain rfl := h7_ d7_1
    refine Run.callPure fn_i_ClauseSame nm_i_ClauseSame hI (i_ClauseSame_eq hR hR2) fun w_ hI => ?_
    exact ⟨h0_, h1_, h2_, h3_, h4_, h5_, h6_, h7_, fun _ => rfl, h9_, hI⟩
  · intro D hD_ d8_0 x26 x25 x24 x23 x22 x21 x20 x19 x18 x17 w_
    rintro ⟨h0_, h1_, h2_, h3_, h4_, h5_, h6_, h7_, h8_, h9_, hI⟩
    obtain rfl := h8_ d8_0
    refine r_not ?_
    exact ⟨h0_, h1_, h2_, h3_, h4_, h5_, h6_, h7_, h8_, fun _ => rfl, hI⟩
  intro D d9_ d8_ d7_ d6_ d5_ d4_ d3_ d2_ d1_ d0_ x26 x25 x24 x23 x22 x21 x20 x19 x18 x17 w_
  rintro ⟨h0_, h1_, h2_, h3_, h4_, h5_, h6_, h7_, h8_, h9_, hI⟩
  obtain rfl := h9_ d9_
  obtain rfl := h8_ d8_
  obtain rfl := h7_ d7_
  obtain rfl := h6_ d6_
  obtain rfl := h5_ d5_
  obtain rfl := h4_ d4_
  obtain rfl := h3_ d3_
  obtain rfl := h2_ d2_
  obtain rfl := h1_ d1_
  obtain rfl := h0_ d0_
  clear h0_ h1_ h2_ h3_ h4_ h5_ h6_ h7_ h8_ h9_
  refine condV (fun hb => by cases hb) (fun _ => ?_)
  refine r_add (by omega) ?_
  exact ⟨⟨k + 1, hk', rfl, hI⟩, by simp [intOf]; omega⟩
end
end Go.Proofs.YtmnnpgdeecnfpaaGreat

/- MovePred: both sides. -/
namespace Go.Proofs.YtmnnpgdeecnfpaaGreat
open Go Go.RowKit
attribute [local irreducible] Run CondV GuardV LoadV

def isP (x : Pd) (c : C) : Bool := eqPd (predT c.head) x
def movedP (p : List C) (x : Pd) : List C := (p.filter fun c => !isP x c) ++ p.filter (isP x)
def movePs (p : List C) (x : Pd) : List C := if progB p = true then movedP p x else []
theorem movedP_w (p : List C) (x : Pd) : (movedP p x).length + wP (movedP p x) = p.length + wP p := by
  have := wP_filter (isP x) p
  rw [movedP, wP_append, List.length_append]
  omega
theorem moved_one {S : Store} {css : List (List Value)} {ys : List C} (h : Rows 5 (RdC S) css ys) : ∀ cs ∈ css, ∀ u ∈ cs, u.oneCell' = true := by
  intro cs hc
  obtain ⟨i, hi, rfl⟩ := List.mem_iff_getElem.1 hc
  exact (h.hR i (by rw [← h.hc]; exact hi) hi).one
theorem s_MovePred_calls {p : List C} {S : Store} {v : Value} (x : Pd) (h : RdSl S 5 (RdC S) v p) (hw : p.length + wP p ≤ 1048576) : Tri Tryz.prog n_s_MovePred [v, .agg x.cells.toArray] [] S (PostCB S (movePs p x) (progB p)) := by
  intro w hI
  have hmw := movedP_w p x
  obtain ⟨xs, xn⟩ := x
  refine calls_s_MovePred ?_
  unfold sh_s_MovePred
  refine r_box hI fun b3 w' hI => ?_
  refine Run.callPure fn_s_ProgramValid nm_s_ProgramValid hI (s_ProgramValid_calls h (by omega)) fun w' hI => ?_
  refine r_not ?_
  cases hv : progB p
  · refine condV (fun _ => ?_) (fun hb => by cases hb)
    refine r_slice0 hI mk_SiClause fun v0 w' hI => ?_
    rw [movePs, hv, if_neg (by decide)]
    have hI : Inv w [] ([.blk b3 (.cells #[.string xs, .int .i64 xn] t_iPred)] ++ (rowG v0 t_iClause 5 [] :: blks ([] : List Heaplet).flatten)) S w' := hI
    obtain ⟨L, hT, hI⟩ := Inv.rowTree (R := TrC) hI (Grown.nil 5 TrC)
    exact ⟨_, _, _, rfl, hI.sub (List.sublist_append_right _ _), Ext.refl _ _ _, rfl, _, L, rfl, rfl, hT⟩
  refine condV (fun hb => by cases hb) (fun _ => ?_)
  rw [movePs, hv, if_pos rfl]
  refine r_slice0 hI mk_SiClause fun v1 w' hI => ?_
  refine r_slice0 hI mk_SiClause fun v2 w' hI => ?_
  refine ⟨fun i t u w' => ∃ (k : Nat) (c1 c2 : List (List Value)) (l1 l2 : List C), k ≤ p.length ∧ i = .int .i64 k ∧ Rows 5 (RdC S) c1 l1 ∧ Rows 5 (RdC S) c2 l2 ∧
      l1 ++ (p.drop k).filter (fun c => !isP ⟨xs, xn⟩ c) = p.filter (fun c => !isP ⟨xs, xn⟩ c) ∧ l2 ++ (p.drop k).filter (isP ⟨xs, xn⟩) = p.filter (isP ⟨xs, xn⟩) ∧
      Inv w [] [.blk b3 (.cells #[.string xs, .int .i64 xn] t_iPred), rowG t t_iClause 5 c1, rowG u t_iClause 5 c2] S w', fun i _ _ _ => p.length - (intOf i).toNat, ⟨0, [], [], [], [], Nat.zero_le _, rfl, Rows.nil _ _, Rows.nil _ _, rfl, rfl, hI⟩, ?_⟩
  intro t8 _ _ t6 _ _ _ _ _ _ _ t7 _ _ _ _ _ _ _ _ _ _ _ _ _ _ _ _ _ _ _ w'
  rintro ⟨k, c1, c2, l1, l2, hk, rfl, hR1, hR2, hr1, hr2, hI⟩
  have hl1 : l1.length ≤ p.length := by
    have h1 := congrArg List.length hr1
    have h2 := List.length_filter_le (fun c => !isP ⟨xs, xn⟩ c) p
    simp only [List.length_append] at h1
    omega
  have hl2 : l2.length ≤ p.length := by
    have h1 := congrArg List.length hr2
    have h2 := List.length_filter_le (isP ⟨xs, xn⟩) p
    simp only [List.length_append] at h1
    omega
  have hcl1 := hR1.hc
  have hcl2 := hR2.hc
  refine r_lenSl h sl_SiClause ?_
  refine r_lss ?_
  refine condP (fun hki => ?_) (fun hki => ?_)
  · have hk' : k < p.length := by omega
    rw [← filter_snoc _ p k hk' l1] at hr1
    rw [← filter_snoc _ p k hk' l2] at hr2
    refine ⟨fun t u w' => ∃ c1' c2', Rows 5 (RdC S) c1' (if (!isP ⟨xs, xn⟩ p[k]) = true then l1 ++ [p[k]] else l1) ∧ Rows 5 (RdC S) c2' (if isP ⟨xs, xn⟩ p[k] = true then l2 ++ [p[k]] else l2) ∧
        Inv w [] [.blk b3 (.cells #[.string xs, .int .i64 xn] t_iPred), rowG t t_iClause 5 c1', rowG u t_iClause 5 c2'] S w', ?_, ?_⟩
    · have h0 := h
      obtain ⟨b, o, cap, c, E, fz, rfl, hS, hR⟩ := h.at_ hk'
      obtain ⟨hd, ks2, hcs, h1, h2⟩ := hR
      obtain ⟨kv, rfl, _, _, hs1, hk1⟩ := RdT.iff.1 h1
      refine ⟨fun D x28 x27 x26 x25 x24 x23 x22 x21 w_ => (D 0 = true → x21 = .slice (some ⟨b, o, none⟩) p.length cap) ∧ (D 1 = true → x22 = .int .i64 k) ∧ (D 2 = true → x23 = .pointer (some ⟨b, o + k * 5, none⟩)) ∧ (D 3 = true → x24 = .pointer (some ⟨b, o + k * 5, none⟩)) ∧ (D 4 = true → x25 = .agg #[.int .i64 p[k].head.kind, .int .i64 p[k].head.n, .string p[k].head.name, kv]) ∧ (D 5 = true → x26 = .agg #[.string p[k].head.name, .int .i64 p[k].head.kids.length]) ∧ (D 6 = true → x27 = .agg #[.string xs, .int .i64 xn]) ∧ (D 7 = true → x28 = .bool (isP ⟨xs, xn⟩ p[k])) ∧ Inv w [] [.blk b3 (.cells #[.string xs, .int .i64 xn] t_iPred), rowG t6 t_iClause 5 c1, rowG t7 t_iClause 5 c2] S w_, ⟨fun h => Bool.noConfusion h, fun h => Bool.noConfusion h, fun h => Bool.noConfusion h, fun h => Bool.noConfusion h, fun h => Bool.noConfusion h, fun h => Bool.noConfusion h, fun h => Bool.noConfusion h, fun h => Bool.noConfusion h, hI.draw⟩, ⟨?_, ?_, ?_, ?_, ?_, ?_, ?_, ?_, trivial⟩, ?_⟩
      · intro D hD_  x28 x27 x26 x25 x24 x23 x22 x21 w_
        rintro ⟨h0_, h1_, h2_, h3_, h4_, h5_, h6_, h7_, hI⟩
        exact ⟨fun _ => rfl, h1_, h2_, h3_, h4_, h5_, h6_, h7_, hI⟩
      · intro D hD_  x28 x27 x26 x25 x24 x23 x22 x21 w_
        rintro ⟨h0_, h1_, h2_, h3_, h4_, h5_, h6_, h7_, hI⟩
        exact ⟨h0_, fun _ => rfl, h2_, h3_, h4_, h5_, h6_, h7_, hI⟩
      · intro D hD_ d0_0 d1_1 x28 x27 x26 x25 x24 x23 x22 x21 w_
        rintro ⟨h0_, h1_, h2_, h3_, h4_, h5_, h6_, h7_, hI⟩
        obtain rfl := h0_ d0_0
        obtain rfl := h1_ d1_1
        refine r_indexAddr sl_SiClause hk' ?_
        exact ⟨h0_, h1_, fun _ => rfl, h3_, h4_, h5_, h6_, h7_, hI⟩
      · intro D hD_ d2_0 x28 x27 x26 x25 x24 x23 x22 x21 w_
        rintro ⟨h0_, h1_, h2_, h3_, h4_, h5_, h6_, h7_, hI⟩
        obtain rfl := h2_ d2_0
        refine r_field fo_iClause_0 ?_
        exact ⟨h0_, h1_, h2_, fun _ => rfl, h4_, h5_, h6_, h7_, hI⟩
      · intro D hD_ d3_0 x28 x27 x26 x25 x24 x23 x22 x21 w_
        rintro ⟨h0_, h1_, h2_, h3_, h4_, h5_, h6_, h7_, hI⟩
        obtain rfl := h3_ d3_0
        refine r_loadA (cs := [.int .i64 p[k].head.kind, .int .i64 p[k].head.n, .string p[k].head.name, kv]) ag_iTerm rfl (fun j v hj => by rw [hI.cellS hS]; exact cellsAt_get hcs j v (by match j, hj with | 0, hj => exact hj | 1, hj => exact hj | 2, hj => exact hj | 3, hj => exact hj | j + 4, hj => simp at hj)) ?_
        exact ⟨h0_, h1_, h2_, h3_, fun _ => rfl, h5_, h6_, h7_, hI⟩
      · intro D hD_ d4_0 x28 x27 x26 x25 x24 x23 x22 x21 w_
        rintro ⟨h0_, h1_, h2_, h3_, h4_, h5_, h6_, h7_, hI⟩
        obtain rfl := h4_ d4_0
        refine Run.callPure fn_s_l14Of nm_s_l14Of hI (s_l14Of_calls h1) fun w_ hI => ?_
        exact ⟨h0_, h1_, h2_, h3_, h4_, fun _ => rfl, h6_, h7_, hI⟩
      · intro D hD_  x28 x27 x26 x25 x24 x23 x22 x21 w_
        rintro ⟨h0_, h1_, h2_, h3_, h4_, h5_, h6_, h7_, hI⟩
        refine r_loadW hI 0 ag_iPred rfl rfl ?_
        exact ⟨h0_, h1_, h2_, h3_, h4_, h5_, fun _ => rfl, h7_, hI⟩
      · intro D hD_ d5_0 d6_1 x28 x27 x26 x25 x24 x23 x22 x21 w_
        rintro ⟨h0_, h1_, h2_, h3_, h4_, h5_, h6_, h7_, hI⟩
        obtain rfl := h5_ d5_0
        obtain rfl := h6_ d6_1
        refine r_peql ?_
        exact ⟨h0_, h1_, h2_, h3_, h4_, h5_, h6_, fun _ => rfl, hI⟩
      intro D d7_ d6_ d5_ d4_ d3_ d2_ d1_ d0_ x28 x27 x26 x25 x24 x23 x22 x21 w_
      rintro ⟨h0_, h1_, h2_, h3_, h4_, h5_, h6_, h7_, hI⟩
      obtain rfl := h7_ d7_
      obtain rfl := h6_ d6_
      obtain rfl := h5_ d5_
      obtain rfl := h4_ d4_
      obtain rfl := h3_ d3_
      obtain rfl := h2_ d2_
      obtain rfl := h1_ d1_
      obtain rfl := h0_ d0_
      clear h0_ h1_ h2_ h3_ h4_ h5_ h6_ h7_
      refine condV (fun hb => ?_) (fun hb => ?_)
      · refine r_elem hI h0 sl_SiClause ag_iClause hk' (fun _ _ => RdC.length) fun cs hcs => ?_
        refine r_append1 hI 2 cs mk_SiClause (by omega) (by omega) rfl hcs.length hcs.one (by omega) (by omega) fun v' w' hI => ?_
        refine ⟨c1, c2 ++ [cs], ?_, ?_, hI⟩
        · rw [if_neg (by rw [hb]; decide)]; exact hR1
        · rw [if_pos hb]; exact hR2.snoc hcs hcs.length
      · refine r_elem hI h0 sl_SiClause ag_iClause hk' (fun _ _ => RdC.length) fun cs hcs => ?_
        refine r_append1 hI 1 cs mk_SiClause (by omega) (by omega) rfl hcs.length hcs.one (by omega) (by omega) fun v' w' hI => ?_
        refine ⟨c1 ++ [cs], c2, ?_, ?_, hI⟩
        · rw [if_pos (by rw [hb]; rfl)]; exact hR1.snoc hcs hcs.length
        · rw [if_neg (by rw [hb]; decide)]; exact hR2
    · intro t _ _ _ _ _ _ _ u _ _ _ _ _ _ _ _ _ _ _ _ _ _ _ w'
      rintro ⟨c1', c2', hR1, hR2, hI⟩
      refine r_add (by omega) ?_
      exact ⟨⟨k + 1, c1', c2', _, _, hk', rfl, hR1, hR2, hr1, hr2, hI⟩, by simp [intOf]; omega⟩
  · have : k = p.length := by omega
    subst this
    rw [List.drop_length, List.filter_nil, List.append_nil] at hr1 hr2
    refine r_appendRow hI 1 2 mk_SiClause (by omega) rfl rfl hR2.hk (moved_one hR2) (by omega) (by omega) fun v' w' hI => ?_
    have hI : Inv w [] ([] ++ [rowG v' t_iClause 5 (c1 ++ c2)]) S w' := hI.pick [false, true, false]
    obtain ⟨S1, hle, hrd, hI, _⟩ := hI.lend
    have hR := hR1.append hR2
    rw [hr1, hr2] at hR
    have hrr : RdSl S1 5 (RdC S1) v' (movedP p ⟨xs, xn⟩) := (RowRd.rows hR hrd).mono (Sle.refl _) fun _ _ h => h.mono hle
    refine Run.call0 fn_s_l14Copy nm_s_l14Copy hI (l14Copy_calls hrr (by omega)) fun v3 I' S' w' => ?_
    rintro ⟨rfl, L, rfl, hT⟩ _ hI
    exact ⟨_, _, _, rfl, hI.less hle, Ext.refl _ _ _, rfl, _, L, rfl, rfl, hT⟩
theorem i_MovePred_calls {p : List C} {S : Store} {v : Value} (x : Pd) (h : RdSl S 5 (RdC S) v p) (hw : p.length + wP p ≤ 1048576) : Tri Tryz.prog n_i_MovePred [v, .agg x.cells.toArray] [] S (PostCB S (movePs p x) (progB p)) := by
  intro w hI
  have hmw := movedP_w p x
  obtain ⟨xs, xn⟩ := x
  refine calls_i_MovePred ?_
  unfold sh_i_MovePred
  refine r_box hI fun b3 w' hI => ?_
  refine Run.callPure fn_i_ProgramValid nm_i_ProgramValid hI (iProgramValid_calls h) fun w' hI => ?_
  refine r_not ?_
  cases hv : progB p
  · refine condV (fun _ => ?_) (fun hb => by cases hb)
    rw [movePs, hv, if_neg (by decide)]
    exact ⟨_, _, _, rfl, hI.nil, Ext.refl _ _ _, rfl, _, [], rfl, rfl, TrSl.nil (by simp [maxLen])⟩
  refine condV (fun hb => by cases hb) (fun _ => ?_)
  rw [movePs, hv, if_pos rfl]
  refine r_lenSl h sl_SiClause ?_
  refine ⟨fun i t u w' => ∃ (k : Nat) (c1 c2 : List (List Value)) (l1 l2 : List C), k ≤ p.length ∧ i = .int .i64 k ∧ Rows 5 (RdC S) c1 l1 ∧ Rows 5 (RdC S) c2 l2 ∧
      l1 ++ (p.drop k).filter (fun c => !isP ⟨xs, xn⟩ c) = p.filter (fun c => !isP ⟨xs, xn⟩ c) ∧ l2 ++ (p.drop k).filter (isP ⟨xs, xn⟩) = p.filter (isP ⟨xs, xn⟩) ∧
      Inv w [] [.blk b3 (.cells #[.string xs, .int .i64 xn] t_iPred), rowG t t_iClause 5 c1, rowG u t_iClause 5 c2] S w', fun i _ _ _ => p.length - (intOf i).toNat, ⟨0, [], [], [], [], Nat.zero_le _, rfl, Rows.nil _ _, Rows.nil _ _, rfl, rfl, (hI.rowNil t_iClause 5).rowNil t_iClause 5⟩, ?_⟩
  intro t15 _ t6 _ _ _ _ t7 _ _ _ _ _ _ _ _ _ _ _ _ _ w'
  rintro ⟨k, c1, c2, l1, l2, hk, rfl, hR1, hR2, hr1, hr2, hI⟩
  have hl1 : l1.length ≤ p.length := by
    have h1 := congrArg List.length hr1
    have h2 := List.length_filter_le (fun c => !isP ⟨xs, xn⟩ c) p
    simp only [List.length_append] at h1
    omega
  have hl2 : l2.length ≤ p.length := by
    have h1 := congrArg List.length hr2
    have h2 := List.length_filter_le (isP ⟨xs, xn⟩) p
    simp only [List.length_append] at h1
    omega
  have hcl1 := hR1.hc
  have hcl2 := hR2.hc
  refine r_lss ?_
  refine condP (fun hki => ?_) (fun hki => ?_)
  · have hk' : k < p.length := by omega
    rw [← filter_snoc _ p k hk' l1] at hr1
    rw [← filter_snoc _ p k hk' l2] at hr2
    refine ⟨fun t u w' => ∃ c1' c2', Rows 5 (RdC S) c1' (if (!isP ⟨xs, xn⟩ p[k]) = true then l1 ++ [p[k]] else l1) ∧ Rows 5 (RdC S) c2' (if isP ⟨xs, xn⟩ p[k] = true then l2 ++ [p[k]] else l2) ∧
        Inv w [] [.blk b3 (.cells #[.string xs, .int .i64 xn] t_iPred), rowG t t_iClause 5 c1', rowG u t_iClause 5 c2'] S w', ?_, ?_⟩
    · refine r_elem hI h sl_SiClause ag_iClause hk' (fun _ _ => RdC.length) fun cs hcs => ?_
      have hcs0 := hcs
      obtain ⟨hd, ks, rfl, h1, h2⟩ := hcs
      have h1' := h1
      obtain ⟨kv, rfl, _, _, hs, hks⟩ := RdT.iff.1 h1
      have hc0 : RdC S [.int .i64 p[k].head.kind, .int .i64 p[k].head.n, .string p[k].head.name, kv, ks] p[k] := hcs0
      refine r_alloc hI zo_iClause fun b9 w' hI => ?_
      refine r_storeW hI 3 rfl ag_iClause rfl rfl hc0.one fun w' hI => ?_
      have hI : Inv w [] [.blk b3 (.cells #[.string xs, .int .i64 xn] t_iPred), rowG t6 t_iClause 5 c1, rowG t7 t_iClause 5 c2, .blk b9 (.cells #[.int .i64 p[k].head.kind, .int .i64 p[k].head.n, .string p[k].head.name, kv, ks] t_iClause)] S w' := hI
      refine ⟨fun D x23 x22 x21 x20 x19 w_ => (D 0 = true → x19 = .pointer (some ⟨b9, 0, none⟩)) ∧ (D 1 = true → x20 = .agg #[.int .i64 p[k].head.kind, .int .i64 p[k].head.n, .string p[k].head.name, kv]) ∧ (D 2 = true → x21 = .agg #[.string p[k].head.name, .int .i64 p[k].head.kids.length]) ∧ (D 3 = true → x22 = .agg #[.string xs, .int .i64 xn]) ∧ (D 4 = true → x23 = .bool (isP ⟨xs, xn⟩ p[k])) ∧ Inv w [] [.blk b3 (.cells #[.string xs, .int .i64 xn] t_iPred), rowG t6 t_iClause 5 c1, rowG t7 t_iClause 5 c2, .blk b9 (.cells #[.int .i64 p[k].head.kind, .int .i64 p[k].head.n, .string p[k].head.name, kv, ks] t_iClause)] S w_, ⟨fun h => Bool.noConfusion h, fun h => Bool.noConfusion h, fun h => Bool.noConfusion h, fun h => Bool.noConfusion h, fun h => Bool.noConfusion h, hI.draw⟩, ⟨?_, ?_, ?_, ?_, ?_, trivial⟩, ?_⟩
      · intro D hD_  x23 x22 x21 x20 x19 w_
        rintro ⟨h0_, h1_, h2_, h3_, h4_, hI⟩
        refine r_field fo_iClause_0 ?_
        exact ⟨fun _ => rfl, h1_, h2_, h3_, h4_, hI⟩
      · intro D hD_ d0_0 x23 x22 x21 x20 x19 w_
        rintro ⟨h0_, h1_, h2_, h3_, h4_, hI⟩
        obtain rfl := h0_ d0_0
        refine r_loadLA hI 3 [.int .i64 p[k].head.kind, .int .i64 p[k].head.n, .string p[k].head.name, kv] ag_iTerm rfl rfl sub4 ?_
        exact ⟨h0_, fun _ => rfl, h2_, h3_, h4_, hI⟩
      · intro D hD_ d1_0 x23 x22 x21 x20 x19 w_
        rintro ⟨h0_, h1_, h2_, h3_, h4_, hI⟩
        obtain rfl := h1_ d1_0
        refine Run.callPure fn_i_pred nm_i_pred hI (i_pred_calls h1') fun w_ hI => ?_
        exact ⟨h0_, h1_, fun _ => rfl, h3_, h4_, hI⟩
      · intro D hD_  x23 x22 x21 x20 x19 w_
        rintro ⟨h0_, h1_, h2_, h3_, h4_, hI⟩
        refine r_loadW hI 0 ag_iPred rfl rfl ?_
        exact ⟨h0_, h1_, h2_, fun _ => rfl, h4_, hI⟩
      · intro D hD_ d2_0 d3_1 x23 x22 x21 x20 x19 w_
        rintro ⟨h0_, h1_, h2_, h3_, h4_, hI⟩
        obtain rfl := h2_ d2_0
        obtain rfl := h3_ d3_1
        refine r_peql ?_
        exact ⟨h0_, h1_, h2_, h3_, fun _ => rfl, hI⟩
      intro D d4_ d3_ d2_ d1_ d0_ x23 x22 x21 x20 x19 w_
      rintro ⟨h0_, h1_, h2_, h3_, h4_, hI⟩
      obtain rfl := h4_ d4_
      obtain rfl := h3_ d3_
      obtain rfl := h2_ d2_
      obtain rfl := h1_ d1_
      obtain rfl := h0_ d0_
      clear h0_ h1_ h2_ h3_ h4_
      refine condV (fun hb => ?_) (fun hb => ?_)
      · refine r_loadW hI 3 ag_iClause rfl rfl ?_
        refine r_append1 hI 2 [.int .i64 p[k].head.kind, .int .i64 p[k].head.n, .string p[k].head.name, kv, ks] mk_SiClause (by omega) (by omega) rfl rfl hc0.one (by omega) (by omega) fun v' w' hI => ?_
        refine ⟨c1, c2 ++ [_], ?_, ?_, hI.pick [true, true, true, false]⟩
        · rw [if_neg (by rw [hb]; decide)]; exact hR1
        · rw [if_pos hb]; exact hR2.snoc hc0 rfl
      · refine r_loadW hI 3 ag_iClause rfl rfl ?_
        refine r_append1 hI 1 [.int .i64 p[k].head.kind, .int .i64 p[k].head.n, .string p[k].head.name, kv, ks] mk_SiClause (by omega) (by omega) rfl rfl hc0.one (by omega) (by omega) fun v' w' hI => ?_
        refine ⟨c1 ++ [_], c2, ?_, ?_, hI.pick [true, true, true, false]⟩
        · rw [if_pos (by rw [hb]; rfl)]; exact hR1.snoc hc0 rfl
        · rw [if_neg (by rw [hb]; decide)]; exact hR2
    · intro t _ _ _ _ u _ _ _ _ _ _ _ _ _ _ _ _ w'
      rintro ⟨c1', c2', hR1, hR2, hI⟩
      refine r_add (by omega) ?_
      exact ⟨⟨k + 1, c1', c2', _, _, hk', rfl, hR1, hR2, hr1, hr2, hI⟩, by simp [intOf]; omega⟩
  · have : k = p.length := by omega
    subst this
    rw [List.drop_length, List.filter_nil, List.append_nil] at hr1 hr2
    refine r_appendRow hI 1 2 mk_SiClause (by omega) rfl rfl hR2.hk (moved_one hR2) (by omega) (by omega) fun v' w' hI => ?_
    have hI : Inv w [] ([] ++ [rowG v' t_iClause 5 (c1 ++ c2)]) S w' := hI.pick [false, true, false]
    obtain ⟨S1, hle, hrd, hI, _⟩ := hI.lend
    have hR := hR1.append hR2
    rw [hr1, hr2] at hR
    have hrr : RdSl S1 5 (RdC S1) v' (movedP p ⟨xs, xn⟩) := (RowRd.rows hR hrd).mono (Sle.refl _) fun _ _ h => h.mono hle
    refine Run.call0 fn_i_ownProgram nm_i_ownProgram hI (ownProgram_calls hrr (by omega)) fun v3 I' S' w' => ?_
    rintro ⟨rfl, L, rfl, hT⟩ _ hI
    exact ⟨_, _, _, rfl, hI.less hle, Ext.refl _ _ _, rfl, _, L, rfl, rfl, hT⟩

end Go.Proofs.YtmnnpgdeecnfpaaGreat

/- Plain laws on lists of predicates: who is in, nobody twice, reach is closed and least. No program in sight. -/
namespace Go.Proofs.YtmnnpgdeecnfpaaGreat
open Go Go.RowKit

theorem hasP_mem {l : List Pd} {x : Pd} : hasP l x = true ↔ x ∈ l := by
  simp [hasP, eqPd_iff]
theorem mem_addP {l : List Pd} {x y : Pd} : y ∈ addP l x ↔ y ∈ l ∨ y = x := by
  unfold addP
  split
  · rename_i h
    rw [hasP_mem] at h
    exact ⟨.inl, fun h' => h'.elim id fun e => e ▸ h⟩
  · simp
theorem nd_addP {l : List Pd} {x : Pd} (h : l.Nodup) : (addP l x).Nodup := by
  unfold addP
  split
  · exact h
  · rename_i hx
    rw [hasP_mem] at hx
    rw [List.nodup_append]
    refine ⟨h, by simp, fun a ha b hb e => ?_⟩
    simp at hb
    subst hb
    subst e
    exact hx ha
theorem mem_predsFrom : ∀ (p : List C) (l : List Pd) (y : Pd), y ∈ predsFrom l p ↔ y ∈ l ∨ ∃ c ∈ p, predT c.head = y
  | [], l, y => by simp [predsFrom]
  | c :: p, l, y => by
    have e : predsFrom l (c :: p) = predsFrom (addP l (predT c.head)) p := rfl
    rw [e, mem_predsFrom p, mem_addP]
    constructor
    · rintro ((h1 | h1) | ⟨u, h1, h2⟩)
      · exact .inl h1
      · exact .inr ⟨c, List.mem_cons_self .., h1.symm⟩
      · exact .inr ⟨u, List.mem_cons_of_mem _ h1, h2⟩
    · rintro (h1 | ⟨u, h1, h2⟩)
      · exact .inl (.inl h1)
      · rcases List.mem_cons.1 h1 with rfl | h1
        · exact .inl (.inr h2.symm)
        · exact .inr ⟨u, h1, h2⟩
theorem nd_predsFrom : ∀ (p : List C) (l : List Pd), l.Nodup → (predsFrom l p).Nodup
  | [], l, h => h
  | c :: p, l, h => by
    have e : predsFrom l (c :: p) = predsFrom (addP l (predT c.head)) p := rfl
    rw [e]
    exact nd_predsFrom p _ (nd_addP h)
theorem nodup_le {α : Type} [DecidableEq α] : ∀ {l m : List α}, l.Nodup → (∀ x ∈ l, x ∈ m) → l.length ≤ m.length
  | [], _, _, _ => Nat.zero_le _
  | x :: l, m, h, hs => by
    rw [List.nodup_cons] at h
    have hx := hs x (List.mem_cons_self ..)
    have h1 := nodup_le (l := l) (m := m.erase x) h.2 fun y hy => by
      have hne : y ≠ x := fun e => h.1 (e ▸ hy)
      exact (List.mem_erase_of_ne hne).2 (hs y (List.mem_cons_of_mem _ hy))
    rw [List.length_erase_of_mem hx] at h1
    have : 0 < m.length := List.length_pos_of_mem hx
    rw [List.length_cons]
    omega

/- reach -/
inductive Star (p : List C) (x : Pd) : Pd → Prop
  | refl : Star p x x
  | step {y z : Pd} : Star p x y → z ∈ callsP p y → Star p x z
theorem Star.trans {p : List C} {x y z : Pd} (h : Star p x y) (h' : Star p y z) : Star p x z := by
  induction h' with
  | refl => exact h
  | step _ hz ih => exact .step ih hz
/- the laws -/
theorem predsOf_has {p : List C} (hv : progB p = true) {c : C} (h : c ∈ p) : hasP (predsOf p) (predT c.head) = true := by
  rw [hasP_mem, predsOf, if_pos hv, mem_predsFrom]
  exact .inr ⟨c, h, rfl⟩
theorem predsOf_le (p : List C) : (predsOf p).length ≤ p.length := by
  rw [predsOf]
  split
  · have := predsFrom_len p []
    simpa using this
  · simp
/- a goal for a predicate that a valid program calls -/
/- moving -/
theorem movedP_twice (p : List C) (x : Pd) : movedP (movedP p x) x = movedP p x := by
  simp only [movedP, List.filter_append, List.filter_filter]
  have h1 : (p.filter fun a => (!isP x a) && isP x a) = [] := by
    rw [List.filter_eq_nil_iff]; intro c _; cases isP x c <;> simp
  have h2 : (p.filter fun a => isP x a && !isP x a) = [] := by
    rw [List.filter_eq_nil_iff]; intro c _; cases isP x c <;> simp
  simp only [Bool.and_self, h1, h2, List.append_nil, List.nil_append]
theorem movedP_mem {p : List C} {x : Pd} {c : C} : c ∈ movedP p x ↔ c ∈ p := by
  simp only [movedP, List.mem_append, List.mem_filter]
  cases isP x c <;> simp
theorem movedP_len (p : List C) (x : Pd) : (movedP p x).length = p.length := by
  have := movedP_w p x
  simp only [movedP, List.length_append]
  induction p with
  | nil => rfl
  | cons c p ih =>
    have ih := ih (movedP_w p x)
    rw [List.filter_cons, List.filter_cons]
    cases isP x c <;> simp <;> omega
theorem movedP_prog {p : List C} (h : progB p = true) (x : Pd) : progB (movedP p x) = true := by
  rw [progB, Bool.and_eq_true, List.all_eq_true, decide_eq_true_eq] at h ⊢
  exact ⟨by rw [movedP_len]; exact h.1, fun c hc => h.2 c (movedP_mem.1 hc)⟩
theorem movePs_twice {p : List C} (h : progB p = true) (x : Pd) : movePs (movePs p x) x = movePs p x ∧ progB (movePs p x) = true ∧ (predsOf (movePs p x)).length = (predsOf p).length := by
  have h2 := movedP_prog h x
  have e : movePs p x = movedP p x := if_pos h
  refine ⟨by rw [e, movePs, if_pos h2, movedP_twice], by rw [e]; exact h2, ?_⟩
  rw [e, predsOf, predsOf, if_pos h, if_pos h2]
  have hm : ∀ y, y ∈ predsFrom [] (movedP p x) ↔ y ∈ predsFrom [] p := fun y => by
    rw [mem_predsFrom, mem_predsFrom]
    simp only [movedP_mem]
  exact Nat.le_antisymm (nodup_le (nd_predsFrom _ _ List.nodup_nil) fun y hy => (hm y).1 hy) (nodup_le (nd_predsFrom _ _ List.nodup_nil) fun y hy => (hm y).2 hy)

end Go.Proofs.YtmnnpgdeecnfpaaGreat

/- Steps that the laws' walks share: copies lent and marked, results compared, marked and read again. -/
namespace Go.Proofs.YtmnnpgdeecnfpaaGreat
open Go Go.RowKit
section
variable {w w0 : World} {X : List Nat} {L A : List Item} {S : Store} {K : Value → World → Prop}
attribute [local irreducible] Run CondV GuardV LoadV
/- copies that will be marked: their blocks are known -/
/- they are marked, and nobody looks at them again -/
/- rows of predicates -/
theorem Run.pubRow {f : FuncId} {fn : Func} {args : List Value} {l : List Pd} (hf : Tryz.prog.funcs[f]? = some fn) (hn : (fn.name == "runtime.NumGoroutine" || fn.body.isNone) = false) (hI : Inv w0 X L S w)
    (hc : Tri Tryz.prog f args [] S (PostP S l)) (hk : ∀ v' S' w', Sle S S' → RdSl S' 2 RdPd v' l → Inv w0 X L S' w' → K v' w') : Run Tryz.prog (sCall (.func (.func f) #[] #[]) args) w K := by
  refine Run.call0 hf hn hI hc fun v' I' S' w' => ?_
  rintro ⟨rfl, rfl⟩ _ hI
  obtain ⟨S1, hle, hrd, hI, _⟩ := hI.lend
  exact hk _ _ _ hle hrd.preds hI
end

end Go.Proofs.YtmnnpgdeecnfpaaGreat

/- FnPredsOf and FnMoveTwice return true, whatever bytes come in: the walks. -/
namespace Go.Proofs.YtmnnpgdeecnfpaaGreat
open Go Go.RowKit
section
variable {w0 w : World} {X : List Nat} {L : List Item} {S : Store} {K : Value → World → Prop} {ys : List Nat} {v : Value}
attribute [local irreducible] Run CondV GuardV LoadV
theorem Light.fit {q : List C} (h : Light 30 900 q) : q.length + wP q ≤ 1048576 := by
  have := h.le; omega
/- two results of a call that makes clauses: published -/
theorem Run.pubCB {f : FuncId} {fn : Func} {args : List Value} {l : List C} {b : Bool} (hf : Tryz.prog.funcs[f]? = some fn) (hn : (fn.name == "runtime.NumGoroutine" || fn.body.isNone) = false) (hI : Inv w0 X L S w)
    (hc : Tri Tryz.prog f args [] S (PostCB S l b)) (hk : ∀ u S' w', Ext w0.heap.size X S S' → RdSl S' 5 (RdC S') u l → Inv w0 X L S' w' → K (.tuple #[u, .bool b]) w') : Run Tryz.prog (sCall (.func (.func f) #[] #[]) args) w K := by
  refine Run.call0E hf hn hI hc fun v' I' S' w' => ?_
  rintro ⟨rfl, u, M, rfl, rfl, hT⟩ _ hI
  obtain ⟨S1, hI, hE, hins⟩ := hI.pubExt
  exact hk u S1 w' hE (hT.rd hins fun _ _ _ hi h => h.rd hi) hI
theorem lawPPreds_calls (h : RdSl S 1 RdU8 v ys) : Pure Tryz.prog n_l_FnPredsOf [v] S (.bool true) := by
  intro w hI
  refine calls_l_FnPredsOf ?_
  unfold sh_l_FnPredsOf
  refine r_lenSl h sl_Suint8 ?_
  refine r_gtr ?_
  refine condP (fun _ => done hI rfl) (fun _ => ?_)
  refine Run.call0E fn_s_DrawPredsOf nm_s_DrawPredsOf hI (DrawPredsOf_calls h) fun t10 I' S1 w' => ?_
  rintro ⟨rfl, q, hq, hl⟩ hE1 hI
  have hw := hl.fit
  have hI : Inv w [] [] S1 w' := hI
  refine Run.pubRow (l := predsOf q) fn_i_PredsOf nm_i_PredsOf hI (i_PredsOf_calls hq hw) fun t12 S2 w' hle2 h2 hI => ?_
  have hle := hE1.1.trans hle2
  have hq := hq.monoC hle2
  refine ⟨fun t w' => ∃ S3, t = .bool (!progB q) ∧ Sle S2 S3 ∧ Inv w [] [] S3 w', ?_, ?_⟩
  · refine Run.pubRow (l := predsOf q) fn_s_PredsOf nm_s_PredsOf hI (s_PredsOf_calls hq hw) fun t15 S3 w' hle3 h3 hI => ?_
    refine Run.callPure fn_l_pgPreds nm_l_pgPreds hI (pgPreds_calls (h2.monoP hle3) h3) fun w' hI => ?_
    refine r_not ?_
    repeat (first | refine guard_true ?_ | refine guard_ne (by decide) ?_ | refine guard_undef ?_ | refine r_pickT ?_ | refine r_pickF ?_)
    refine Run.callPure fn_i_ProgramValid nm_i_ProgramValid hI (iProgramValid_calls (hq.monoC hle3)) fun w' hI => ?_
    refine r_not ?_
    repeat (first | refine guard_true ?_ | refine guard_ne (by decide) ?_ | refine guard_undef ?_ | refine r_pickT ?_ | refine r_pickF ?_)
    exact ⟨S3, rfl, hle3, hI⟩
  intro t22 _ _ _ _ _ _ _ _ _ w'
  rintro ⟨S3, rfl, hle3, hI⟩
  have hle := hle.trans hle3
  have hq := hq.monoC hle3
  have h2 := h2.monoP hle3
  refine condV (fun hb => ?_) (fun hb => ?_)
  · have hpv : progB q = false := by simpa using hb
    refine Run.pubRow (l := predsOf q) fn_s_PredsOf nm_s_PredsOf hI (s_PredsOf_calls hq hw) fun t25 S4 w' hle4 h4 hI => ?_
    refine Run.callPure fn_l_pgPreds nm_l_pgPreds hI (pgPreds_calls (h2.monoP hle4) h4) fun w' hI => ?_
    repeat (first | refine guard_true ?_ | refine guard_ne (by decide) ?_ | refine guard_undef ?_ | refine r_pickT ?_ | refine r_pickF ?_)
    refine Run.callPure fn_i_ProgramValid nm_i_ProgramValid hI (iProgramValid_calls (hq.monoC hle4)) fun w' hI => ?_
    rw [hpv]
    repeat (first | refine guard_true ?_ | refine guard_ne (by decide) ?_ | refine guard_undef ?_ | refine r_pickT ?_ | refine r_pickF ?_)
    refine r_lenSl (h2.monoP hle4) sl_SiPred ?_
    have e : predsOf q = [] := by rw [predsOf, hpv]; rfl
    refine r_eqlT (by rw [e]; rfl) ?_
    repeat (first | refine guard_true ?_ | refine guard_ne (by decide) ?_ | refine guard_undef ?_ | refine r_pickT ?_ | refine r_pickF ?_)
    exact doneS hI (hle.trans hle4) rfl
  · have hpv : progB q = true := by simpa using hb
    have hqle := hq.le
    simp only [maxLen] at hqle
    refine ⟨fun t w' => ∃ k : Nat, k ≤ q.length ∧ t = .int .i64 k ∧ Inv w [] [] S3 w', fun t _ => q.length - (intOf t).toNat, ⟨0, Nat.zero_le _, rfl, hI⟩, ?_⟩
    intro t5 _ _ _ t58 t57 t56 t55 t54 t53 t52 t51 t50 t49 t48 t47 t46 t45 t44 t43 t42 _ _ _ _ w'
    rintro ⟨k, hk, rfl, hI⟩
    refine r_lenSl hq sl_SiClause ?_
    refine r_lss ?_
    refine condP (fun hki => ?_) (fun hki => ?_)
    · have hk' : k < q.length := by omega
      have hJ := hI
      obtain ⟨b, o, cap, c, E, fz, rfl, hS, hd, kb, he, hh, hb'⟩ := hq.at_ hk'
      have hh0 := hh
      obtain ⟨kv, rfl, _, _, _, a, m, rfl, _⟩ := RdT.iff.1 hh
      have hI := hJ
      refine ⟨fun D x58 x57 x56 x55 x54 x53 x52 x51 x50 x49 x48 x47 x46 x45 x44 x43 x42 w_ => (D 0 = true → x42 = t12) ∧ (D 1 = true → x43 = .slice (some ⟨b, o, none⟩) q.length cap) ∧ (D 2 = true → x44 = .int .i64 k) ∧ (D 3 = true → x45 = .pointer (some ⟨b, o + k * 5, none⟩)) ∧ (D 4 = true → x46 = .pointer (some ⟨b, o + k * 5, none⟩)) ∧ (D 5 = true → x47 = .pointer (some ⟨b, o + k * 5 + 2, none⟩)) ∧ (D 6 = true → x48 = .string q[k].head.name) ∧ (D 7 = true → x49 = .slice (some ⟨b, o, none⟩) q.length cap) ∧ (D 8 = true → x50 = .int .i64 k) ∧ (D 9 = true → x51 = .pointer (some ⟨b, o + k * 5, none⟩)) ∧ (D 10 = true → x52 = .pointer (some ⟨b, o + k * 5, none⟩)) ∧ (D 11 = true → x53 = .pointer (some ⟨b, o + k * 5 + 3, none⟩)) ∧ (D 12 = true → x54 = .slice a q[k].head.kids.length m) ∧ (D 13 = true → x55 = .int .i64 q[k].head.kids.length) ∧ (D 14 = true → x56 = .agg #[.string q[k].head.name, .int .i64 q[k].head.kids.length]) ∧ (D 15 = true → x57 = .bool true) ∧ (D 16 = true → x58 = .bool false) ∧ Inv w [] [] S3 w_, ⟨fun h => Bool.noConfusion h, fun h => Bool.noConfusion h, fun h => Bool.noConfusion h, fun h => Bool.noConfusion h, fun h => Bool.noConfusion h, fun h => Bool.noConfusion h, fun h => Bool.noConfusion h, fun h => Bool.noConfusion h, fun h => Bool.noConfusion h, fun h => Bool.noConfusion h, fun h => Bool.noConfusion h, fun h => Bool.noConfusion h, fun h => Bool.noConfusion h, fun h => Bool.noConfusion h, fun h => Bool.noConfusion h, fun h => Bool.noConfusion h, fun h => Bool.noConfusion h, hI.draw⟩, ⟨?_, ?_, ?_, ?_, ?_, ?_, ?_, ?_, ?_, ?_, ?_, ?_, ?_, ?_, ?_, ?_, ?_, trivial⟩, ?_⟩
      · intro D hD_  x58 x57 x56 x55 x54 x53 x52 x51 x50 x49 x48 x47 x46 x45 x44 x43 x42 w_
        rintro ⟨h0_, h1_, h2_, h3_, h4_, h5_, h6_, h7_, h8_, h9_, h10_, h11_, h12_, h13_, h14_, h15_, h16_, hI⟩
        exact ⟨fun _ => rfl, h1_, h2_, h3_, h4_, h5_, h6_, h7_, h8_, h9_, h10_, h11_, h12_, h13_, h14_, h15_, h16_, hI⟩
      · intro D hD_  x58 x57 x56 x55 x54 x53 x52 x51 x50 x49 x48 x47 x46 x45 x44 x43 x42 w_
        rintro ⟨h0_, h1_, h2_, h3_, h4_, h5_, h6_, h7_, h8_, h9_, h10_, h11_, h12_, h13_, h14_, h15_, h16_, hI⟩
        exact ⟨h0_, fun _ => rfl, h2_, h3_, h4_, h5_, h6_, h7_, h8_, h9_, h10_, h11_, h12_, h13_, h14_, h15_, h16_, hI⟩
      · intro D hD_  x58 x57 x56 x55 x54 x53 x52 x51 x50 x49 x48 x47 x46 x45 x44 x43 x42 w_
        rintro ⟨h0_, h1_, h2_, h3_, h4_, h5_, h6_, h7_, h8_, h9_, h10_, h11_, h12_, h13_, h14_, h15_, h16_, hI⟩
        exact ⟨h0_, h1_, fun _ => rfl, h3_, h4_, h5_, h6_, h7_, h8_, h9_, h10_, h11_, h12_, h13_, h14_, h15_, h16_, hI⟩
      · intro D hD_ d1_0 d2_1 x58 x57 x56 x55 x54 x53 x52 x51 x50 x49 x48 x47 x46 x45 x44 x43 x42 w_
        rintro ⟨h0_, h1_, h2_, h3_, h4_, h5_, h6_, h7_, h8_, h9_, h10_, h11_, h12_, h13_, h14_, h15_, h16_, hI⟩
        obtain rfl := h1_ d1_0
        obtain rfl := h2_ d2_1
        refine r_indexAddr sl_SiClause hk' ?_
        exact ⟨h0_, h1_, h2_, fun _ => rfl, h4_, h5_, h6_, h7_, h8_, h9_, h10_, h11_, h12_, h13_, h14_, h15_, h16_, hI⟩
      · intro D hD_ d3_0 x58 x57 x56 x55 x54 x53 x52 x51 x50 x49 x48 x47 x46 x45 x44 x43 x42 w_
        rintro ⟨h0_, h1_, h2_, h3_, h4_, h5_, h6_, h7_, h8_, h9_, h10_, h11_, h12_, h13_, h14_, h15_, h16_, hI⟩
        obtain rfl := h3_ d3_0
        refine r_field fo_iClause_0 ?_
        exact ⟨h0_, h1_, h2_, h3_, fun _ => rfl, h5_, h6_, h7_, h8_, h9_, h10_, h11_, h12_, h13_, h14_, h15_, h16_, hI⟩
      · intro D hD_ d4_0 x58 x57 x56 x55 x54 x53 x52 x51 x50 x49 x48 x47 x46 x45 x44 x43 x42 w_
        rintro ⟨h0_, h1_, h2_, h3_, h4_, h5_, h6_, h7_, h8_, h9_, h10_, h11_, h12_, h13_, h14_, h15_, h16_, hI⟩
        obtain rfl := h4_ d4_0
        refine r_field fo_iTerm_2 ?_
        exact ⟨h0_, h1_, h2_, h3_, h4_, fun _ => rfl, h6_, h7_, h8_, h9_, h10_, h11_, h12_, h13_, h14_, h15_, h16_, hI⟩
      · intro D hD_ d5_0 x58 x57 x56 x55 x54 x53 x52 x51 x50 x49 x48 x47 x46 x45 x44 x43 x42 w_
        rintro ⟨h0_, h1_, h2_, h3_, h4_, h5_, h6_, h7_, h8_, h9_, h10_, h11_, h12_, h13_, h14_, h15_, h16_, hI⟩
        obtain rfl := h5_ d5_0
        refine r_load sc_string (by rw [hI.cellS hS]; exact cellsAt_get he 2 _ rfl) ?_
        exact ⟨h0_, h1_, h2_, h3_, h4_, h5_, fun _ => rfl, h7_, h8_, h9_, h10_, h11_, h12_, h13_, h14_, h15_, h16_, hI⟩
      · intro D hD_  x58 x57 x56 x55 x54 x53 x52 x51 x50 x49 x48 x47 x46 x45 x44 x43 x42 w_
        rintro ⟨h0_, h1_, h2_, h3_, h4_, h5_, h6_, h7_, h8_, h9_, h10_, h11_, h12_, h13_, h14_, h15_, h16_, hI⟩
        exact ⟨h0_, h1_, h2_, h3_, h4_, h5_, h6_, fun _ => rfl, h8_, h9_, h10_, h11_, h12_, h13_, h14_, h15_, h16_, hI⟩
      · intro D hD_  x58 x57 x56 x55 x54 x53 x52 x51 x50 x49 x48 x47 x46 x45 x44 x43 x42 w_
        rintro ⟨h0_, h1_, h2_, h3_, h4_, h5_, h6_, h7_, h8_, h9_, h10_, h11_, h12_, h13_, h14_, h15_, h16_, hI⟩
        exact ⟨h0_, h1_, h2_, h3_, h4_, h5_, h6_, h7_, fun _ => rfl, h9_, h10_, h11_, h12_, h13_, h14_, h15_, h16_, hI⟩
      · intro D hD_ d7_0 d8_1 x58 x57 x56 x55 x54 x53 x52 x51 x50 x49 x48 x47 x46 x45 x44 x43 x42 w_
        rintro ⟨h0_, h1_, h2_, h3_, h4_, h5_, h6_, h7_, h8_, h9_, h10_, h11_, h12_, h13_, h14_, h15_, h16_, hI⟩
        obtain rfl := h7_ d7_0
        obtain rfl := h8_ d8_1
        refine r_indexAddr sl_SiClause hk' ?_
        exact ⟨h0_, h1_, h2_, h3_, h4_, h5_, h6_, h7_, h8_, fun _ => rfl, h10_, h11_, h12_, h13_, h14_, h15_, h16_, hI⟩
      · intro D hD_ d9_0 x58 x57 x56 x55 x54 x53 x52 x51 x50 x49 x48 x47 x46 x45 x44 x43 x42 w_
        rintro ⟨h0_, h1_, h2_, h3_, h4_, h5_, h6_, h7_, h8_, h9_, h10_, h11_, h12_, h13_, h14_, h15_, h16_, hI⟩
        obtain rfl := h9_ d9_0
        refine r_field fo_iClause_0 ?_
        exact ⟨h0_, h1_, h2_, h3_, h4_, h5_, h6_, h7_, h8_, h9_, fun _ => rfl, h11_, h12_, h13_, h14_, h15_, h16_, hI⟩
      · intro D hD_ d10_0 x58 x57 x56 x55 x54 x53 x52 x51 x50 x49 x48 x47 x46 x45 x44 x43 x42 w_
        rintro ⟨h0_, h1_, h2_, h3_, h4_, h5_, h6_, h7_, h8_, h9_, h10_, h11_, h12_, h13_, h14_, h15_, h16_, hI⟩
        obtain rfl := h10_ d10_0
        refine r_field fo_iTerm_3 ?_
        exact ⟨h0_, h1_, h2_, h3_, h4_, h5_, h6_, h7_, h8_, h9_, h10_, fun _ => rfl, h12_, h13_, h14_, h15_, h16_, hI⟩
      · intro D hD_ d11_0 x58 x57 x56 x55 x54 x53 x52 x51 x50 x49 x48 x47 x46 x45 x44 x43 x42 w_
        rintro ⟨h0_, h1_, h2_, h3_, h4_, h5_, h6_, h7_, h8_, h9_, h10_, h11_, h12_, h13_, h14_, h15_, h16_, hI⟩
        obtain rfl := h11_ d11_0
        refine r_load sc_SiTerm (by rw [hI.cellS hS]; exact cellsAt_get he 3 _ rfl) ?_
        exact ⟨h0_, h1_, h2_, h3_, h4_, h5_, h6_, h7_, h8_, h9_, h10_, h11_, fun _ => rfl, h13_, h14_, h15_, h16_, hI⟩
      · intro D hD_ d12_0 x58 x57 x56 x55 x54 x53 x52 x51 x50 x49 x48 x47 x46 x45 x44 x43 x42 w_
        rintro ⟨h0_, h1_, h2_, h3_, h4_, h5_, h6_, h7_, h8_, h9_, h10_, h11_, h12_, h13_, h14_, h15_, h16_, hI⟩
        obtain rfl := h12_ d12_0
        refine r_len sl_SiTerm ?_
        exact ⟨h0_, h1_, h2_, h3_, h4_, h5_, h6_, h7_, h8_, h9_, h10_, h11_, h12_, fun _ => rfl, h14_, h15_, h16_, hI⟩
      · intro D hD_ d6_0 d13_1 x58 x57 x56 x55 x54 x53 x52 x51 x50 x49 x48 x47 x46 x45 x44 x43 x42 w_
        rintro ⟨h0_, h1_, h2_, h3_, h4_, h5_, h6_, h7_, h8_, h9_, h10_, h11_, h12_, h13_, h14_, h15_, h16_, hI⟩
        obtain rfl := h6_ d6_0
        obtain rfl := h13_ d13_1
        refine r_buildPred ?_
        exact ⟨h0_, h1_, h2_, h3_, h4_, h5_, h6_, h7_, h8_, h9_, h10_, h11_, h12_, h13_, fun _ => rfl, h15_, h16_, hI⟩
      · intro D hD_ d0_0 d14_1 x58 x57 x56 x55 x54 x53 x52 x51 x50 x49 x48 x47 x46 x45 x44 x43 x42 w_
        rintro ⟨h0_, h1_, h2_, h3_, h4_, h5_, h6_, h7_, h8_, h9_, h10_, h11_, h12_, h13_, h14_, h15_, h16_, hI⟩
        obtain rfl := h0_ d0_0
        obtain rfl := h14_ d14_1
        refine Run.callPure fn_l_pgPred nm_l_pgPred hI (pgPred_calls (predT q[k].head) h2) fun w_ hI => ?_
        rw [predsOf_has hpv (List.getElem_mem hk')]
        exact ⟨h0_, h1_, h2_, h3_, h4_, h5_, h6_, h7_, h8_, h9_, h10_, h11_, h12_, h13_, h14_, fun _ => rfl, h16_, hI⟩
      · intro D hD_ d15_0 x58 x57 x56 x55 x54 x53 x52 x51 x50 x49 x48 x47 x46 x45 x44 x43 x42 w_
        rintro ⟨h0_, h1_, h2_, h3_, h4_, h5_, h6_, h7_, h8_, h9_, h10_, h11_, h12_, h13_, h14_, h15_, h16_, hI⟩
        obtain rfl := h15_ d15_0
        refine r_not ?_
        exact ⟨h0_, h1_, h2_, h3_, h4_, h5_, h6_, h7_, h8_, h9_, h10_, h11_, h12_, h13_, h14_, h15_, fun _ => rfl, hI⟩
      intro D d16_ d15_ d14_ d13_ d12_ d11_ d10_ d9_ d8_ d7_ d6_ d5_ d4_ d3_ d2_ d1_ d0_ x58 x57 x56 x55 x54 x53 x52 x51 x50 x49 x48 x47 x46 x45 x44 x43 x42 w_
      rintro ⟨h0_, h1_, h2_, h3_, h4_, h5_, h6_, h7_, h8_, h9_, h10_, h11_, h12_, h13_, h14_, h15_, h16_, hI⟩
      obtain rfl := h16_ d16_
      obtain rfl := h15_ d15_
      obtain rfl := h14_ d14_
      obtain rfl := h13_ d13_
      obtain rfl := h12_ d12_
      obtain rfl := h11_ d11_
      obtain rfl := h10_ d10_
      obtain rfl := h9_ d9_
      obtain rfl := h8_ d8_
      obtain rfl := h7_ d7_
      obtain rfl := h6_ d6_
      obtain rfl := h5_ d5_
      obtain rfl := h4_ d4_
      obtain rfl := h3_ d3_
      obtain rfl := h2_ d2_
      obtain rfl := h1_ d1_
      obtain rfl := h0_ d0_
      clear h0_ h1_ h2_ h3_ h4_ h5_ h6_ h7_ h8_ h9_ h10_ h11_ h12_ h13_ h14_ h15_ h16_
      refine condV (fun hb => by cases hb) (fun _ => ?_)
      refine r_add (by omega) ?_
      exact ⟨⟨k + 1, hk', rfl, hI⟩, by simp [intOf]; omega⟩
    · refine r_lenSl h2 sl_SiPred ?_
      refine r_lenSl hq sl_SiClause ?_
      refine r_leqT (by have := predsOf_le q; omega) ?_
      exact doneS hI hle rfl
theorem DrawMovePred_calls (h : RdSl S 1 RdU8 v ys) : Tri Tryz.prog n_s_DrawMovePred [v] [] S PostPX := by
  intro w hI
  refine calls_s_DrawMovePred ?_
  unfold sh_s_DrawMovePred
  refine r_alloc hI zo_iPred fun b3 w' hI => ?_
  refine Run.call0E fn_s_DrawCallsOf nm_s_DrawCallsOf hI (DrawCallsOf_calls h) fun v I' S2 w' => ?_
  rintro ⟨rfl, u, q, x, rfl, hr, hl⟩ hE2 hI
  refine r_extract (v := u) rfl ?_
  refine r_extract (v := .agg x.cells.toArray) rfl ?_
  refine r_storeW hI 0 rfl ag_iPred rfl rfl (Pd.one _) fun w' hI => ?_
  refine loadV_W hI 0 ag_iPred rfl rfl ?_
  exact ⟨_, [], S2, rfl, hI.nil, hE2, rfl, u, q, x, rfl, hr, hl⟩
theorem lawPMove_calls (h : RdSl S 1 RdU8 v ys) : Pure Tryz.prog n_l_FnMoveTwice [v] S (.bool true) := by
  intro w hI
  refine calls_l_FnMoveTwice ?_
  unfold sh_l_FnMoveTwice
  refine r_lenSl h sl_Suint8 ?_
  refine r_gtr ?_
  refine condP (fun _ => done hI rfl) (fun _ => ?_)
  refine Run.call0E fn_s_DrawMovePred nm_s_DrawMovePred hI (DrawMovePred_calls h) fun t10 I' S1 w' => ?_
  rintro ⟨rfl, p, q, x, rfl, hq, hl⟩ hE1 hI
  have hw := hl.fit
  refine r_extract (v := p) rfl ?_
  refine r_extract (v := .agg x.cells.toArray) rfl ?_
  refine r_alloc hI zo_iPred fun b4 w' hI => ?_
  have hI : Inv w [] [.blk b4 (.cells #[.string ⟨#[]⟩, .int .i64 0] t_iPred)] S1 w' := hI
  refine r_storeW hI 0 rfl ag_iPred rfl rfl (Pd.one _) fun w' hI => ?_
  have hI : Inv w [] [.blk b4 (.cells x.cells.toArray t_iPred)] S1 w' := hI
  refine r_loadW hI 0 ag_iPred rfl rfl ?_
  refine Run.pubCB fn_i_MovePred nm_i_MovePred hI (i_MovePred_calls x hq hw) fun s S2 w' hE2 hs hI => ?_
  have hq := hq.monoC hE2.1
  refine r_extract (v := s) rfl ?_
  refine r_extract (v := .bool (progB q)) rfl ?_
  refine r_loadW hI 0 ag_iPred rfl rfl ?_
  refine Run.pubCB fn_s_MovePred nm_s_MovePred hI (s_MovePred_calls x hq hw) fun t S3 w' hE3 ht hI => ?_
  have hq := hq.monoC hE3.1
  have hs := hs.monoC hE3.1
  have hle := (hE1.1.trans hE2.1).trans hE3.1
  refine r_extract (v := t) rfl ?_
  refine r_extract (v := .bool (progB q)) rfl ?_
  refine ⟨fun t w' => t = .bool (!progB q) ∧ Inv w [] [.blk b4 (.cells x.cells.toArray t_iPred)] S3 w', ?_, ?_⟩
  · refine r_bneq un_bool ?_
    rw [beq_self_eq_true]
    repeat (first | refine guard_true ?_ | refine guard_ne (by decide) ?_ | refine guard_undef ?_ | refine r_pickT ?_ | refine r_pickF ?_)
    refine Run.callPure fn_l_pgClauses nm_l_pgClauses hI (pgClauses_calls hs ht) fun w' hI => ?_
    refine r_not ?_
    repeat (first | refine guard_true ?_ | refine guard_ne (by decide) ?_ | refine guard_undef ?_ | refine r_pickT ?_ | refine r_pickF ?_)
    refine r_not ?_
    repeat (first | refine guard_true ?_ | refine guard_ne (by decide) ?_ | refine guard_undef ?_ | refine r_pickT ?_ | refine r_pickF ?_)
    exact ⟨rfl, hI⟩
  intro t43 _ _ _ _ _ _ _ _ _ _ _ _ w'
  rintro ⟨rfl, hI⟩
  refine condV (fun hb => ?_) (fun hb => ?_)
  · refine r_beqB un_bool ?_
    rw [beq_self_eq_true]
    repeat (first | refine guard_true ?_ | refine guard_ne (by decide) ?_ | refine guard_undef ?_ | refine r_pickT ?_ | refine r_pickF ?_)
    refine Run.callPure fn_l_pgClauses nm_l_pgClauses hI (pgClauses_calls hs ht) fun w' hI => ?_
    repeat (first | refine guard_true ?_ | refine guard_ne (by decide) ?_ | refine guard_undef ?_ | refine r_pickT ?_ | refine r_pickF ?_)
    exact doneS hI hle rfl
  · have hpv : progB q = true := by simpa using hb
    obtain ⟨e1, e2, e3⟩ := movePs_twice hpv x
    have hml : movePs q x = movedP q x := if_pos hpv
    have hw2 : (movePs q x).length + wP (movePs q x) ≤ 1048576 := by
      have := movedP_w q x
      rw [hml]
      omega
    refine r_loadW hI 0 ag_iPred rfl rfl ?_
    refine Run.pubCB fn_i_MovePred nm_i_MovePred hI (i_MovePred_calls x hs hw2) fun s2 S4 w' hE4 hs2 hI => ?_
    rw [e1] at hs2
    rw [e2]
    refine r_extract (v := s2) rfl ?_
    refine r_extract (v := .bool true) rfl ?_
    repeat (first | refine guard_true ?_ | refine guard_ne (by decide) ?_ | refine guard_undef ?_ | refine r_pickT ?_ | refine r_pickF ?_)
    refine Run.callPure fn_l_pgClauses nm_l_pgClauses hI (pgClauses_calls hs2 (hs.monoC hE4.1)) fun w' hI => ?_
    repeat (first | refine guard_true ?_ | refine guard_ne (by decide) ?_ | refine guard_undef ?_ | refine r_pickT ?_ | refine r_pickF ?_)
    refine Run.pubRow (l := predsOf (movePs q x)) fn_i_PredsOf nm_i_PredsOf hI (i_PredsOf_calls (hs.monoC hE4.1) hw2) fun t12 S5 w' hle5 h5 hI => ?_
    refine r_lenSl h5 sl_SiPred ?_
    refine Run.pubRow (l := predsOf q) fn_i_PredsOf nm_i_PredsOf hI (i_PredsOf_calls (hq.monoC (hE4.1.trans hle5)) hw) fun t12 S6 w' hle6 h6 hI => ?_
    refine r_lenSl h6 sl_SiPred ?_
    refine r_eqlT (by rw [e3]) ?_
    repeat (first | refine guard_true ?_ | refine guard_ne (by decide) ?_ | refine guard_undef ?_ | refine r_pickT ?_ | refine r_pickF ?_)
    exact doneS hI (hle.trans ((hE4.1.trans hle5).trans hle6)) rfl
end
end Go.Proofs.YtmnnpgdeecnfpaaGreat

/- What every row of this seat owes beside its walk: the arguments read again as they did, and nothing that was there has turned. -/
namespace Go.Proofs.YtmnnpgdeecnfpaaGreat
open Go Go.ChangeShapes Go.WideShapes Go.ChangeAt Go.RowKit

theorem Tryz.own : ownKnob Tryz.prog.godebug = none := by kernel_rfl
theorem Tryz.kids : Kids Tryz.prog (· < Tryz.prog.types.size) := kids_rows (by kernel_rfl) (by kernel_rfl)
theorem Tryz.full : ∀ t e, t < Tryz.prog.types.size → Tryz.prog.underlying t = some (.slice e) → 0 < Tryz.prog.cellsOf e := slices_full_of Tryz.prog (by kernel_rfl)
section
variable {H : Type} {enc : TypeId × Value → H} {W W' : World}
theorem carryAll {P : Program} : ∀ {ts : List TypeId} {vs : List Value} {ds : List (DataW H)} {ps : List MemPlace}, DataW.TrodAll enc P W 0 (fun _ => true) true ts vs ds ps → (∀ p ∈ ps, W.sameAt W' p) →
    DataW.TrodAll enc P W' 0 (fun _ => true) true ts vs ds ps
  | [], [], [], _, h, _ => h
  | _ :: _, _ :: _, _ :: _, _, ⟨p, q, ⟨n, h1⟩, h2, e⟩, hs =>
    ⟨p, q, ⟨n, DataW.trod_carry n _ _ _ h1 fun x hx => hs x (by rw [e]; exact List.mem_append_left _ hx)⟩, carryAll h2 fun x hx => hs x (by rw [e]; exact List.mem_append_right _ hx), e⟩
theorem same_at {p : MemPlace} (h : ∀ b, b < W.heap.size → W'.heap[b]? = W.heap[b]?) (hp : p.block < W.heap.size) : W.sameAt W' p := by
  cases p with
  | cell b off => simp only [World.sameAt, World.cell?]; rw [h b hp]
  | map b => exact h b hp
/- a function of the program whose walk ends with 'true' and with all that was there as it was: the row's 'post' -/
theorem post_true {f : Func} {s : ChangeSpec} {args : Array Value} {ds gs : List (DataW H)} {before p q : List MemPlace}
    (hW : DataW.Whole enc Tryz.prog f.params.toList s.vars false W args.toList ds gs before) (hA : DataW.TrodAll enc Tryz.prog W 0 (fun _ => true) true f.params.toList args.toList ds p)
    (hV : DataW.TrodVars enc Tryz.prog W (fun _ => true) s.vars gs q) (hb : before = p ++ q) (hv : s.vars = []) (hts : ∀ t ∈ f.params.toList, t < Tryz.prog.types.size) (hr : f.resultTypes = #[t_bool])
    (hs : (s.fn H (ds ++ gs)).results = [.lit (.bool true)]) (ha : (s.fn H (ds ++ gs)).args = ds) (hsv : (s.fn H (ds ++ gs)).vars = []) (hI : Inv W [] [] (heapS W) W') :
    s.post enc Tryz.prog f false true false false W args (.bool true) W' := by
  have hsame : ∀ b, b < W.heap.size → W'.heap[b]? = W.heap[b]? := fun b hb => hI.same b hb
  have hlt := hW.lt
  rw [hv] at hV
  obtain ⟨hg, hq⟩ := trodVars_none hV
  subst hq
  rw [List.append_nil] at hb
  subst hb
  have hA' := carryAll (W' := W') hA fun x hx => same_at hsame (hlt x hx)
  refine ⟨ds, gs, before, [], before, [], hW, ?_, ?_, ?_, same_kept hI.os hI.output hsame, fun h => by cases h⟩
  · rw [hs, hr]
    exact trodAll_mk1 (shut_bool un_bool true)
  · rw [ha]
    exact DataW.TrodAll.respare Tryz.kids Tryz.full hts hA' fun x hx => by simpa using hlt x hx
  · rw [hv, hsv]
    rfl
end

end Go.Proofs.YtmnnpgdeecnfpaaGreat

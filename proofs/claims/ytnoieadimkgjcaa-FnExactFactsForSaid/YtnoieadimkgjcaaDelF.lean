/- slices.Clone and slices.DeleteFunc of terms. -/
import Derived.Test.YtnoieadimkgjcaaDel
import Derived.Test.YtnoieadimkgjcaaFuncs
namespace Go.Proofs.Ytnoieadimkgjcaa
open Go Go.RowKit

theorem indexF_pure {α : Type} (p : α → Bool) : ∀ (xs : List α) (k : Nat), ((indexF (σ := Unit) (fun _ x => (p x, ())) () xs k).1 = -1 ∧ xs.filter (fun x => !p x) = xs) ∨
    ∃ j, ∃ h : j < xs.length, (indexF (σ := Unit) (fun _ x => (p x, ())) () xs k).1 = ((k + j : Nat) : Int) ∧ p xs[j] = true ∧ (xs.take j).filter (fun x => !p x) = xs.take j
  | [], k => .inl ⟨rfl, rfl⟩
  | x :: xs, k => by
    rw [indexF]
    cases hp : p x with
    | true => exact .inr ⟨0, by simp, by simp, by simpa using hp, by simp⟩
    | false =>
      rcases indexF_pure p xs (k + 1) with ⟨h1, h2⟩ | ⟨j, hj, h1, h2, h3⟩
      · refine .inl ⟨by simpa using h1, ?_⟩
        rw [List.filter_cons, hp]
        simp [h2]
      · refine .inr ⟨j + 1, by simpa using hj, ?_, by simpa using h2, ?_⟩
        · simp only [Bool.false_eq_true, if_false]
          rw [h1]
          congr 1
          omega
        · rw [List.take_succ_cons, List.filter_cons, hp]
          simp [h3]
section
variable {P : Program} {w w0 : World} {X : List Nat} {L : List Item} {S : Store} {K : Value → World → Prop}
attribute [local irreducible] Run CondV GuardV LoadV
theorem r_slNil {T e : TypeId} {k n c : Nat} {cx cy : Bool} {a : Option Addr} (hT : sliceOf P T = some (e, k)) (hk : K (.bool a.isNone) w) : Run P (sBin .eql T cx cy (.slice a n c) (.slice none 0 0)) w K := by
  obtain ⟨hu, _⟩ := sliceOf_size hT
  refine Run.of (v := .bool a.isNone) (w' := w) ?_ hk
  have he : (Op.equal T (.slice a n c) (.slice none 0 0)).run P w = .ok a.isNone w := by
    rw [Op.equal, Op.maxDepth, Op.equalIn.eq_def]
    cases a <;> simp [run_underlying hu]
  have hg : ∀ x y, (eqGuard .eql T x y (.slice a n c) (.slice none 0 0)).run P w = .ok () w := fun x y => by unfold eqGuard; simp
  simp only [sBin, binOp, Sem.run_bind, hg, Result.andThen_ok, he, Sem.run_pure]
theorem Run.callVPure {f : FuncId} {fn : Func} {cap args : List Value} {r : Value} (hf : P.funcs[f]? = some fn) (hn : (fn.name == "runtime.NumGoroutine" || fn.body.isNone) = false) (h : Inv w0 X L S w) (hc : Pure P f (args ++ cap) S r)
    (hk : ∀ w', Inv w0 X L S w' → K r w') : Run P (sCall (fv f cap) args) w K := by
  refine Run.callV (A := L) (I := []) hf hn (by simpa using h) (Post := fun v I' S' => v = r ∧ I' = [] ∧ S' = S) ?_ fun v' I' S' w' => ?_
  · intro w1 hI
    exact (hc w1 hI).mono fun e w' ⟨he, hI⟩ => ⟨_, _, _, he, hI, Ext.refl _ _ _, rfl, rfl, rfl⟩
  · rintro ⟨rfl, rfl, rfl⟩ _ hI
    exact hk _ (by simpa using hI)
end
section
attribute [local irreducible] Run CondV GuardV LoadV
theorem Clone_Term_calls {xs : List T} {S : Store} {v : Value} (h : RdSl S 4 (RdT S) v xs) (hl : xs.length ≤ 4000000000) : Tri Try.prog n_x_Clone_Term [v] [] S fun r I' S' => S' = S ∧ ∃ css, I' = [rowG r t_iTerm 4 css] ∧ Rows 4 (RdT S) css xs := by
  intro w hI
  obtain ⟨a, cap, rfl, hlc, hcm, hx⟩ := id h
  refine calls_x_Clone_Term ?_
  unfold sh_x_Clone_Term
  refine r_slNil sl_SiTerm ?_
  cases a with
  | none =>
    refine condV (fun _ => ?_) (fun hb => by cases hb)
    rcases hx with rfl | ⟨b, o, c, E, fz, hc, _⟩
    · exact ⟨_, _, _, rfl, hI.rowNil t_iTerm 4, Ext.refl _ _ _, rfl, [], rfl, Rows.nil _ _⟩
    · cases hc
  | some a =>
    refine condV (fun hb => by cases hb) (fun _ => ?_)
    refine r_slice0 hI mk_SiTerm fun v0 w' hI => ?_
    refine r_appendRd (css := []) hI 0 mk_SiTerm (by omega) rfl h (fun _ _ => RdT.length) (fun _ _ => RdT.one) (by simp; omega) (by omega) fun v1 w' css2 hR hI => ?_
    exact ⟨_, _, _, rfl, hI, Ext.refl _ _ _, rfl, css2, rfl, hR⟩
theorem DeleteFunc_Term_calls {f : FuncId} {fn : Func} {cap : List Value} {S : Store} {p : T → Bool} {xs : List T} {v : Value} {css : List (List Value)} (hf : Try.prog.funcs[f]? = some fn) (hn : (fn.name == "runtime.NumGoroutine" || fn.body.isNone) = false)
    (hcall : ∀ (S' : Store), Sle S S' → ∀ x ∈ xs, ∀ cs, RdT S' cs x → Pure Try.prog f (.agg cs.toArray :: cap) S' (.bool (p x))) (hR : Rows 4 (RdT S) css xs) (hl : xs.length ≤ 1000000000) :
    Tri Try.prog n_x_DeleteFunc_Term [v, fv f cap] [rowG v t_iTerm 4 css] S fun r I' S' => I' = [] ∧ RdSl S' 4 (RdT S') r (xs.filter fun x => !p x) := by
  intro w hI
  obtain ⟨X, hX⟩ : ∃ X, X = feet [rowG v t_iTerm 4 css] := ⟨_, rfl⟩
  rw [← hX] at hI ⊢
  have hcl := hR.hc
  refine calls_x_DeleteFunc_Term ?_
  unfold sh_x_DeleteFunc_Term
  obtain ⟨hfl, ho⟩ := Inv.openRow (A := []) hI
  rcases ho with ⟨rfl, h0⟩ | ⟨g, cp, cur, rfl, hnc, hcm, hcs, ht, hI⟩
  · have : xs = [] := List.eq_nil_of_length_eq_zero (by omega)
    subst this
    have hrr : RdSl S 4 (RdT S) (.slice none 0 0) ([] : List T) := ⟨none, 0, rfl, Nat.le_refl _, Nat.zero_le _, .inl rfl⟩
    have hcb : Cb Try.prog f fn cap S (fun _ : Unit => []) (fun _ => True) (fun _ x => (p x, ())) (fun v x => ∃ cs, v = .agg cs.toArray ∧ RdT S cs x) ([] : List T) :=
      Cb.pure [] hf hn fun x u hx => by simp at hx
    refine Run.call0 fn_x_IndexFunc_Term nm_x_IndexFunc_Term hI (IndexFunc_Term_of hcb hrr (st := ()) trivial) fun t10 I' S' w' => ?_
    rintro ⟨rfl, rfl, rfl⟩ _ hI
    refine r_eql ?_
    refine condP (fun _ => ?_) (fun hb => absurd rfl hb)
    exact ⟨_, _, _, rfl, hI.nil, Ext.refl _ _ _, rfl, hrr⟩
  have hgX : g ∈ X := by rw [hX]; simp [feet, Item.foot, Value.ownBlock]
  rw [hcl] at hnc
  have hcell : ∀ i (h : i < xs.length), RdT S (cellsAt cur (i * 4) 4) xs[i] := by
    intro i hi
    have h1 := flatten_at 4 css i hR.hk (by omega)
    have hik : i * 4 + 4 ≤ css.length * 4 := by omega
    rw [← ht, List.drop_take, List.take_take, Nat.min_eq_left (by omega)] at h1
    rw [cellsAt, h1]
    exact hR.hR i hi (by omega)
  simp only [maxLen] at hcm
  have hfin : ∀ (w' : World) (c' : Array Value) (m : Nat) (ys : List T), Inv w X [.blk g (.cells c' t_iTerm)] S w' → m = ys.length → m ≤ cp → (∀ i (h : i < ys.length), RdT S (cellsAt c' (i * 4) 4) ys[i]) →
      ∃ v' I' S', Ending.returned (.slice (some ⟨g, 0, none⟩) m cp) = Ending.returned v' ∧ Inv w X I' S' w' ∧ Ext w.heap.size X S S' ∧ I' = [] ∧ RdSl S' 4 (RdT S') v' ys := by
    intro w' c' m ys hI hm hmc hy
    subst hm
    obtain ⟨h1, h2⟩ := Inv.publishLast (L := []) hI
    refine ⟨_, [], addS S g (.cells c' t_iTerm), rfl, h1, ⟨h2, fun b o hb => ?_⟩, rfl, some ⟨g, 0, none⟩, cp, rfl, hmc, by simp only [maxLen]; omega, .inr ⟨g, 0, c', t_iTerm, (0, 0), rfl, by simp [addS], fun i hi => ?_⟩⟩
    · simp only [addS] at hb
      split at hb
      · rename_i e; subst e; exact .inr (.inl hgX)
      · exact .inl hb
    · rw [Nat.zero_add]
      exact (hy i hi).mono h2
  have hI : Inv w X ([] ++ blks [(g, .cells cur t_iTerm)]) S w := hI
  obtain ⟨S1, hle, hins, hI1, hback⟩ := Inv.lendAll _ hI
  have hrr : RdSl S1 4 (RdT S1) (.slice (some ⟨g, 0, none⟩) css.length cp) xs := by
    rw [hcl]
    exact ⟨_, cp, rfl, hnc, by simp only [maxLen]; omega, .inr ⟨g, 0, cur, t_iTerm, (0, 0), rfl, hins _ (List.mem_cons_self ..), fun i hi => by rw [Nat.zero_add]; exact (hcell i hi).mono hle⟩⟩
  have hcb : Cb Try.prog f fn cap S1 (fun _ : Unit => []) (fun _ => True) (fun _ x => (p x, ())) (fun v x => ∃ cs, v = .agg cs.toArray ∧ RdT S1 cs x) xs :=
    Cb.pure [] hf hn fun x u hx => by
      rintro ⟨cs, rfl, hcs⟩ w1 hI
      exact (hcall S1 hle x hx cs hcs w1 hI).mono fun e w' ⟨he, hI⟩ => ⟨_, _, _, he, hI, Ext.refl _ _ _, rfl, rfl, rfl⟩
  refine Run.call (A := []) fn_x_IndexFunc_Term nm_x_IndexFunc_Term hI1 (IndexFunc_Term_of hcb hrr (st := ()) trivial) fun t10 I' S' w' => ?_
  rintro ⟨rfl, rfl, rfl⟩ _ hI1
  have hI : Inv w X [.blk g (.cells cur t_iTerm)] S w' := hback _ _ hI1
  rw [hcl]
  refine r_eql ?_
  rcases indexF_pure p xs 0 with ⟨h1, h2⟩ | ⟨j0, hj0, h1, h2, h3⟩
  · rw [h1]
    refine condP (fun _ => ?_) (fun hb => absurd rfl hb)
    rw [h2]
    exact hfin _ _ _ _ hI rfl hnc hcell
  rw [h1, Nat.zero_add]
  refine condP (fun hb => by omega) (fun _ => ?_)
  refine r_add (by omega) ?_
  have htk : (xs.take (j0 + 1)).filter (fun x => !p x) = xs.take j0 := by
    rw [List.take_succ_eq_append_getElem hj0, List.filter_append, h3, List.filter_cons, h2]
    simp
  refine ⟨fun a b w' => ∃ (j m : Nat) (c' : Array Value), j0 < j ∧ j ≤ xs.length ∧ a = .int .i64 j ∧ b = .int .i64 m ∧ m < j ∧ m = ((xs.take j).filter fun x => !p x).length ∧ c'.size = cur.size ∧
      (∀ i (h : i < ((xs.take j).filter fun x => !p x).length), RdT S (cellsAt c' (i * 4) 4) ((xs.take j).filter fun x => !p x)[i]) ∧ (∀ i (h : i < xs.length), j ≤ i → RdT S (cellsAt c' (i * 4) 4) xs[i]) ∧ Inv w X [.blk g (.cells c' t_iTerm)] S w',
    fun a _ _ => xs.length - (intOf a).toNat, ⟨j0 + 1, j0, cur, by omega, by omega, by congr 1, rfl, by omega, by rw [htk, List.length_take]; omega, rfl, ?_, fun i hi _ => hcell i hi, hI⟩, ?_⟩
  · rw [htk]
    intro i hi
    rw [List.getElem_take]
    exact hcell i (by simp at hi; omega)
  intro t6 _ _ t5 _ _ _ _ _ _ _ _ _ _ _ _ _ _ _ _ _ _ _ w'
  rintro ⟨j, m, c', hj0j, hj, rfl, rfl, hmj, hm, hcsz, hA, hB, hI⟩
  refine r_len sl_SiTerm ?_
  refine r_lss ?_
  refine condP (fun hji => ?_) (fun hji => ?_)
  · have hj' : j < xs.length := by omega
    have hts : (xs.take (j + 1)).filter (fun x => !p x) = (xs.take j).filter (fun x => !p x) ++ (if p xs[j] = true then [] else [xs[j]]) := by
      rw [List.take_succ_eq_append_getElem hj', List.filter_append, List.filter_cons]
      cases p xs[j] <;> simp
    have hRj := hB j hj' (Nat.le_refl _)
    have hlj := hRj.length
    refine ⟨fun b w' => ∃ (m' : Nat) (c2 : Array Value), b = .int .i64 m' ∧ m' < j + 1 ∧ m' = ((xs.take (j + 1)).filter fun x => !p x).length ∧ c2.size = cur.size ∧
        (∀ i (h : i < ((xs.take (j + 1)).filter fun x => !p x).length), RdT S (cellsAt c2 (i * 4) 4) ((xs.take (j + 1)).filter fun x => !p x)[i]) ∧ (∀ i (h : i < xs.length), j + 1 ≤ i → RdT S (cellsAt c2 (i * 4) 4) xs[i]) ∧ Inv w X [.blk g (.cells c2 t_iTerm)] S w', ?_, ?_⟩
    · refine r_indexAddr sl_SiTerm hj' ?_
      rw [Nat.zero_add]
      refine r_loadLA hI 0 (cellsAt c' (j * 4) 4) ag_iTerm rfl hlj (fun i v hi => cellsAt_get rfl i v hi) ?_
      refine r_alloc hI zo_iTerm fun b7 w' hI => ?_
      refine r_storeW hI 1 rfl ag_iTerm (by simpa using hlj) rfl (by simpa using hRj.one) fun w' hI => ?_
      refine r_loadW hI 1 ag_iTerm rfl (by simpa using hlj) ?_
      refine Run.callVPure hf hn hI (hcall S (Sle.refl S) xs[j] (List.getElem_mem hj') _ hRj) fun w' hI => ?_
      refine r_not ?_
      cases hp : p xs[j]
      · refine condV (fun _ => ?_) (fun hb => by cases hb)
        have htl : (xs.take (j + 1)).filter (fun x => !p x) = (xs.take j).filter (fun x => !p x) ++ [xs[j]] := by rw [hts, hp]; rfl
        refine r_loadW hI 1 ag_iTerm rfl (by simpa using hlj) ?_
        refine r_indexAddr sl_SiTerm (show m < xs.length by omega) ?_
        rw [Nat.zero_add]
        refine r_storeB hI 0 rfl ag_iTerm (by simpa [Value.cells] using hlj) (Nat.ble_eq_true_of_le (by omega)) (by simpa [Value.cells] using hRj.one) fun w' hI => ?_
        refine r_add (by omega) ?_
        refine ⟨m + 1, putCells c' (m * 4) (cellsAt c' (j * 4) 4), by congr 1, by omega, by rw [htl]; simp; omega, ?_, ?_, ?_, hI.pick [true, false]⟩
        · rw [putCells_size _ _ _ (by omega)]; exact hcsz
        · rw [htl]
          intro i hi
          by_cases hi2 : i < ((xs.take j).filter fun x => !p x).length
          · rw [List.getElem_append_left hi2, cellsAt_put_ne (by omega) (by omega)]
            exact hA i hi2
          · have hie : i = m := by simp at hi; omega
            subst hie
            rw [List.getElem_append_right (by omega)]
            have hps := cellsAt_put_self (c := c') (o := i * 4) (vs := cellsAt c' (j * 4) 4) (by omega)
            rw [hlj] at hps
            rw [hps]
            simpa using hRj
        · intro i hi hji2
          rw [cellsAt_put_ne (by omega) (by omega)]
          exact hB i hi (by omega)
      · refine condV (fun hb => by cases hb) (fun _ => ?_)
        have htl : (xs.take (j + 1)).filter (fun x => !p x) = (xs.take j).filter (fun x => !p x) := by rw [hts, hp]; simp
        refine ⟨m, c', rfl, by omega, by rw [htl]; exact hm, hcsz, by rw [htl]; exact hA, fun i hi h2 => hB i hi (by omega), hI.pick [true, false]⟩
    · intro t5 _ _ _ _ _ _ _ _ _ _ _ _ _ _ _ w'
      rintro ⟨m', c2, rfl, hm1, hm2, hcs2, hA2, hB2, hI⟩
      refine r_add (by omega) ?_
      exact ⟨⟨j + 1, m', c2, by omega, hj', by congr 1, rfl, hm1, hm2, hcs2, hA2, hB2, hI⟩, by simp [intOf]; omega⟩
  · have : j = xs.length := by omega
    subst this
    rw [List.take_length] at hm hA
    refine r_slFrom sl_SiTerm (show m ≤ xs.length by omega) ?_
    rw [if_neg (by omega)]
    have ead : (some (⟨g, 0, none⟩ : Addr)).map (·.add (m * 4)) = some ⟨g, m * 4, none⟩ := by rw [Option.map_some, add_lit, Nat.zero_add]
    rw [ead]
    have hzl : (Builtin.zeroCells (Value.agg #[.int .i64 0, .int .i64 0, .string ⟨#[]⟩, .slice none 0 0]).cells (xs.length - m)).toList.length = (xs.length - m) * 4 := by
      rw [Array.length_toList, size_zeroCells]; rfl
    refine r_clear (n := xs.length - m) (o := m * 4) hI 0 mk_SiTerm rfl (by omega) (by omega) ?_ fun w' hI => ?_
    · intro u hu
      simp only [Builtin.zeroCells, Array.toList_map, List.mem_map] at hu
      obtain ⟨q, _, rfl⟩ := hu
      have hq4 : q % (Value.agg #[.int .i64 0, .int .i64 0, .string ⟨#[]⟩, .slice none 0 0]).cells.size < 4 := Nat.mod_lt _ (by decide)
      generalize q % (Value.agg #[.int .i64 0, .int .i64 0, .string ⟨#[]⟩, .slice none 0 0]).cells.size = r at hq4
      match r, hq4 with
      | 0, _ | 1, _ | 2, _ | 3, _ => rfl
    refine r_slTo sl_SiTerm (show m ≤ cp by omega) ?_
    rw [if_neg (by omega)]
    have ead0 : (some (⟨g, 0, none⟩ : Addr)).map (·.add (0 * 4)) = some ⟨g, 0, none⟩ := by rw [Option.map_some, add_lit]
    rw [ead0]
    refine hfin _ _ _ _ hI hm (by omega) fun i hi => ?_
    rw [cellsAt_put_ne (by omega) (by omega)]
    exact hA i hi
end

end Go.Proofs.Ytnoieadimkgjcaa

/- Which clauses can be unfolded: both sides. -/
import Derived.Test.YtnoieadimkgjcaaUnf
namespace Go.Proofs.Ytnoieadimkgjcaa
open Go Go.RowKit
attribute [local irreducible] Run CondV GuardV LoadV

def firstB (c : C) : Bool := match c.body with
  | [] => false
  | g :: _ => plainB g
def cutsB (c : C) : Bool := c.body.any cutB
def cutAt (p : List C) (n : Int) : Bool := match p[n.toNat]? with
  | some c => cutsB c
  | none => false
def forL (p : List C) (g : T) : List Int := posOf (fun c => eqPd (predT c.head) (predT g)) p 0
def unfC (p : List C) (i : Int) (c : C) : Bool := match c.body with
  | [] => false
  | g :: _ => plainB g && (decide (0 < (forL p g).length) && (!cutsB c && (forL p g).all fun n => !(cutAt p n || decide (n = i))))
def unfB (p : List C) (i : Int) : Bool := progB p && (decide (0 ≤ i) && match p[i.toNat]? with
  | none => false
  | some c => unfC p i c)
theorem first_iff {c : C} (h : firstB c = true) : ∃ g gs, c.body = g :: gs ∧ plainB g = true := by
  unfold firstB at h
  split at h
  · cases h
  · exact ⟨_, _, ‹_›, h⟩
theorem unfC_first {p : List C} {i : Int} {c : C} (h : firstB c = false) : unfC p i c = false := by
  unfold firstB at h
  unfold unfC
  split at h
  · rfl
  · simp [h]

theorem s_l15First_calls {c : C} {S : Store} {cs : List Value} (h : RdC S cs c) : Pure Try.prog n_s_l15First [.agg cs.toArray] S (.bool (firstB c)) := by
  intro w hI
  obtain ⟨hd, ks, rfl, h1, h2⟩ := h
  obtain ⟨kv, rfl, _⟩ := RdT.iff.1 h1
  refine calls_s_l15First ?_
  unfold sh_s_l15First
  refine r_box hI fun b1 w' hI => ?_
  refine r_fieldL hI 0 rfl fo_iClause_1 sc_SiTerm rfl ?_
  refine r_lenSl h2 sl_SiTerm ?_
  refine r_gtr ?_
  cases hb : c.body with
  | nil =>
    rw [show decide ((0 : Int) < (([] : List T).length : Int)) = false from rfl]
    repeat (first | refine guard_true ?_ | refine guard_ne (by decide) ?_ | refine guard_undef ?_ | refine r_pickT ?_ | refine r_pickF ?_)
    exact done hI (by rw [firstB, hb])
  | cons g gs =>
    have hlt : 0 < c.body.length := by rw [hb]; simp
    rw [show decide ((0 : Int) < ((g :: gs).length : Int)) = true from decide_eq_true (by simp)]
    repeat (first | refine guard_true ?_ | refine guard_ne (by decide) ?_ | refine guard_undef ?_ | refine r_pickT ?_ | refine r_pickF ?_)
    refine r_fieldL hI 0 rfl fo_iClause_1 sc_SiTerm rfl ?_
    refine r_elem (i := 0) hI h2 sl_SiTerm ag_iTerm hlt (fun _ _ => RdT.length) fun cs' hcs' => ?_
    refine Run.callPure fn_s_l4Plain nm_s_l4Plain hI (l4Plain_calls hcs') fun w' hI => ?_
    repeat (first | refine guard_true ?_ | refine guard_ne (by decide) ?_ | refine guard_undef ?_ | refine r_pickT ?_ | refine r_pickF ?_)
    refine done hI ?_
    rw [firstB]
    simp [hb]
theorem i_firstPlain_calls {c : C} {S : Store} {cs : List Value} (h : RdC S cs c) : Pure Try.prog n_i_firstPlain [.agg cs.toArray] S (.bool (firstB c)) := by
  intro w hI
  obtain ⟨hd, ks, rfl, h1, h2⟩ := h
  obtain ⟨kv, rfl, _⟩ := RdT.iff.1 h1
  refine calls_i_firstPlain ?_
  unfold sh_i_firstPlain
  refine r_box hI fun b1 w' hI => ?_
  refine r_fieldL hI 0 rfl fo_iClause_1 sc_SiTerm rfl ?_
  refine r_lenSl h2 sl_SiTerm ?_
  refine r_gtr ?_
  cases hb : c.body with
  | nil =>
    rw [show decide ((0 : Int) < (([] : List T).length : Int)) = false from rfl]
    repeat (first | refine guard_true ?_ | refine guard_ne (by decide) ?_ | refine guard_undef ?_ | refine r_pickT ?_ | refine r_pickF ?_)
    exact done hI (by rw [firstB, hb])
  | cons g gs =>
    have hlt : 0 < c.body.length := by rw [hb]; simp
    rw [show decide ((0 : Int) < ((g :: gs).length : Int)) = true from decide_eq_true (by simp)]
    repeat (first | refine guard_true ?_ | refine guard_ne (by decide) ?_ | refine guard_undef ?_ | refine r_pickT ?_ | refine r_pickF ?_)
    refine r_fieldL hI 0 rfl fo_iClause_1 sc_SiTerm rfl ?_
    refine r_elem (i := 0) hI h2 sl_SiTerm ag_iTerm hlt (fun _ _ => RdT.length) fun cs' hcs' => ?_
    refine Run.callPure fn_i_isPlain nm_i_isPlain hI (isPlain_calls hcs') fun w' hI => ?_
    repeat (first | refine guard_true ?_ | refine guard_ne (by decide) ?_ | refine guard_undef ?_ | refine r_pickT ?_ | refine r_pickF ?_)
    refine done hI ?_
    rw [firstB]
    simp [hb]

theorem l15Cuts_calls {c : C} {S : Store} {cs : List Value} (h : RdC S cs c) : Pure Try.prog n_s_l15Cuts [.agg cs.toArray] S (.bool (cutsB c)) := by
  intro w hI
  obtain ⟨hd, ks, rfl, h1, h2⟩ := h
  obtain ⟨kv, rfl, _⟩ := RdT.iff.1 h1
  have hlen := h2.le
  simp only [maxLen] at hlen
  refine calls_s_l15Cuts ?_
  unfold sh_s_l15Cuts
  refine r_box hI fun b1 w' hI => ?_
  refine ⟨fun i w' => ∃ j : Nat, j ≤ c.body.length ∧ i = .int .i64 j ∧ (c.body.drop j).any cutB = cutsB c ∧ Inv w [] [.blk b1 (.cells #[.int .i64 c.head.kind, .int .i64 c.head.n, .string c.head.name, kv, ks] t_iClause)] S w',
    fun i _ => c.body.length - (intOf i).toNat, ⟨0, Nat.zero_le _, rfl, rfl, hI⟩, ?_⟩
  intro t3 _ _ _ _ _ _ _ _ _ _ _ _ _ _ w'
  rintro ⟨j, hj, rfl, hrel, hI⟩
  refine r_fieldL hI 0 rfl fo_iClause_1 sc_SiTerm rfl ?_
  refine r_lenSl h2 sl_SiTerm ?_
  refine r_lss ?_
  refine condP (fun hji => ?_) (fun hji => ?_)
  · have hj' : j < c.body.length := by omega
    have hstep := any_drop cutB c.body j hj'
    refine r_fieldL hI 0 rfl fo_iClause_1 sc_SiTerm rfl ?_
    refine r_elem hI h2 sl_SiTerm ag_iTerm hj' (fun _ _ => RdT.length) fun cs' hcs' => ?_
    refine Run.callPure fn_s_l4Cut nm_s_l4Cut hI (l4Cut_calls hcs') fun w' hI => ?_
    refine condV (fun hb => done hI ?_) (fun hb => ?_)
    · rw [← hrel, hstep, hb]; rfl
    · refine r_add (by omega) ?_
      exact ⟨⟨j + 1, hj', rfl, by rw [← hrel, hstep, hb]; rfl, hI⟩, by simp [intOf]; omega⟩
  · have : j = c.body.length := by omega
    subst this
    exact done hI (by rw [← hrel, List.drop_length]; rfl)
theorem hasCut_calls {c : C} {S : Store} {cs : List Value} (h : RdC S cs c) : Pure Try.prog n_i_hasCut [.agg cs.toArray] S (.bool (cutsB c)) := by
  intro w hI
  obtain ⟨hd, ks, rfl, h1, h2⟩ := h
  obtain ⟨kv, rfl, _⟩ := RdT.iff.1 h1
  refine calls_i_hasCut ?_
  unfold sh_i_hasCut
  refine r_box hI fun b1 w' hI => ?_
  refine r_fieldL hI 0 rfl fo_iClause_1 sc_SiTerm rfl ?_
  have hcb : Cb Try.prog n_i_isCut _ [] S (fun _ : Unit => []) (fun _ => True) (fun _ x => (cutB x, ())) (fun v x => ∃ cs, v = .agg cs.toArray ∧ RdT S cs x) c.body :=
    Cb.pure [] fn_i_isCut nm_i_isCut fun x v _ => by
      rintro ⟨cs, rfl, hcs⟩ w1 hI
      exact (isCut_calls hcs w1 hI).mono fun e w' ⟨he, hI⟩ => ⟨_, _, _, he, hI, Ext.refl _ _ _, rfl, rfl, rfl⟩
  refine Run.call0 fn_x_ContainsFunc_Term nm_x_ContainsFunc_Term hI (ContainsFunc_Term_of hcb h2 (st := ()) trivial) fun v' I' S' w' => ?_
  rintro ⟨rfl, rfl, rfl⟩ _ hI
  refine done hI ?_
  rw [anyF_pure cutB c.body]; rfl

theorem sCanUnfold_calls {p : List C} {S : Store} {v : Value} (i : Int) (h : RdSl S 5 (RdC S) v p) (hw : p.length + wP p ≤ 1048576) : Pure Try.prog n_s_CanUnfold [v, .int .i64 i] S (.bool (unfB p i)) := by
  intro w hI
  refine calls_s_CanUnfold ?_
  unfold sh_s_CanUnfold
  refine ⟨fun t w' => ∃ q, t = .bool q ∧ (q = true → unfB p i = false) ∧ (q = false → progB p = true ∧ ∃ (k : Nat) (hk : k < p.length), i = k ∧ firstB p[k] = true) ∧ Inv w [] [] S w', ?_, ?_⟩
  · refine Run.callPure fn_s_ProgramValid nm_s_ProgramValid hI (s_ProgramValid_calls h (by omega)) fun w' hI => ?_
    refine r_not ?_
    cases hv : progB p
    · repeat (first | refine guard_true ?_ | refine guard_ne (by decide) ?_ | refine guard_undef ?_ | refine r_pickT ?_ | refine r_pickF ?_)
      exact ⟨true, rfl, fun _ => by rw [unfB, hv]; rfl, fun h => Bool.noConfusion h, hI⟩
    · repeat (first | refine guard_true ?_ | refine guard_ne (by decide) ?_ | refine guard_undef ?_ | refine r_pickT ?_ | refine r_pickF ?_)
      refine r_lss ?_
      by_cases h0 : i < 0
      · rw [decide_eq_true h0]
        repeat (first | refine guard_true ?_ | refine guard_ne (by decide) ?_ | refine guard_undef ?_ | refine r_pickT ?_ | refine r_pickF ?_)
        exact ⟨true, rfl, fun _ => by rw [unfB, hv, decide_eq_false (show ¬ 0 ≤ i by omega)]; rfl, fun h => Bool.noConfusion h, hI⟩
      · rw [decide_eq_false h0]
        repeat (first | refine guard_true ?_ | refine guard_ne (by decide) ?_ | refine guard_undef ?_ | refine r_pickT ?_ | refine r_pickF ?_)
        refine r_lenSl h sl_SiClause ?_
        refine r_geq ?_
        by_cases h1 : (p.length : Int) ≤ i
        · rw [decide_eq_true h1]
          repeat (first | refine guard_true ?_ | refine guard_ne (by decide) ?_ | refine guard_undef ?_ | refine r_pickT ?_ | refine r_pickF ?_)
          refine ⟨true, rfl, fun _ => ?_, fun h => Bool.noConfusion h, hI⟩
          rw [unfB, hv, List.getElem?_eq_none (by omega)]; simp
        · rw [decide_eq_false h1]
          repeat (first | refine guard_true ?_ | refine guard_ne (by decide) ?_ | refine guard_undef ?_ | refine r_pickT ?_ | refine r_pickF ?_)
          obtain ⟨k, rfl⟩ : ∃ k : Nat, i = k := ⟨i.toNat, by omega⟩
          have hk : k < p.length := by omega
          refine r_elem hI h sl_SiClause ag_iClause hk (fun _ _ => RdC.length) fun cs' hcs' => ?_
          refine Run.callPure fn_s_l15First nm_s_l15First hI (s_l15First_calls hcs') fun w' hI => ?_
          refine r_not ?_
          repeat (first | refine guard_true ?_ | refine guard_ne (by decide) ?_ | refine guard_undef ?_ | refine r_pickT ?_ | refine r_pickF ?_)
          refine ⟨_, rfl, fun hq => ?_, fun hq => ⟨rfl, k, hk, rfl, by simpa using hq⟩, hI⟩
          have hq' : firstB p[k] = false := by simpa using hq
          rw [unfB, hv, Int.toNat_natCast, List.getElem?_eq_getElem hk]
          simp [unfC_first hq']
  intro t _ _ _ _ _ _ _ _ _ _ _ _ _ _ _ _ _ _ _ _ w'
  rintro ⟨q, rfl, hq1, hq2, hI⟩
  refine condV (fun hb => done hI (by rw [hq1 hb])) (fun hb => ?_)
  obtain ⟨hpv, k, hk, rfl, hfst⟩ := hq2 hb
  obtain ⟨g, gs, hbd, hpl⟩ := first_iff hfst
  have hbl : 0 < p[k].body.length := by rw [hbd]; simp
  have hg0 : p[k].body[0] = g := by simp [hbd]
  have hu : unfB p k = (decide (0 < (forL p g).length) && (!cutsB p[k] && (forL p g).all fun n => !(cutAt p n || decide (n = (k : Int))))) := by
    rw [unfB, hpv, Int.toNat_natCast, List.getElem?_eq_getElem hk]
    simp only [unfC, hbd, hpl]
    rw [decide_eq_true (show (0 : Int) ≤ k by omega)]
    simp
  refine r_elemX hI h sl_SiClause fo_iClause_1 sc_SiTerm hk fun cs' hcs' => ?_
  obtain ⟨hd, ks, rfl, h1, h2⟩ := hcs'
  obtain ⟨kv, rfl, _⟩ := RdT.iff.1 h1
  refine ⟨ks, rfl, ?_⟩
  refine r_elem (i := 0) hI h2 sl_SiTerm ag_iTerm hbl (fun _ _ => RdT.length) fun cs' hcs' => ?_
  rw [hg0] at hcs'
  refine Run.call0 fn_s_l4For nm_s_l4For hI (l4For_calls h hcs' (by omega)) fun v1 I' S w' => ?_
  rintro ⟨rfl, rfl⟩ _ hI
  have hI : Inv w [] ([] ++ [rowI v1 (forL p g)]) S w' := hI
  obtain ⟨S1, hle, hrd, hI, _⟩ := hI.lend
  have hr := hrd.ints
  have h' := h.monoC hle
  have hmem : ∀ n ∈ forL p g, ∃ (j : Nat) (hj : j < p.length), n = j := by
    intro n hn
    obtain ⟨j, _, h2, h3, _⟩ := posOf_at _ p 0 n hn
    exact ⟨j, h3, by omega⟩
  have hll : (forL p g).length ≤ p.length := posOf_len _ p 0
  generalize forL p g = l at hr hu hmem hll
  refine ⟨fun i w' => ∃ j : Nat, j ≤ l.length ∧ i = .int .i64 j ∧ (l.drop j).all (fun n => !(cutAt p n || decide (n = (k : Int)))) = l.all (fun n => !(cutAt p n || decide (n = (k : Int)))) ∧ Inv w [] [] S1 w',
    fun i _ => l.length - (intOf i).toNat, ⟨0, Nat.zero_le _, rfl, rfl, hI⟩, ?_⟩
  intro t6 _ _ _ _ _ _ _ _ _ _ _ _ _ _ _ _ _ _ _ _ _ _ _ w'
  rintro ⟨j, hj, rfl, hall, hI⟩
  refine r_lenSl hr sl_Sint ?_
  refine r_lss ?_
  refine condP (fun hji => ?_) (fun hji => ?_)
  · have hj' : j < l.length := by omega
    have hstep := all_drop (fun n => !(cutAt p n || decide (n = (k : Int)))) l j hj'
    obtain ⟨m, hm, hlm⟩ := hmem _ (List.getElem_mem hj')
    have hcm : cutAt p l[j] = cutsB p[m] := by
      rw [cutAt, hlm, Int.toNat_natCast, List.getElem?_eq_getElem hm]
    refine ⟨fun t w' => t = .bool (cutsB p[m] || decide ((m : Int) = k)) ∧ Inv w [] [] S1 w', ?_, ?_⟩
    · refine r_elem1 hI hr sl_Sint sc_int hj' (fun cs hcs => hcs) ?_
      rw [hlm]
      refine r_elem hI h' sl_SiClause ag_iClause hm (fun _ _ => RdC.length) fun cs' hcs' => ?_
      refine Run.callPure fn_s_l15Cuts nm_s_l15Cuts hI (l15Cuts_calls hcs') fun w' hI => ?_
      cases hc : cutsB p[m]
      · repeat (first | refine guard_true ?_ | refine guard_ne (by decide) ?_ | refine guard_undef ?_ | refine r_pickT ?_ | refine r_pickF ?_)
        refine r_elem1 hI hr sl_Sint sc_int hj' (fun cs hcs => hcs) ?_
        rw [hlm]
        refine r_eql ?_
        repeat (first | refine guard_true ?_ | refine guard_ne (by decide) ?_ | refine guard_undef ?_ | refine r_pickT ?_ | refine r_pickF ?_)
        exact ⟨rfl, hI⟩
      · repeat (first | refine guard_true ?_ | refine guard_ne (by decide) ?_ | refine guard_undef ?_ | refine r_pickT ?_ | refine r_pickF ?_)
        exact ⟨rfl, hI⟩
    intro t _ _ _ _ _ _ _ _ _ _ _ _ _ _ _ w'
    rintro ⟨rfl, hI⟩
    refine condV (fun hb => doneS hI hle ?_) (fun hb => ?_)
    · have : l.all (fun n => !(cutAt p n || decide (n = (k : Int)))) = false := by
        rw [← hall, hstep, hcm, hlm, hb]; rfl
      rw [hu, this]; simp
    · refine r_add (by omega) ?_
      exact ⟨⟨j + 1, hj', rfl, by rw [← hall, hstep, hcm, hlm, hb]; rfl, hI⟩, by simp [intOf]; omega⟩
  · have : j = l.length := by omega
    subst this
    have hall' : l.all (fun n => !(cutAt p n || decide (n = (k : Int)))) = true := by rw [← hall, List.drop_length]; rfl
    refine r_lenSl hr sl_Sint ?_
    refine r_gtr ?_
    rw [hu, hall']
    by_cases hl0 : 0 < l.length
    · rw [decide_eq_true hl0, decide_eq_true (show (0 : Int) < l.length by omega)]
      repeat (first | refine guard_true ?_ | refine guard_ne (by decide) ?_ | refine guard_undef ?_ | refine r_pickT ?_ | refine r_pickF ?_)
      refine r_elem hI h' sl_SiClause ag_iClause hk (fun _ _ => RdC.length) fun cs' hcs' => ?_
      refine Run.callPure fn_s_l15Cuts nm_s_l15Cuts hI (l15Cuts_calls hcs') fun w' hI => ?_
      refine r_not ?_
      repeat (first | refine guard_true ?_ | refine guard_ne (by decide) ?_ | refine guard_undef ?_ | refine r_pickT ?_ | refine r_pickF ?_)
      exact doneS hI hle (by simp)
    · rw [decide_eq_false hl0, decide_eq_false (show ¬ (0 : Int) < l.length by omega)]
      repeat (first | refine guard_true ?_ | refine guard_ne (by decide) ?_ | refine guard_undef ?_ | refine r_pickT ?_ | refine r_pickF ?_)
      exact doneS hI hle rfl

end Go.Proofs.Ytnoieadimkgjcaa

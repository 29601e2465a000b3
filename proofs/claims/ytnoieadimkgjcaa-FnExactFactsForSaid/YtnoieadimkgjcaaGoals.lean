/- Goals, clauses, programs, queries: which are valid, on both sides. -/
import Derived.Test.YtnoieadimkgjcaaImplV
namespace Go.Proofs.Ytnoieadimkgjcaa
open Go Go.RowKit
section
variable {P : Program} {w : World} {K : Value → World → Prop} {ty : TypeId}
theorem guard_undef {b : Bool} {A B : Prop} (h : B) : GuardV undef b A B := by unfold GuardV; exact h
theorem r_pickT {v u : Value} (hk : K v w) : Run P (sOp (.pick (.const (.bool true)) (.const v) (.const u)) ty) w K := r_pick hk
theorem r_pickF {v u : Value} (hk : K u w) : Run P (sOp (.pick (.const (.bool false)) (.const v) (.const u)) ty) w K := r_pick hk
end
attribute [local irreducible] Run CondV GuardV LoadV

def cmps : List ByteArray := [⟨#[61]⟩, ⟨#[92, 61]⟩, ⟨#[61, 61]⟩, ⟨#[60]⟩, ⟨#[62]⟩, ⟨#[61, 60]⟩, ⟨#[62, 61]⟩, ⟨#[61, 58, 61]⟩, ⟨#[105, 115]⟩]
def consts : List ByteArray := [⟨#[116, 114, 117, 101]⟩, ⟨#[102, 97, 105, 108]⟩]
def tests : List ByteArray := [⟨#[118, 97, 114]⟩, ⟨#[110, 111, 110, 118, 97, 114]⟩, ⟨#[97, 116, 111, 109]⟩, ⟨#[105, 110, 116]⟩]
def sums : List ByteArray := [⟨#[43]⟩, ⟨#[45]⟩]
def prods : List ByteArray := [⟨#[42]⟩, ⟨#[47, 47]⟩, ⟨#[109, 111, 100]⟩]
def isIn (s : ByteArray) (l : List ByteArray) : Bool := l.any fun x => decide (s = x)
def builtB (s : ByteArray) (n : Int) : Bool :=
  if isIn s cmps = true then decide (n = 2)
  else if isIn s consts = true then decide (n = 0)
  else if isIn s tests = true then decide (n = 1)
  else if s = ⟨#[97, 114, 103]⟩ then decide (n = 3)
  else false
def levelN (s : ByteArray) : Int := if isIn s cmps = true then 3 else if isIn s sums = true then 2 else if isIn s prods = true then 1 else 0
def cutB (t : T) : Bool := decide (t.kind = 3) && (decide (t.name = ⟨#[33]⟩) && decide (t.kids.length = 0))
def atomB (t : T) : Bool := decide (t.kind = 3) && decide (t.kids.length = 0)
def builtT (t : T) : Bool := decide (t.kind = 3) && builtB t.name t.kids.length
def plainB (t : T) : Bool := decide (t.kind = 3) && (wordB t.name && (!builtB t.name t.kids.length && decide (levelN t.name = 0)))
def goalB (t : T) : Bool := validB t && (cutB t || (plainB t || builtT t))
def clauseB (c : C) : Bool := decide (c.body.length ≤ 6) && (c.body.all goalB && (validB c.head && plainB c.head))
def queryB (l : List T) : Bool := decide (l.length ≤ 6) && l.all goalB
def progB (p : List C) : Bool := decide (p.length ≤ 20) && p.all clauseB
theorem level_pos (s : ByteArray) : (!decide (0 < levelN s)) = decide (levelN s = 0) := by
  unfold levelN
  split
  · rfl
  · split
    · rfl
    · split <;> rfl

theorem sIsBuiltin_calls (s : ByteArray) (n : Int) (S : Store) : Pure Try.prog n_s_IsBuiltin [.string s, .int .i64 n] S (.bool (builtB s n)) := by
  intro w hI
  refine calls_s_IsBuiltin ?_
  unfold sh_s_IsBuiltin
  obtain ⟨q, hq⟩ : ∃ q, isIn s cmps = q := ⟨_, rfl⟩
  have hq1 := hq
  refine ⟨fun t w' => t = .bool q ∧ Inv w [] [] S w', ?_, ?_⟩
  · unfold isIn cmps at hq
    iterate 8
      refine r_seql ?_
      refine condV (fun h => ⟨by rw [List.any_cons, h] at hq; rw [h, ← hq]; rfl, hI⟩) (fun h => ?_)
      rw [List.any_cons, h, Bool.false_or] at hq
    refine r_seql ⟨?_, hI⟩
    rw [← hq]; simp
  intro t _ _ _ _ _ _ _ _ _ w'
  rintro ⟨rfl, hI⟩
  refine condV (fun h => ?_) (fun h => ?_)
  · exact r_eql (done hI (by rw [builtB, if_pos (hq1.trans h)]))
  have e1 : builtB s n = if isIn s consts = true then decide (n = 0) else if isIn s tests = true then decide (n = 1) else if s = ⟨#[97, 114, 103]⟩ then decide (n = 3) else false := by
    rw [builtB, if_neg (by rw [hq1, h]; decide)]
  clear hq hq1 h
  obtain ⟨q, hq⟩ : ∃ q, isIn s consts = q := ⟨_, rfl⟩
  have hq1 := hq
  refine ⟨fun t w' => t = .bool q ∧ Inv w [] [] S w', ?_, ?_⟩
  · unfold isIn consts at hq
    refine r_seql ?_
    refine condV (fun h => ⟨by rw [List.any_cons, h] at hq; rw [h, ← hq]; rfl, hI⟩) (fun h => ?_)
    rw [List.any_cons, h, Bool.false_or] at hq
    refine r_seql ⟨?_, hI⟩
    rw [← hq]; simp
  intro _ t _ w'
  rintro ⟨rfl, hI⟩
  refine condV (fun h => ?_) (fun h => ?_)
  · exact r_eql (done hI (by rw [e1, if_pos (hq1.trans h)]))
  rw [if_neg (by rw [hq1, h]; decide)] at e1
  clear hq hq1 h
  obtain ⟨q, hq⟩ : ∃ q, isIn s tests = q := ⟨_, rfl⟩
  have hq1 := hq
  refine ⟨fun t w' => t = .bool q ∧ Inv w [] [] S w', ?_, ?_⟩
  · unfold isIn tests at hq
    iterate 3
      refine r_seql ?_
      refine condV (fun h => ⟨by rw [List.any_cons, h] at hq; rw [h, ← hq]; rfl, hI⟩) (fun h => ?_)
      rw [List.any_cons, h, Bool.false_or] at hq
    refine r_seql ⟨?_, hI⟩
    rw [← hq]; simp
  intro _ _ _ t _ w'
  rintro ⟨rfl, hI⟩
  refine condV (fun h => ?_) (fun h => ?_)
  · exact r_eql (done hI (by rw [e1, if_pos (hq1.trans h)]))
  rw [if_neg (by rw [hq1, h]; decide)] at e1
  refine r_seql ?_
  refine condP (fun h => ?_) (fun h => ?_)
  · exact r_eql (done hI (by rw [e1, if_pos h]))
  · exact done hI (by rw [e1, if_neg h])
theorem iIsBuiltin_calls (s : ByteArray) (n : Int) (S : Store) : Pure Try.prog n_i_IsBuiltin [.string s, .int .i64 n] S (.bool (builtB s n)) := by
  intro w hI
  refine calls_i_IsBuiltin ?_
  unfold sh_i_IsBuiltin
  obtain ⟨q, hq⟩ : ∃ q, isIn s cmps = q := ⟨_, rfl⟩
  have hq1 := hq
  refine ⟨fun t w' => t = .bool q ∧ Inv w [] [] S w', ?_, ?_⟩
  · unfold isIn cmps at hq
    iterate 8
      refine r_seql ?_
      refine condV (fun h => ⟨by rw [List.any_cons, h] at hq; rw [h, ← hq]; rfl, hI⟩) (fun h => ?_)
      rw [List.any_cons, h, Bool.false_or] at hq
    refine r_seql ⟨?_, hI⟩
    rw [← hq]; simp
  intro t _ _ _ _ _ _ _ _ _ w'
  rintro ⟨rfl, hI⟩
  refine condV (fun h => ?_) (fun h => ?_)
  · exact r_eql (done hI (by rw [builtB, if_pos (hq1.trans h)]))
  have e1 : builtB s n = if isIn s consts = true then decide (n = 0) else if isIn s tests = true then decide (n = 1) else if s = ⟨#[97, 114, 103]⟩ then decide (n = 3) else false := by
    rw [builtB, if_neg (by rw [hq1, h]; decide)]
  clear hq hq1 h
  obtain ⟨q, hq⟩ : ∃ q, isIn s consts = q := ⟨_, rfl⟩
  have hq1 := hq
  refine ⟨fun t w' => t = .bool q ∧ Inv w [] [] S w', ?_, ?_⟩
  · unfold isIn consts at hq
    refine r_seql ?_
    refine condV (fun h => ⟨by rw [List.any_cons, h] at hq; rw [h, ← hq]; rfl, hI⟩) (fun h => ?_)
    rw [List.any_cons, h, Bool.false_or] at hq
    refine r_seql ⟨?_, hI⟩
    rw [← hq]; simp
  intro _ t _ w'
  rintro ⟨rfl, hI⟩
  refine condV (fun h => ?_) (fun h => ?_)
  · exact r_eql (done hI (by rw [e1, if_pos (hq1.trans h)]))
  rw [if_neg (by rw [hq1, h]; decide)] at e1
  clear hq hq1 h
  obtain ⟨q, hq⟩ : ∃ q, isIn s tests = q := ⟨_, rfl⟩
  have hq1 := hq
  refine ⟨fun t w' => t = .bool q ∧ Inv w [] [] S w', ?_, ?_⟩
  · unfold isIn tests at hq
    iterate 3
      refine r_seql ?_
      refine condV (fun h => ⟨by rw [List.any_cons, h] at hq; rw [h, ← hq]; rfl, hI⟩) (fun h => ?_)
      rw [List.any_cons, h, Bool.false_or] at hq
    refine r_seql ⟨?_, hI⟩
    rw [← hq]; simp
  intro _ _ _ t _ w'
  rintro ⟨rfl, hI⟩
  refine condV (fun h => ?_) (fun h => ?_)
  · exact r_eql (done hI (by rw [e1, if_pos (hq1.trans h)]))
  rw [if_neg (by rw [hq1, h]; decide)] at e1
  refine r_seql ?_
  refine condP (fun h => ?_) (fun h => ?_)
  · exact r_eql (done hI (by rw [e1, if_pos h]))
  · exact done hI (by rw [e1, if_neg h])

theorem s_l2Level_calls (s : ByteArray) (S : Store) : Pure Try.prog n_s_l2Level [.string s] S (.int .i64 (levelN s)) := by
  intro w hI
  refine calls_s_l2Level ?_
  unfold sh_s_l2Level
  obtain ⟨q, hq⟩ : ∃ q, isIn s cmps = q := ⟨_, rfl⟩
  have hq1 := hq
  refine ⟨fun t w' => t = .bool q ∧ Inv w [] [] S w', ?_, ?_⟩
  · unfold isIn cmps at hq
    iterate 8
      refine r_seql ?_
      refine condV (fun h => ⟨by rw [List.any_cons, h] at hq; rw [h, ← hq]; rfl, hI⟩) (fun h => ?_)
      rw [List.any_cons, h, Bool.false_or] at hq
    refine r_seql ⟨?_, hI⟩
    rw [← hq]; simp
  intro _ _ _ _ _ _ _ _ t _ w'
  rintro ⟨rfl, hI⟩
  refine condV (fun h => ?_) (fun h => ?_)
  · exact done hI (by rw [show levelN s = 3 from if_pos (hq1.trans h)] <;> rfl)
  have e1 : levelN s = if isIn s sums = true then 2 else if isIn s prods = true then 1 else 0 := by
    rw [levelN, if_neg (by rw [hq1, h]; decide)]
  clear hq hq1 h
  obtain ⟨q, hq⟩ : ∃ q, isIn s sums = q := ⟨_, rfl⟩
  have hq1 := hq
  refine ⟨fun t w' => t = .bool q ∧ Inv w [] [] S w', ?_, ?_⟩
  · unfold isIn sums at hq
    refine r_seql ?_
    refine condV (fun h => ⟨by rw [List.any_cons, h] at hq; rw [h, ← hq]; rfl, hI⟩) (fun h => ?_)
    rw [List.any_cons, h, Bool.false_or] at hq
    refine r_seql ⟨?_, hI⟩
    rw [← hq]; simp
  intro _ t _ w'
  rintro ⟨rfl, hI⟩
  refine condV (fun h => ?_) (fun h => ?_)
  · exact done hI (by rw [show levelN s = 2 from e1.trans (if_pos (hq1.trans h))] <;> rfl)
  rw [if_neg (by rw [hq1, h]; decide)] at e1
  clear hq hq1 h
  obtain ⟨q, hq⟩ : ∃ q, isIn s prods = q := ⟨_, rfl⟩
  have hq1 := hq
  refine ⟨fun t w' => t = .bool q ∧ Inv w [] [] S w', ?_, ?_⟩
  · unfold isIn prods at hq
    iterate 2
      refine r_seql ?_
      refine condV (fun h => ⟨by rw [List.any_cons, h] at hq; rw [h, ← hq]; rfl, hI⟩) (fun h => ?_)
      rw [List.any_cons, h, Bool.false_or] at hq
    refine r_seql ⟨?_, hI⟩
    rw [← hq]; simp
  intro _ _ t _ w'
  rintro ⟨rfl, hI⟩
  refine condV (fun h => ?_) (fun h => ?_)
  · exact done hI (by rw [show levelN s = 1 from e1.trans (if_pos (hq1.trans h))] <;> rfl)
  · exact done hI (by rw [show levelN s = 0 from e1.trans (if_neg (by rw [hq1, h]; decide))] <;> rfl)
theorem i_OpLevel_calls (s : ByteArray) (S : Store) : Pure Try.prog n_i_OpLevel [.string s] S (.tuple #[.int .i64 (levelN s), .bool (decide (levelN s = 1) || decide (levelN s = 2))]) := by
  intro w hI
  refine calls_i_OpLevel ?_
  unfold sh_i_OpLevel
  obtain ⟨q, hq⟩ : ∃ q, isIn s cmps = q := ⟨_, rfl⟩
  have hq1 := hq
  refine ⟨fun t w' => t = .bool q ∧ Inv w [] [] S w', ?_, ?_⟩
  · unfold isIn cmps at hq
    iterate 8
      refine r_seql ?_
      refine condV (fun h => ⟨by rw [List.any_cons, h] at hq; rw [h, ← hq]; rfl, hI⟩) (fun h => ?_)
      rw [List.any_cons, h, Bool.false_or] at hq
    refine r_seql ⟨?_, hI⟩
    rw [← hq]; simp
  intro _ _ _ _ _ _ _ _ t _ w'
  rintro ⟨rfl, hI⟩
  refine condV (fun h => ?_) (fun h => ?_)
  · exact done hI (by rw [show levelN s = 3 from if_pos (hq1.trans h)] <;> rfl)
  have e1 : levelN s = if isIn s sums = true then 2 else if isIn s prods = true then 1 else 0 := by
    rw [levelN, if_neg (by rw [hq1, h]; decide)]
  clear hq hq1 h
  obtain ⟨q, hq⟩ : ∃ q, isIn s sums = q := ⟨_, rfl⟩
  have hq1 := hq
  refine ⟨fun t w' => t = .bool q ∧ Inv w [] [] S w', ?_, ?_⟩
  · unfold isIn sums at hq
    refine r_seql ?_
    refine condV (fun h => ⟨by rw [List.any_cons, h] at hq; rw [h, ← hq]; rfl, hI⟩) (fun h => ?_)
    rw [List.any_cons, h, Bool.false_or] at hq
    refine r_seql ⟨?_, hI⟩
    rw [← hq]; simp
  intro _ t _ w'
  rintro ⟨rfl, hI⟩
  refine condV (fun h => ?_) (fun h => ?_)
  · exact done hI (by rw [show levelN s = 2 from e1.trans (if_pos (hq1.trans h))] <;> rfl)
  rw [if_neg (by rw [hq1, h]; decide)] at e1
  clear hq hq1 h
  obtain ⟨q, hq⟩ : ∃ q, isIn s prods = q := ⟨_, rfl⟩
  have hq1 := hq
  refine ⟨fun t w' => t = .bool q ∧ Inv w [] [] S w', ?_, ?_⟩
  · unfold isIn prods at hq
    iterate 2
      refine r_seql ?_
      refine condV (fun h => ⟨by rw [List.any_cons, h] at hq; rw [h, ← hq]; rfl, hI⟩) (fun h => ?_)
      rw [List.any_cons, h, Bool.false_or] at hq
    refine r_seql ⟨?_, hI⟩
    rw [← hq]; simp
  intro _ _ t _ w'
  rintro ⟨rfl, hI⟩
  refine condV (fun h => ?_) (fun h => ?_)
  · exact done hI (by rw [show levelN s = 1 from e1.trans (if_pos (hq1.trans h))] <;> rfl)
  · exact done hI (by rw [show levelN s = 0 from e1.trans (if_neg (by rw [hq1, h]; decide))] <;> rfl)

theorem l4Cut_calls {t : T} {S : Store} {cs : List Value} (h : RdT S cs t) : Pure Try.prog n_s_l4Cut [.agg cs.toArray] S (.bool (cutB t)) := by
  intro w hI
  obtain ⟨kv, rfl, _, _, hs, hks⟩ := RdT.iff.1 h
  obtain ⟨k, n, s, ks⟩ := t
  simp only [T.name, T.kids, T.kind, T.n] at hs hks ⊢
  refine calls_s_l4Cut ?_
  unfold sh_s_l4Cut
  refine r_box hI fun b1 w' hI => ?_
  refine r_fieldL hI 0 rfl fo_iTerm_0 sc_int rfl ?_
  refine r_eql ?_
  rw [show cutB (.mk k n s ks) = (decide (k = 3) && (decide (s = ⟨#[33]⟩) && decide (ks.length = 0))) from rfl]
  cases h1 : decide (k = 3)
  · repeat (first | refine guard_true ?_ | refine guard_ne (by decide) ?_ | refine guard_undef ?_ | refine r_pickT ?_ | refine r_pickF ?_)
    exact done hI rfl
  · repeat (first | refine guard_true ?_ | refine guard_ne (by decide) ?_ | refine guard_undef ?_ | refine r_pickT ?_ | refine r_pickF ?_)
    refine r_fieldL hI 0 rfl fo_iTerm_2 sc_string rfl ?_
    refine r_seql ?_
    cases h2 : decide (s = ⟨#[33]⟩)
    · repeat (first | refine guard_true ?_ | refine guard_ne (by decide) ?_ | refine guard_undef ?_ | refine r_pickT ?_ | refine r_pickF ?_)
      exact done hI rfl
    · repeat (first | refine guard_true ?_ | refine guard_ne (by decide) ?_ | refine guard_undef ?_ | refine r_pickT ?_ | refine r_pickF ?_)
      refine r_fieldL hI 0 rfl fo_iTerm_3 sc_SiTerm rfl ?_
      refine r_lenSl hks sl_SiTerm ?_
      refine r_eql ?_
      repeat (first | refine guard_true ?_ | refine guard_ne (by decide) ?_ | refine guard_undef ?_ | refine r_pickT ?_ | refine r_pickF ?_)
      exact done hI (by simp)

theorem l4Plain_calls {t : T} {S : Store} {cs : List Value} (h : RdT S cs t) : Pure Try.prog n_s_l4Plain [.agg cs.toArray] S (.bool (plainB t)) := by
  intro w hI
  obtain ⟨kv, rfl, _, _, hs, hks⟩ := RdT.iff.1 h
  obtain ⟨k, n, s, ks⟩ := t
  simp only [T.name, T.kids, T.kind, T.n] at hs hks ⊢
  refine calls_s_l4Plain ?_
  unfold sh_s_l4Plain
  refine r_box hI fun b1 w' hI => ?_
  refine r_fieldL hI 0 rfl fo_iTerm_0 sc_int rfl ?_
  refine r_eql ?_
  rw [show plainB (.mk k n s ks) = (decide (k = 3) && (wordB s && (!builtB s ks.length && decide (levelN s = 0)))) from rfl]
  cases h1 : decide (k = 3)
  · repeat (first | refine guard_true ?_ | refine guard_ne (by decide) ?_ | refine guard_undef ?_ | refine r_pickT ?_ | refine r_pickF ?_)
    exact done hI rfl
  · repeat (first | refine guard_true ?_ | refine guard_ne (by decide) ?_ | refine guard_undef ?_ | refine r_pickT ?_ | refine r_pickF ?_)
    refine r_fieldL hI 0 rfl fo_iTerm_2 sc_string rfl ?_
    refine Run.callPure fn_s_l1Word nm_s_l1Word hI (l1Word_calls s hs S) fun w' hI => ?_
    cases h2 : wordB s
    · repeat (first | refine guard_true ?_ | refine guard_ne (by decide) ?_ | refine guard_undef ?_ | refine r_pickT ?_ | refine r_pickF ?_)
      exact done hI rfl
    · repeat (first | refine guard_true ?_ | refine guard_ne (by decide) ?_ | refine guard_undef ?_ | refine r_pickT ?_ | refine r_pickF ?_)
      refine r_fieldL hI 0 rfl fo_iTerm_2 sc_string rfl ?_
      refine r_fieldL hI 0 rfl fo_iTerm_3 sc_SiTerm rfl ?_
      refine r_lenSl hks sl_SiTerm ?_
      refine Run.callPure fn_s_IsBuiltin nm_s_IsBuiltin hI (sIsBuiltin_calls s _ S) fun w' hI => ?_
      refine r_not ?_
      cases h3 : builtB s ks.length
      · repeat (first | refine guard_true ?_ | refine guard_ne (by decide) ?_ | refine guard_undef ?_ | refine r_pickT ?_ | refine r_pickF ?_)
        refine r_fieldL hI 0 rfl fo_iTerm_2 sc_string rfl ?_
        refine Run.callPure fn_s_l2Level nm_s_l2Level hI (s_l2Level_calls s S) fun w' hI => ?_
        refine r_eql ?_
        repeat (first | refine guard_true ?_ | refine guard_ne (by decide) ?_ | refine guard_undef ?_ | refine r_pickT ?_ | refine r_pickF ?_)
        exact done hI rfl
      · repeat (first | refine guard_true ?_ | refine guard_ne (by decide) ?_ | refine guard_undef ?_ | refine r_pickT ?_ | refine r_pickF ?_)
        exact done hI rfl

theorem l4Goal_calls {t : T} {S : Store} {cs : List Value} (h : RdT S cs t) : Pure Try.prog n_s_l4Goal [.agg cs.toArray] S (.bool (cutB t || (plainB t || builtT t))) := by
  intro w hI
  have h0 := h
  obtain ⟨kv, rfl, _, _, hs, hks⟩ := RdT.iff.1 h
  obtain ⟨k, n, s, ks⟩ := t
  simp only [T.name, T.kids, T.kind, T.n] at h0 hs hks ⊢
  refine calls_s_l4Goal ?_
  unfold sh_s_l4Goal
  refine r_box hI fun b1 w' hI => ?_
  refine r_loadW hI 0 ag_iTerm rfl rfl ?_
  refine Run.callPure fn_s_l4Cut nm_s_l4Cut hI (l4Cut_calls h0) fun w' hI => ?_
  cases h1 : cutB (.mk k n s ks)
  · repeat (first | refine guard_true ?_ | refine guard_ne (by decide) ?_ | refine guard_undef ?_ | refine r_pickT ?_ | refine r_pickF ?_)
    refine r_loadW hI 0 ag_iTerm rfl rfl ?_
    refine Run.callPure fn_s_l4Plain nm_s_l4Plain hI (l4Plain_calls h0) fun w' hI => ?_
    cases h2 : plainB (.mk k n s ks)
    · repeat (first | refine guard_true ?_ | refine guard_ne (by decide) ?_ | refine guard_undef ?_ | refine r_pickT ?_ | refine r_pickF ?_)
      refine r_fieldL hI 0 rfl fo_iTerm_0 sc_int rfl ?_
      refine r_eql ?_
      rw [show builtT (.mk k n s ks) = (decide (k = 3) && builtB s ks.length) from rfl]
      cases h3 : decide (k = 3)
      · repeat (first | refine guard_true ?_ | refine guard_ne (by decide) ?_ | refine guard_undef ?_ | refine r_pickT ?_ | refine r_pickF ?_)
        exact done hI rfl
      · repeat (first | refine guard_true ?_ | refine guard_ne (by decide) ?_ | refine guard_undef ?_ | refine r_pickT ?_ | refine r_pickF ?_)
        refine r_fieldL hI 0 rfl fo_iTerm_2 sc_string rfl ?_
        refine r_fieldL hI 0 rfl fo_iTerm_3 sc_SiTerm rfl ?_
        refine r_lenSl hks sl_SiTerm ?_
        refine Run.callPure fn_s_IsBuiltin nm_s_IsBuiltin hI (sIsBuiltin_calls s _ S) fun w' hI => ?_
        repeat (first | refine guard_true ?_ | refine guard_ne (by decide) ?_ | refine guard_undef ?_ | refine r_pickT ?_ | refine r_pickF ?_)
        exact done hI rfl
    · repeat (first | refine guard_true ?_ | refine guard_ne (by decide) ?_ | refine guard_undef ?_ | refine r_pickT ?_ | refine r_pickF ?_)
      exact done hI rfl
  · repeat (first | refine guard_true ?_ | refine guard_ne (by decide) ?_ | refine guard_undef ?_ | refine r_pickT ?_ | refine r_pickF ?_)
    exact done hI rfl

theorem cnt_max {t : T} (h : wT t ≤ 1048576) : cntT t ≤ 4611686018427387904 := by
  have := cnt_wT t
  omega
theorem sGoalValid_calls {t : T} {S : Store} {cs : List Value} (h : RdT S cs t) (hc : wT t ≤ 1048576) : Pure Try.prog n_s_GoalValid [.agg cs.toArray] S (.bool (goalB t)) := by
  intro w hI
  have hl := h.length
  refine calls_s_GoalValid ?_
  unfold sh_s_GoalValid
  refine r_box hI fun b1 w' hI => ?_
  refine r_loadW hI 0 ag_iTerm rfl (by simpa [Value.cells] using hl) ?_
  refine Run.callPure fn_s_TermValid nm_s_TermValid hI (sTermValid_calls h (cnt_max hc)) fun w' hI => ?_
  rw [goalB]
  cases h1 : validB t
  · repeat (first | refine guard_true ?_ | refine guard_ne (by decide) ?_ | refine guard_undef ?_ | refine r_pickT ?_ | refine r_pickF ?_)
    exact done hI rfl
  · repeat (first | refine guard_true ?_ | refine guard_ne (by decide) ?_ | refine guard_undef ?_ | refine r_pickT ?_ | refine r_pickF ?_)
    refine r_loadW hI 0 ag_iTerm rfl (by simpa [Value.cells] using hl) ?_
    refine Run.callPure fn_s_l4Goal nm_s_l4Goal hI (l4Goal_calls h) fun w' hI => ?_
    repeat (first | refine guard_true ?_ | refine guard_ne (by decide) ?_ | refine guard_undef ?_ | refine r_pickT ?_ | refine r_pickF ?_)
    exact done hI rfl


theorem wL_mem' {ts : List T} {t : T} (h : t ∈ ts) : wT t ≤ wL ts := by
  induction ts with
  | nil => simp at h
  | cons u us ih =>
    rw [wL]
    rcases List.mem_cons.1 h with rfl | h
    · omega
    · have := ih h; omega
/- the loop of a list of goals, whatever comes behind it -/
theorem sClauseValid_calls {c : C} {S : Store} {cs : List Value} (h : RdC S cs c) (hc : wC c ≤ 1048576) : Pure Try.prog n_s_ClauseValid [.agg cs.toArray] S (.bool (clauseB c)) := by
  intro w hI
  obtain ⟨hd, ks, rfl, h1, h2⟩ := h
  have h1' := h1
  obtain ⟨kv, rfl, g1, g2, g3, g4⟩ := RdT.iff.1 h1
  have hlen := h2.le
  simp only [maxLen] at hlen
  unfold wC at hc
  refine calls_s_ClauseValid ?_
  unfold sh_s_ClauseValid
  refine r_box hI fun b1 w' hI => ?_
  refine ⟨fun i w' => ∃ k : Nat, k ≤ c.body.length ∧ k ≤ 7 ∧ i = .int .i64 k ∧ (∀ j (h : j < c.body.length), j < k → goalB c.body[j] = true) ∧ Inv w [] [.blk b1 (.cells #[.int .i64 c.head.kind, .int .i64 c.head.n, .string c.head.name, kv, ks] t_iClause)] S w',
    fun i _ => c.body.length - (intOf i).toNat, ⟨0, Nat.zero_le _, by omega, rfl, fun j _ h => by omega, hI⟩, ?_⟩
  intro t3 _ _ _ _ _ _ _ _ _ _ _ _ _ _ _ _ _ _ _ w'
  rintro ⟨k, hk, hk7, rfl, hrel, hI⟩
  refine ⟨fun t w' => t = .bool (decide (k < c.body.length ∧ k ≤ 6)) ∧ Inv w [] [.blk b1 (.cells #[.int .i64 c.head.kind, .int .i64 c.head.n, .string c.head.name, kv, ks] t_iClause)] S w', ?_, ?_⟩
  · refine r_fieldL hI 0 rfl fo_iClause_1 sc_SiTerm rfl ?_
    refine r_lenSl h2 sl_SiTerm ?_
    refine r_lss ?_
    by_cases hki : (k : Int) < c.body.length
    · rw [decide_eq_true hki]
      repeat (first | refine guard_true ?_ | refine guard_ne (by decide) ?_ | refine guard_undef ?_ | refine r_pickT ?_ | refine r_pickF ?_)
      refine r_leq ?_
      repeat (first | refine guard_true ?_ | refine guard_ne (by decide) ?_ | refine guard_undef ?_ | refine r_pickT ?_ | refine r_pickF ?_)
      refine ⟨?_, hI⟩
      congr 1
      rw [Bool.eq_iff_iff]; simp; omega
    · rw [decide_eq_false hki]
      repeat (first | refine guard_true ?_ | refine guard_ne (by decide) ?_ | refine guard_undef ?_ | refine r_pickT ?_ | refine r_pickF ?_)
      exact ⟨by rw [decide_eq_false (by omega)], hI⟩
  intro t _ _ _ _ _ _ _ _ w'
  rintro ⟨rfl, hI⟩
  refine condP (fun hki => ?_) (fun hki => ?_)
  · obtain ⟨hk', hk6⟩ := hki
    refine r_fieldL hI 0 rfl fo_iClause_1 sc_SiTerm rfl ?_
    refine r_elem hI h2 sl_SiTerm ag_iTerm hk' (fun _ _ => RdT.length) fun cs' hcs' => ?_
    have hwm := wL_mem' (List.getElem_mem hk')
    refine Run.callPure fn_s_GoalValid nm_s_GoalValid hI (sGoalValid_calls hcs' (by omega)) fun w' hI => ?_
    refine r_not ?_
    refine condV (fun hb => done hI ?_) (fun hb => ?_)
    · have hb' : goalB c.body[k] = false := by simpa using hb
      have : c.body.all goalB = false := by
        rw [← Bool.not_eq_true, List.all_eq_true]
        intro hall
        rw [hall _ (List.getElem_mem hk')] at hb'
        cases hb'
      rw [clauseB, this]
      simp
    · have hb' : goalB c.body[k] = true := by simpa using hb
      refine r_add (by omega) ?_
      refine ⟨⟨k + 1, hk', by omega, rfl, fun j hj hjk => ?_, hI⟩, by simp [intOf]; omega⟩
      by_cases e : j = k
      · subst e; exact hb'
      · exact hrel j hj (by omega)
  · refine r_fieldL hI 0 rfl fo_iClause_1 sc_SiTerm rfl ?_
    refine r_lenSl h2 sl_SiTerm ?_
    refine r_leq ?_
    rw [clauseB]
    by_cases hle : c.body.length ≤ 6
    · have hall : c.body.all goalB = true := by
        rw [List.all_eq_true]
        intro x hx
        obtain ⟨j, hj, rfl⟩ := List.getElem_of_mem hx
        exact hrel j hj (by omega)
      rw [decide_eq_true (show (c.body.length : Int) ≤ 6 by omega), decide_eq_true hle, hall]
      repeat (first | refine guard_true ?_ | refine guard_ne (by decide) ?_ | refine guard_undef ?_ | refine r_pickT ?_ | refine r_pickF ?_)
      refine r_field fo_iClause_0 ?_
      refine r_loadLA hI 0 [.int .i64 c.head.kind, .int .i64 c.head.n, .string c.head.name, kv] ag_iTerm rfl rfl ?_ ?_
      · intro j v hj
        match j with
        | 0 | 1 | 2 | 3 => exact hj
        | j + 4 => simp at hj
      refine Run.callPure fn_s_TermValid nm_s_TermValid hI (sTermValid_calls h1' (cnt_max (by omega))) fun w' hI => ?_
      cases hv : validB c.head
      · repeat (first | refine guard_true ?_ | refine guard_ne (by decide) ?_ | refine guard_undef ?_ | refine r_pickT ?_ | refine r_pickF ?_)
        exact done hI rfl
      · repeat (first | refine guard_true ?_ | refine guard_ne (by decide) ?_ | refine guard_undef ?_ | refine r_pickT ?_ | refine r_pickF ?_)
        refine r_field fo_iClause_0 ?_
        refine r_loadLA hI 0 [.int .i64 c.head.kind, .int .i64 c.head.n, .string c.head.name, kv] ag_iTerm rfl rfl ?_ ?_
        · intro j v hj
          match j with
          | 0 | 1 | 2 | 3 => exact hj
          | j + 4 => simp at hj
        refine Run.callPure fn_s_l4Plain nm_s_l4Plain hI (l4Plain_calls h1') fun w' hI => ?_
        repeat (first | refine guard_true ?_ | refine guard_ne (by decide) ?_ | refine guard_undef ?_ | refine r_pickT ?_ | refine r_pickF ?_)
        exact done hI rfl
    · rw [decide_eq_false (show ¬ (c.body.length : Int) ≤ 6 by omega), decide_eq_false hle]
      repeat (first | refine guard_true ?_ | refine guard_ne (by decide) ?_ | refine guard_undef ?_ | refine r_pickT ?_ | refine r_pickF ?_)
      exact done hI rfl

theorem s_QueryValid_calls {xs : List T} {S : Store} {v : Value} (h : RdSl S 4 (RdT S) v xs) (hc : wL xs ≤ 1048576) : Pure Try.prog n_s_QueryValid [v] S (.bool (queryB xs)) := by
  intro w hI
  have hlen := h.le
  simp only [maxLen] at hlen
  refine calls_s_QueryValid ?_
  unfold sh_s_QueryValid
  refine ⟨fun i w' => ∃ k : Nat, k ≤ xs.length ∧ k ≤ 6 + 1 ∧ i = .int .i64 k ∧ (∀ j (h : j < xs.length), j < k → goalB xs[j] = true) ∧ Inv w [] [] S w',
    fun i _ => xs.length - (intOf i).toNat, ⟨0, Nat.zero_le _, by omega, rfl, fun j _ h => by omega, hI⟩, ?_⟩
  intro t3 _ _ _ _ _ _ _ _ _ _ _ _ _ _ _ _ _ w'
  rintro ⟨k, hk, hk7, rfl, hrel, hI⟩
  refine ⟨fun t w' => t = .bool (decide (k < xs.length ∧ k ≤ 6)) ∧ Inv w [] [] S w', ?_, ?_⟩
  · refine r_lenSl h sl_SiTerm ?_
    refine r_lss ?_
    by_cases hki : (k : Int) < xs.length
    · rw [decide_eq_true hki]
      repeat (first | refine guard_true ?_ | refine guard_ne (by decide) ?_ | refine guard_undef ?_ | refine r_pickT ?_ | refine r_pickF ?_)
      refine r_leq ?_
      repeat (first | refine guard_true ?_ | refine guard_ne (by decide) ?_ | refine guard_undef ?_ | refine r_pickT ?_ | refine r_pickF ?_)
      refine ⟨?_, hI⟩
      congr 1
      rw [Bool.eq_iff_iff]; simp; omega
    · rw [decide_eq_false hki]
      repeat (first | refine guard_true ?_ | refine guard_ne (by decide) ?_ | refine guard_undef ?_ | refine r_pickT ?_ | refine r_pickF ?_)
      exact ⟨by rw [decide_eq_false (by omega)], hI⟩
  intro t _ _ _ _ _ _ _ w'
  rintro ⟨rfl, hI⟩
  refine condP (fun hki => ?_) (fun hki => ?_)
  · obtain ⟨hk', hk6⟩ := hki
    refine r_elem hI h sl_SiTerm ag_iTerm hk' (fun _ _ => RdT.length) fun cs' hcs' => ?_
    have hwm := wL_mem' (List.getElem_mem hk')
    refine Run.callPure fn_s_GoalValid nm_s_GoalValid hI (sGoalValid_calls hcs' (by omega)) fun w' hI => ?_
    refine r_not ?_
    refine condV (fun hb => done hI ?_) (fun hb => ?_)
    · have hb' : goalB xs[k] = false := by simpa using hb
      have : xs.all goalB = false := by
        rw [← Bool.not_eq_true, List.all_eq_true]
        intro hall
        rw [hall _ (List.getElem_mem hk')] at hb'
        cases hb'
      rw [queryB, this, Bool.and_false]
    · have hb' : goalB xs[k] = true := by simpa using hb
      refine r_add (by omega) ?_
      refine ⟨⟨k + 1, hk', by omega, rfl, fun j hj hjk => ?_, hI⟩, by simp [intOf]; omega⟩
      by_cases e : j = k
      · subst e; exact hb'
      · exact hrel j hj (by omega)
  · refine r_lenSl h sl_SiTerm ?_
    refine r_leq ?_
    rw [queryB]
    refine done hI ?_
    by_cases hle : xs.length ≤ 6
    · have hall : xs.all goalB = true := by
        rw [List.all_eq_true]
        intro x hx
        obtain ⟨j, hj, rfl⟩ := List.getElem_of_mem hx
        exact hrel j hj (by omega)
      rw [decide_eq_true (show (xs.length : Int) ≤ 6 by omega), decide_eq_true hle, hall]; rfl
    · rw [decide_eq_false (show ¬ (xs.length : Int) ≤ 6 by omega), decide_eq_false hle]; rfl
theorem s_ProgramValid_calls {xs : List C} {S : Store} {v : Value} (h : RdSl S 5 (RdC S) v xs) (hc : wP xs ≤ 1048576) : Pure Try.prog n_s_ProgramValid [v] S (.bool (progB xs)) := by
  intro w hI
  have hlen := h.le
  simp only [maxLen] at hlen
  refine calls_s_ProgramValid ?_
  unfold sh_s_ProgramValid
  refine ⟨fun i w' => ∃ k : Nat, k ≤ xs.length ∧ k ≤ 20 + 1 ∧ i = .int .i64 k ∧ (∀ j (h : j < xs.length), j < k → clauseB xs[j] = true) ∧ Inv w [] [] S w',
    fun i _ => xs.length - (intOf i).toNat, ⟨0, Nat.zero_le _, by omega, rfl, fun j _ h => by omega, hI⟩, ?_⟩
  intro t3 _ _ _ _ _ _ _ _ _ _ _ _ _ _ _ _ _ w'
  rintro ⟨k, hk, hk7, rfl, hrel, hI⟩
  refine ⟨fun t w' => t = .bool (decide (k < xs.length ∧ k ≤ 20)) ∧ Inv w [] [] S w', ?_, ?_⟩
  · refine r_lenSl h sl_SiClause ?_
    refine r_lss ?_
    by_cases hki : (k : Int) < xs.length
    · rw [decide_eq_true hki]
      repeat (first | refine guard_true ?_ | refine guard_ne (by decide) ?_ | refine guard_undef ?_ | refine r_pickT ?_ | refine r_pickF ?_)
      refine r_leq ?_
      repeat (first | refine guard_true ?_ | refine guard_ne (by decide) ?_ | refine guard_undef ?_ | refine r_pickT ?_ | refine r_pickF ?_)
      refine ⟨?_, hI⟩
      congr 1
      rw [Bool.eq_iff_iff]; simp; omega
    · rw [decide_eq_false hki]
      repeat (first | refine guard_true ?_ | refine guard_ne (by decide) ?_ | refine guard_undef ?_ | refine r_pickT ?_ | refine r_pickF ?_)
      exact ⟨by rw [decide_eq_false (by omega)], hI⟩
  intro t _ _ _ _ _ _ _ w'
  rintro ⟨rfl, hI⟩
  refine condP (fun hki => ?_) (fun hki => ?_)
  · obtain ⟨hk', hk6⟩ := hki
    refine r_elem hI h sl_SiClause ag_iClause hk' (fun _ _ => RdC.length) fun cs' hcs' => ?_
    have hwm := wP_mem (List.getElem_mem hk')
    refine Run.callPure fn_s_ClauseValid nm_s_ClauseValid hI (sClauseValid_calls hcs' (by omega)) fun w' hI => ?_
    refine r_not ?_
    refine condV (fun hb => done hI ?_) (fun hb => ?_)
    · have hb' : clauseB xs[k] = false := by simpa using hb
      have : xs.all clauseB = false := by
        rw [← Bool.not_eq_true, List.all_eq_true]
        intro hall
        rw [hall _ (List.getElem_mem hk')] at hb'
        cases hb'
      rw [progB, this, Bool.and_false]
    · have hb' : clauseB xs[k] = true := by simpa using hb
      refine r_add (by omega) ?_
      refine ⟨⟨k + 1, hk', by omega, rfl, fun j hj hjk => ?_, hI⟩, by simp [intOf]; omega⟩
      by_cases e : j = k
      · subst e; exact hb'
      · exact hrel j hj (by omega)
  · refine r_lenSl h sl_SiClause ?_
    refine r_leq ?_
    rw [progB]
    refine done hI ?_
    by_cases hle : xs.length ≤ 20
    · have hall : xs.all clauseB = true := by
        rw [List.all_eq_true]
        intro x hx
        obtain ⟨j, hj, rfl⟩ := List.getElem_of_mem hx
        exact hrel j hj (by omega)
      rw [decide_eq_true (show (xs.length : Int) ≤ 20 by omega), decide_eq_true hle, hall]; rfl
    · rw [decide_eq_false (show ¬ (xs.length : Int) ≤ 20 by omega), decide_eq_false hle]; rfl

/- the program's side -/
theorem isOp_calls (s : ByteArray) (S : Store) : Pure Try.prog n_i_isOp [.string s] S (.bool (decide (0 < levelN s))) := by
  intro w hI
  refine calls_i_isOp ?_
  unfold sh_i_isOp
  refine Run.callPure fn_i_OpLevel nm_i_OpLevel hI (i_OpLevel_calls s S) fun w' hI => ?_
  refine r_extract rfl ?_
  refine r_extract rfl ?_
  refine r_gtr ?_
  exact done hI rfl
theorem isBuilt_calls {t : T} {S : Store} {cs : List Value} (h : RdT S cs t) : Pure Try.prog n_i_isBuilt [.agg cs.toArray] S (.bool (builtT t)) := by
  intro w hI
  obtain ⟨kv, rfl, _, _, hs, hks⟩ := RdT.iff.1 h
  obtain ⟨k, n, s, ks⟩ := t
  simp only [T.name, T.kids, T.kind, T.n] at hs hks ⊢
  refine calls_i_isBuilt ?_
  unfold sh_i_isBuilt
  refine r_box hI fun b1 w' hI => ?_
  refine r_fieldL hI 0 rfl fo_iTerm_0 sc_int rfl ?_
  refine r_eql ?_
  rw [show builtT (.mk k n s ks) = (decide (k = 3) && builtB s ks.length) from rfl]
  cases h3 : decide (k = 3)
  · repeat (first | refine guard_true ?_ | refine guard_ne (by decide) ?_ | refine guard_undef ?_ | refine r_pickT ?_ | refine r_pickF ?_)
    exact done hI rfl
  · repeat (first | refine guard_true ?_ | refine guard_ne (by decide) ?_ | refine guard_undef ?_ | refine r_pickT ?_ | refine r_pickF ?_)
    refine r_fieldL hI 0 rfl fo_iTerm_2 sc_string rfl ?_
    refine r_fieldL hI 0 rfl fo_iTerm_3 sc_SiTerm rfl ?_
    refine r_lenSl hks sl_SiTerm ?_
    refine Run.callPure fn_i_IsBuiltin nm_i_IsBuiltin hI (iIsBuiltin_calls s _ S) fun w' hI => ?_
    repeat (first | refine guard_true ?_ | refine guard_ne (by decide) ?_ | refine guard_undef ?_ | refine r_pickT ?_ | refine r_pickF ?_)
    exact done hI rfl
theorem isPlain_calls {t : T} {S : Store} {cs : List Value} (h : RdT S cs t) : Pure Try.prog n_i_isPlain [.agg cs.toArray] S (.bool (plainB t)) := by
  intro w hI
  have h0 := h
  obtain ⟨kv, rfl, _, _, hs, hks⟩ := RdT.iff.1 h
  obtain ⟨k, n, s, ks⟩ := t
  simp only [T.name, T.kids, T.kind, T.n] at h0 hs hks ⊢
  refine calls_i_isPlain ?_
  unfold sh_i_isPlain
  refine r_box hI fun b1 w' hI => ?_
  refine r_fieldL hI 0 rfl fo_iTerm_0 sc_int rfl ?_
  refine r_eql ?_
  have hb : builtT (.mk k n s ks) = (decide (k = 3) && builtB s ks.length) := rfl
  rw [show plainB (.mk k n s ks) = (decide (k = 3) && (wordB s && (!builtB s ks.length && decide (levelN s = 0)))) from rfl]
  cases h1 : decide (k = 3)
  · repeat (first | refine guard_true ?_ | refine guard_ne (by decide) ?_ | refine guard_undef ?_ | refine r_pickT ?_ | refine r_pickF ?_)
    exact done hI rfl
  · rw [h1] at hb
    repeat (first | refine guard_true ?_ | refine guard_ne (by decide) ?_ | refine guard_undef ?_ | refine r_pickT ?_ | refine r_pickF ?_)
    refine r_fieldL hI 0 rfl fo_iTerm_2 sc_string rfl ?_
    refine Run.callPure fn_i_isLetters nm_i_isLetters hI (isLetters_calls s hs S) fun w' hI => ?_
    cases h2 : wordB s
    · repeat (first | refine guard_true ?_ | refine guard_ne (by decide) ?_ | refine guard_undef ?_ | refine r_pickT ?_ | refine r_pickF ?_)
      exact done hI rfl
    · repeat (first | refine guard_true ?_ | refine guard_ne (by decide) ?_ | refine guard_undef ?_ | refine r_pickT ?_ | refine r_pickF ?_)
      refine r_fieldL hI 0 rfl fo_iTerm_2 sc_string rfl ?_
      refine Run.callPure fn_i_isOp nm_i_isOp hI (isOp_calls s S) fun w' hI => ?_
      refine r_not ?_
      rw [level_pos]
      cases h3 : decide (levelN s = 0)
      · repeat (first | refine guard_true ?_ | refine guard_ne (by decide) ?_ | refine guard_undef ?_ | refine r_pickT ?_ | refine r_pickF ?_)
        exact done hI (by simp)
      · repeat (first | refine guard_true ?_ | refine guard_ne (by decide) ?_ | refine guard_undef ?_ | refine r_pickT ?_ | refine r_pickF ?_)
        refine r_loadW hI 0 ag_iTerm rfl rfl ?_
        refine Run.callPure fn_i_isBuilt nm_i_isBuilt hI (isBuilt_calls h0) fun w' hI => ?_
        refine r_not ?_
        repeat (first | refine guard_true ?_ | refine guard_ne (by decide) ?_ | refine guard_undef ?_ | refine r_pickT ?_ | refine r_pickF ?_)
        exact done hI (by rw [hb]; simp)
theorem isAtom_calls {t : T} {S : Store} {cs : List Value} (h : RdT S cs t) : Pure Try.prog n_i_isAtom [.agg cs.toArray] S (.bool (atomB t)) := by
  intro w hI
  obtain ⟨kv, rfl, _, _, hs, hks⟩ := RdT.iff.1 h
  obtain ⟨k, n, s, ks⟩ := t
  simp only [T.name, T.kids, T.kind, T.n] at hs hks ⊢
  refine calls_i_isAtom ?_
  unfold sh_i_isAtom
  refine r_box hI fun b1 w' hI => ?_
  refine r_fieldL hI 0 rfl fo_iTerm_0 sc_int rfl ?_
  refine r_eql ?_
  rw [show atomB (.mk k n s ks) = (decide (k = 3) && decide (ks.length = 0)) from rfl]
  cases h3 : decide (k = 3)
  · repeat (first | refine guard_true ?_ | refine guard_ne (by decide) ?_ | refine guard_undef ?_ | refine r_pickT ?_ | refine r_pickF ?_)
    exact done hI rfl
  · repeat (first | refine guard_true ?_ | refine guard_ne (by decide) ?_ | refine guard_undef ?_ | refine r_pickT ?_ | refine r_pickF ?_)
    refine r_fieldL hI 0 rfl fo_iTerm_3 sc_SiTerm rfl ?_
    refine r_lenSl hks sl_SiTerm ?_
    refine r_eql ?_
    repeat (first | refine guard_true ?_ | refine guard_ne (by decide) ?_ | refine guard_undef ?_ | refine r_pickT ?_ | refine r_pickF ?_)
    exact done hI (by simp)
theorem isCut_calls {t : T} {S : Store} {cs : List Value} (h : RdT S cs t) : Pure Try.prog n_i_isCut [.agg cs.toArray] S (.bool (cutB t)) := by
  intro w hI
  have h0 := h
  obtain ⟨kv, rfl, _, _, hs, hks⟩ := RdT.iff.1 h
  obtain ⟨k, n, s, ks⟩ := t
  simp only [T.name, T.kids, T.kind, T.n] at h0 hs hks ⊢
  refine calls_i_isCut ?_
  unfold sh_i_isCut
  refine r_box hI fun b1 w' hI => ?_
  refine r_loadW hI 0 ag_iTerm rfl rfl ?_
  refine Run.callPure fn_i_isAtom nm_i_isAtom hI (isAtom_calls h0) fun w' hI => ?_
  rw [show cutB (.mk k n s ks) = (decide (k = 3) && (decide (s = ⟨#[33]⟩) && decide (ks.length = 0))) from rfl]
  cases h1 : atomB (.mk k n s ks)
  · repeat (first | refine guard_true ?_ | refine guard_ne (by decide) ?_ | refine guard_undef ?_ | refine r_pickT ?_ | refine r_pickF ?_)
    refine done hI ?_
    replace h1 : (decide (k = 3) && decide (ks.length = 0)) = false := h1
    cases h2 : decide (k = 3)
    · rfl
    · rw [h2, Bool.true_and] at h1
      rw [h1, Bool.and_false]; rfl
  · repeat (first | refine guard_true ?_ | refine guard_ne (by decide) ?_ | refine guard_undef ?_ | refine r_pickT ?_ | refine r_pickF ?_)
    refine r_fieldL hI 0 rfl fo_iTerm_2 sc_string rfl ?_
    refine r_seql ?_
    repeat (first | refine guard_true ?_ | refine guard_ne (by decide) ?_ | refine guard_undef ?_ | refine r_pickT ?_ | refine r_pickF ?_)
    refine done hI ?_
    replace h1 : (decide (k = 3) && decide (ks.length = 0)) = true := h1
    rw [Bool.and_eq_true] at h1
    rw [h1.1, h1.2]; simp
theorem iGoalValid_calls {t : T} {S : Store} {cs : List Value} (h : RdT S cs t) : Pure Try.prog n_i_GoalValid [.agg cs.toArray] S (.bool (goalB t)) := by
  intro w hI
  have hl := h.length
  refine calls_i_GoalValid ?_
  unfold sh_i_GoalValid
  refine r_box hI fun b1 w' hI => ?_
  refine r_loadW hI 0 ag_iTerm rfl (by simpa [Value.cells] using hl) ?_
  refine Run.callPure fn_i_TermValid nm_i_TermValid hI (iTermValid_calls h) fun w' hI => ?_
  rw [goalB]
  cases h1 : validB t
  · repeat (first | refine guard_true ?_ | refine guard_ne (by decide) ?_ | refine guard_undef ?_ | refine r_pickT ?_ | refine r_pickF ?_)
    exact done hI rfl
  · repeat (first | refine guard_true ?_ | refine guard_ne (by decide) ?_ | refine guard_undef ?_ | refine r_pickT ?_ | refine r_pickF ?_)
    refine r_loadW hI 0 ag_iTerm rfl (by simpa [Value.cells] using hl) ?_
    refine Run.callPure fn_i_isPlain nm_i_isPlain hI (isPlain_calls h) fun w' hI => ?_
    cases h2 : plainB t
    · repeat (first | refine guard_true ?_ | refine guard_ne (by decide) ?_ | refine guard_undef ?_ | refine r_pickT ?_ | refine r_pickF ?_)
      refine r_loadW hI 0 ag_iTerm rfl (by simpa [Value.cells] using hl) ?_
      refine Run.callPure fn_i_isBuilt nm_i_isBuilt hI (isBuilt_calls h) fun w' hI => ?_
      cases h3 : builtT t
      · repeat (first | refine guard_true ?_ | refine guard_ne (by decide) ?_ | refine guard_undef ?_ | refine r_pickT ?_ | refine r_pickF ?_)
        refine r_loadW hI 0 ag_iTerm rfl (by simpa [Value.cells] using hl) ?_
        refine Run.callPure fn_i_isCut nm_i_isCut hI (isCut_calls h) fun w' hI => ?_
        repeat (first | refine guard_true ?_ | refine guard_ne (by decide) ?_ | refine guard_undef ?_ | refine r_pickT ?_ | refine r_pickF ?_)
        exact done hI (by simp)
      · repeat (first | refine guard_true ?_ | refine guard_ne (by decide) ?_ | refine guard_undef ?_ | refine r_pickT ?_ | refine r_pickF ?_)
        exact done hI (by simp)
    · repeat (first | refine guard_true ?_ | refine guard_ne (by decide) ?_ | refine guard_undef ?_ | refine r_pickT ?_ | refine r_pickF ?_)
      exact done hI (by simp)

theorem any_not {α : Type} (p : α → Bool) : ∀ xs : List α, (!xs.any fun x => !p x) = xs.all p
  | [] => rfl
  | x :: xs => by
    rw [List.any_cons, List.all_cons, ← any_not p xs]
    cases p x <;> simp

theorem igoalsValid_1_calls {x : T} {S : Store} {cs : List Value} (h : RdT S cs x) : Pure Try.prog n_i_goalsValid_1 [.agg cs.toArray] S (.bool (!goalB x)) := by
  intro w hI
  have hl := h.length
  refine calls_i_goalsValid_1 ?_
  unfold sh_i_goalsValid_1
  refine r_box hI fun b1 w' hI => ?_
  refine r_loadW hI 0 ag_iTerm rfl (by simpa [Value.cells] using hl) ?_
  refine Run.callPure fn_i_GoalValid nm_i_GoalValid hI (iGoalValid_calls h) fun w' hI => ?_
  refine r_not (done hI rfl)
theorem igoalsValid_calls {xs : List T} {S : Store} {v : Value} (h : RdSl S 4 (RdT S) v xs) : Pure Try.prog n_i_goalsValid [v] S (.bool (queryB xs)) := by
  intro w hI
  refine calls_i_goalsValid ?_
  unfold sh_i_goalsValid
  refine r_lenSl h sl_SiTerm ?_
  refine r_leq ?_
  rw [queryB]
  by_cases hle : xs.length ≤ 6
  · rw [decide_eq_true (show (xs.length : Int) ≤ 6 by omega), decide_eq_true hle]
    repeat (first | refine guard_true ?_ | refine guard_ne (by decide) ?_ | refine guard_undef ?_ | refine r_pickT ?_ | refine r_pickF ?_)
    have hcb : Cb Try.prog n_i_goalsValid_1 _ [] S (fun _ : Unit => []) (fun _ => True) (fun _ x => (!goalB x, ())) (fun v x => ∃ cs, v = .agg cs.toArray ∧ RdT S cs x) xs :=
      Cb.pure [] fn_i_goalsValid_1 nm_i_goalsValid_1 fun x v _ => by
        rintro ⟨cs, rfl, hcs⟩ w1 hI
        exact (igoalsValid_1_calls hcs w1 hI).mono fun e w' ⟨he, hI⟩ => ⟨_, _, _, he, hI, Ext.refl _ _ _, rfl, rfl, rfl⟩
    refine Run.call0 fn_x_ContainsFunc_Term nm_x_ContainsFunc_Term hI (ContainsFunc_Term_of hcb h (st := ()) trivial) fun v' I' S' w' => ?_
    rintro ⟨rfl, rfl, rfl⟩ _ hI
    refine r_not ?_
    repeat (first | refine guard_true ?_ | refine guard_ne (by decide) ?_ | refine guard_undef ?_ | refine r_pickT ?_ | refine r_pickF ?_)
    refine done hI ?_
    rw [anyF_pure (fun x => !goalB x) xs, any_not]; rfl
  · rw [decide_eq_false (show ¬ (xs.length : Int) ≤ 6 by omega), decide_eq_false hle]
    repeat (first | refine guard_true ?_ | refine guard_ne (by decide) ?_ | refine guard_undef ?_ | refine r_pickT ?_ | refine r_pickF ?_)
    exact done hI rfl
theorem iClauseValid_calls {c : C} {S : Store} {cs : List Value} (h : RdC S cs c) : Pure Try.prog n_i_ClauseValid [.agg cs.toArray] S (.bool (clauseB c)) := by
  intro w hI
  obtain ⟨hd, ks, rfl, h1, h2⟩ := h
  have h1' := h1
  obtain ⟨kv, rfl, g1, g2, g3, g4⟩ := RdT.iff.1 h1
  have hfin : clauseB c = (validB c.head && (plainB c.head && queryB c.body)) := by
    unfold clauseB queryB
    cases validB c.head <;> cases plainB c.head <;> simp
  refine calls_i_ClauseValid ?_
  unfold sh_i_ClauseValid
  rw [hfin]
  refine r_box hI fun b1 w' hI => ?_
  refine r_field fo_iClause_0 ?_
  refine r_loadLA hI 0 [.int .i64 c.head.kind, .int .i64 c.head.n, .string c.head.name, kv] ag_iTerm rfl rfl ?_ ?_
  · intro j v hj
    match j with
    | 0 | 1 | 2 | 3 => exact hj
    | j + 4 => simp at hj
  refine Run.callPure fn_i_TermValid nm_i_TermValid hI (iTermValid_calls h1') fun w' hI => ?_
  cases hv : validB c.head
  · repeat (first | refine guard_true ?_ | refine guard_ne (by decide) ?_ | refine guard_undef ?_ | refine r_pickT ?_ | refine r_pickF ?_)
    exact done hI rfl
  · repeat (first | refine guard_true ?_ | refine guard_ne (by decide) ?_ | refine guard_undef ?_ | refine r_pickT ?_ | refine r_pickF ?_)
    refine r_field fo_iClause_0 ?_
    refine r_loadLA hI 0 [.int .i64 c.head.kind, .int .i64 c.head.n, .string c.head.name, kv] ag_iTerm rfl rfl ?_ ?_
    · intro j v hj
      match j with
      | 0 | 1 | 2 | 3 => exact hj
      | j + 4 => simp at hj
    refine Run.callPure fn_i_isPlain nm_i_isPlain hI (isPlain_calls h1') fun w' hI => ?_
    cases hp : plainB c.head
    · repeat (first | refine guard_true ?_ | refine guard_ne (by decide) ?_ | refine guard_undef ?_ | refine r_pickT ?_ | refine r_pickF ?_)
      exact done hI rfl
    · repeat (first | refine guard_true ?_ | refine guard_ne (by decide) ?_ | refine guard_undef ?_ | refine r_pickT ?_ | refine r_pickF ?_)
      refine r_fieldL hI 0 rfl fo_iClause_1 sc_SiTerm rfl ?_
      refine Run.callPure fn_i_goalsValid nm_i_goalsValid hI (igoalsValid_calls h2) fun w' hI => ?_
      repeat (first | refine guard_true ?_ | refine guard_ne (by decide) ?_ | refine guard_undef ?_ | refine r_pickT ?_ | refine r_pickF ?_)
      exact done hI rfl

theorem iProgramValid_1_calls {x : C} {S : Store} {cs : List Value} (h : RdC S cs x) : Pure Try.prog n_i_ProgramValid_1 [.agg cs.toArray] S (.bool (!clauseB x)) := by
  intro w hI
  have hl := h.length
  refine calls_i_ProgramValid_1 ?_
  unfold sh_i_ProgramValid_1
  refine r_box hI fun b1 w' hI => ?_
  refine r_loadW hI 0 ag_iClause rfl (by simpa [Value.cells] using hl) ?_
  refine Run.callPure fn_i_ClauseValid nm_i_ClauseValid hI (iClauseValid_calls h) fun w' hI => ?_
  refine r_not (done hI rfl)
theorem iProgramValid_calls {xs : List C} {S : Store} {v : Value} (h : RdSl S 5 (RdC S) v xs) : Pure Try.prog n_i_ProgramValid [v] S (.bool (progB xs)) := by
  intro w hI
  refine calls_i_ProgramValid ?_
  unfold sh_i_ProgramValid
  refine r_lenSl h sl_SiClause ?_
  refine r_leq ?_
  rw [progB]
  by_cases hle : xs.length ≤ 20
  · rw [decide_eq_true (show (xs.length : Int) ≤ 20 by omega), decide_eq_true hle]
    repeat (first | refine guard_true ?_ | refine guard_ne (by decide) ?_ | refine guard_undef ?_ | refine r_pickT ?_ | refine r_pickF ?_)
    have hcb : Cb Try.prog n_i_ProgramValid_1 _ [] S (fun _ : Unit => []) (fun _ => True) (fun _ x => (!clauseB x, ())) (fun v x => ∃ cs, v = .agg cs.toArray ∧ RdC S cs x) xs :=
      Cb.pure [] fn_i_ProgramValid_1 nm_i_ProgramValid_1 fun x v _ => by
        rintro ⟨cs, rfl, hcs⟩ w1 hI
        exact (iProgramValid_1_calls hcs w1 hI).mono fun e w' ⟨he, hI⟩ => ⟨_, _, _, he, hI, Ext.refl _ _ _, rfl, rfl, rfl⟩
    refine Run.call0 fn_x_ContainsFunc_Clause nm_x_ContainsFunc_Clause hI (ContainsFunc_Clause_of hcb h (st := ()) trivial) fun v' I' S' w' => ?_
    rintro ⟨rfl, rfl, rfl⟩ _ hI
    refine r_not ?_
    repeat (first | refine guard_true ?_ | refine guard_ne (by decide) ?_ | refine guard_undef ?_ | refine r_pickT ?_ | refine r_pickF ?_)
    refine done hI ?_
    rw [anyF_pure (fun x => !clauseB x) xs, any_not]; rfl
  · rw [decide_eq_false (show ¬ (xs.length : Int) ≤ 20 by omega), decide_eq_false hle]
    repeat (first | refine guard_true ?_ | refine guard_ne (by decide) ?_ | refine guard_undef ?_ | refine r_pickT ?_ | refine r_pickF ?_)
    exact done hI rfl
theorem iQueryValid_calls {xs : List T} {S : Store} {v : Value} (h : RdSl S 4 (RdT S) v xs) : Pure Try.prog n_i_QueryValid [v] S (.bool (queryB xs)) := by
  intro w hI
  refine calls_i_QueryValid ?_
  unfold sh_i_QueryValid
  refine Run.callPure fn_i_goalsValid nm_i_goalsValid hI (igoalsValid_calls h) fun w' hI => done hI rfl

end Go.Proofs.Ytnoieadimkgjcaa

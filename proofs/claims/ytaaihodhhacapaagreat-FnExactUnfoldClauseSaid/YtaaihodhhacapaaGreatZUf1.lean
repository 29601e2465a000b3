/- Goals, clauses, programs, queries: which are valid, on both sides. -/
import Derived.Test.YtaaihodhhacapaaGreatZUf0
import Derived.Test.YtaaihodhhacapaaGreatRows
import Derived.ProofKit
import Derived.ReadAgain
import Derived.Carry
import Derived.Test.YtaaihodhhacapaaGreatData
import Derived.Test.YtaaihodhhacapaaGreatFacts
import Derived.Test.YtaaihodhhacapaaGreatZUfh1
namespace Go.Proofs.YtaaihodhhacapaaGreat
open Go Go.RowKit
section
variable {P : Program} {w : World} {K : Value → World → Prop} {ty : TypeId}
theorem guard_undef {b : Bool} {A B : Prop} (h : B) : GuardV undef b A B := by unfold GuardV; exact h
theorem r_pickT {v u : Value} (hk : K v w) : Run P (sOp (.pick (.const (.bool true)) (.const v) (.const u)) ty) w K := r_pick hk
theorem r_pickF {v u : Value} (hk : K u w) : Run P (sOp (.pick (.const (.bool false)) (.const v) (.const u)) ty) w K := r_pick hk
end
attribute [local irreducible] Run CondV GuardV LoadV

def cmps : List ByteArray := [⟨#[61]⟩, ⟨#[92, 61]⟩, ⟨#[61, 61]⟩, ⟨#[60]⟩, ⟨#[62]⟩, ⟨#[61, 60]⟩, ⟨#[62, 61]⟩, ⟨#[61, 58, 61]⟩, ⟨#[105, 115]⟩]
def consts : List ByteArray := [⟨#[116, 114, 117, 101]⟩, ⟨#[102, 97, 105, 108]⟩]
def tests : List ByteArray := [⟨#[118, 97, 114]⟩, ⟨#[110, 111, 110, 118, 97, 114]⟩, ⟨#[97, 116, 111, 109]⟩, ⟨#[105, 110, 116]⟩]
def sums : List ByteArray := [⟨#[43]⟩, ⟨#[45]⟩]
def prods : List ByteArray := [⟨#[42]⟩, ⟨#[47, 47]⟩, ⟨#[109, 111, 100]⟩]
def isIn (s : ByteArray) (l : List ByteArray) : Bool := l.any fun x => decide (s = x)
def builtB (s : ByteArray) (n : Int) : Bool :=
  if isIn s cmps = true then decide (n = 2)
  else if isIn s consts = true then decide (n = 0)
  else if isIn s tests = true then decide (n = 1)
  else if s = ⟨#[97, 114, 103]⟩ then decide (n = 3)
  else false
def levelN (s : ByteArray) : Int := if isIn s cmps = true then 3 else if isIn s sums = true then 2 else if isIn s prods = true then 1 else 0
def cutB (t : T) : Bool := decide (t.kind = 3) && (decide (t.name = ⟨#[33]⟩) && decide (t.kids.length = 0))
def atomB (t : T) : Bool := decide (t.kind = 3) && decide (t.kids.length = 0)
def builtT (t : T) : Bool := decide (t.kind = 3) && builtB t.name t.kids.length
def plainB (t : T) : Bool := decide (t.kind = 3) && (wordB t.name && (!builtB t.name t.kids.length && decide (levelN t.name = 0)))
def goalB (t : T) : Bool := validB t && (cutB t || (plainB t || builtT t))
def clauseB (c : C) : Bool := decide (c.body.length ≤ 6) && (c.body.all goalB && (validB c.head && plainB c.head))
def queryB (l : List T) : Bool := decide (l.length ≤ 6) && l.all goalB
def progB (p : List C) : Bool := decide (p.length ≤ 20) && p.all clauseB
theorem level_pos (s : ByteArray) : (!decide (0 < levelN s)) = decide (levelN s = 0) := by
  unfold levelN
  split
  · rfl
  · split
    · rfl
    · split <;> rfl

theorem sIsBuiltin_calls (s : ByteArray) (n : Int) (S : Store) : Pure Tryz.prog n_s_IsBuiltin [.string s, .int .i64 n] S (.bool (builtB s n)) := by
  intro w hI
  refine calls_s_IsBuiltin ?_
  unfold sh_s_IsBuiltin
  obtain ⟨q, hq⟩ : ∃ q, isIn s cmps = q := ⟨_, rfl⟩
  have hq1 := hq
  refine ⟨fun t w' => t = .bool q ∧ Inv w [] [] S w', ?_, ?_⟩
  · unfold isIn cmps at hq
    iterate 8
      refine r_seql ?_
      refine condV (fun h => ⟨by rw [List.any_cons, h] at hq; rw [h, ← hq]; rfl, hI⟩) (fun h => ?_)
      rw [List.any_cons, h, Bool.false_or] at hq
    refine r_seql ⟨?_, hI⟩
    rw [← hq]; simp
  intro t _ _ _ _ _ _ _ _ _ w'
  rintro ⟨rfl, hI⟩
  refine condV (fun h => ?_) (fun h => ?_)
  · exact r_eql (done hI (by rw [builtB, if_pos (hq1.trans h)]))
  have e1 : builtB s n = if isIn s consts = true then decide (n = 0) else if isIn s tests = true then decide (n = 1) else if s = ⟨#[97, 114, 103]⟩ then decide (n = 3) else false := by
    rw [builtB, if_neg (by rw [hq1, h]; decide)]
  clear hq hq1 h
  obtain ⟨q, hq⟩ : ∃ q, isIn s consts = q := ⟨_, rfl⟩
  have hq1 := hq
  refine ⟨fun t w' => t = .bool q ∧ Inv w [] [] S w', ?_, ?_⟩
  · unfold isIn consts at hq
    refine r_seql ?_
    refine condV (fun h => ⟨by rw [List.any_cons, h] at hq; rw [h, ← hq]; rfl, hI⟩) (fun h => ?_)
    rw [List.any_cons, h, Bool.false_or] at hq
    refine r_seql ⟨?_, hI⟩
    rw [← hq]; simp
  intro _ t _ w'
  rintro ⟨rfl, hI⟩
  refine condV (fun h => ?_) (fun h => ?_)
  · exact r_eql (done hI (by rw [e1, if_pos (hq1.trans h)]))
  rw [if_neg (by rw [hq1, h]; decide)] at e1
  clear hq hq1 h
  obtain ⟨q, hq⟩ : ∃ q, isIn s tests = q := ⟨_, rfl⟩
  have hq1 := hq
  refine ⟨fun t w' => t = .bool q ∧ Inv w [] [] S w', ?_, ?_⟩
  · unfold isIn tests at hq
    iterate 3
      refine r_seql ?_
      refine condV (fun h => ⟨by rw [List.any_cons, h] at hq; rw [h, ← hq]; rfl, hI⟩) (fun h => ?_)
      rw [List.any_cons, h, Bool.false_or] at hq
    refine r_seql ⟨?_, hI⟩
    rw [← hq]; simp
  intro _ _ _ t _ w'
  rintro ⟨rfl, hI⟩
  refine condV (fun h => ?_) (fun h => ?_)
  · exact r_eql (done hI (by rw [e1, if_pos (hq1.trans h)]))
  rw [if_neg (by rw [hq1, h]; decide)] at e1
  refine r_seql ?_
  refine condP (fun h => ?_) (fun h => ?_)
  · exact r_eql (done hI (by rw [e1, if_pos h]))
  · exact done hI (by rw [e1, if_neg h])
theorem iIsBuiltin_calls (s : ByteArray) (n : Int) (S : Store) : Pure Tryz.prog n_i_IsBuiltin [.string s, .int .i64 n] S (.bool (builtB s n)) := by
  intro w hI
  refine calls_i_IsBuiltin ?_
  unfold sh_i_IsBuiltin
  obtain ⟨q, hq⟩ : ∃ q, isIn s cmps = q := ⟨_, rfl⟩
  have hq1 := hq
  refine ⟨fun t w' => t = .bool q ∧ Inv w [] [] S w', ?_, ?_⟩
  · unfold isIn cmps at hq
    iterate 8
      refine r_seql ?_
      refine condV (fun h => ⟨by rw [List.any_cons, h] at hq; rw [h, ← hq]; rfl, hI⟩) (fun h => ?_)
      rw [List.any_cons, h, Bool.false_or] at hq
    refine r_seql ⟨?_, hI⟩
    rw [← hq]; simp
  intro t _ _ _ _ _ _ _ _ _ w'
  rintro ⟨rfl, hI⟩
  refine condV (fun h => ?_) (fun h => ?_)
  · exact r_eql (done hI (by rw [builtB, if_pos (hq1.trans h)]))
  have e1 : builtB s n = if isIn s consts = true then decide (n = 0) else if isIn s tests = true then decide (n = 1) else if s = ⟨#[97, 114, 103]⟩ then decide (n = 3) else false := by
    rw [builtB, if_neg (by rw [hq1, h]; decide)]
  clear hq hq1 h
  obtain ⟨q, hq⟩ : ∃ q, isIn s consts = q := ⟨_, rfl⟩
  have hq1 := hq
  refine ⟨fun t w' => t = .bool q ∧ Inv w [] [] S w', ?_, ?_⟩
  · unfold isIn consts at hq
    refine r_seql ?_
    refine condV (fun h => ⟨by rw [List.any_cons, h] at hq; rw [h, ← hq]; rfl, hI⟩) (fun h => ?_)
    rw [List.any_cons, h, Bool.false_or] at hq
    refine r_seql ⟨?_, hI⟩
    rw [← hq]; simp
  intro _ t _ w'
  rintro ⟨rfl, hI⟩
  refine condV (fun h => ?_) (fun h => ?_)
  · exact r_eql (done hI (by rw [e1, if_pos (hq1.trans h)]))
  rw [if_neg (by rw [hq1, h]; decide)] at e1
  clear hq hq1 h
  obtain ⟨q, hq⟩ : ∃ q, isIn s tests = q := ⟨_, rfl⟩
  have hq1 := hq
  refine ⟨fun t w' => t = .bool q ∧ Inv w [] [] S w', ?_, ?_⟩
  · unfold isIn tests at hq
    iterate 3
      refine r_seql ?_
      refine condV (fun h => ⟨by rw [List.any_cons, h] at hq; rw [h, ← hq]; rfl, hI⟩) (fun h => ?_)
      rw [List.any_cons, h, Bool.false_or] at hq
    refine r_seql ⟨?_, hI⟩
    rw [← hq]; simp
  intro _ _ _ t _ w'
  rintro ⟨rfl, hI⟩
  refine condV (fun h => ?_) (fun h => ?_)
  · exact r_eql (done hI (by rw [e1, if_pos (hq1.trans h)]))
  rw [if_neg (by rw [hq1, h]; decide)] at e1
  refine r_seql ?_
  refine condP (fun h => ?_) (fun h => ?_)
  · exact r_eql (done hI (by rw [e1, if_pos h]))
  · exact done hI (by rw [e1, if_neg h])

theorem s_l2Level_calls (s : ByteArray) (S : Store) : Pure Tryz.prog n_s_l2Level [.string s] S (.int .i64 (levelN s)) := by
  intro w hI
  refine calls_s_l2Level ?_
  unfold sh_s_l2Level
  obtain ⟨q, hq⟩ : ∃ q, isIn s cmps = q := ⟨_, rfl⟩
  have hq1 := hq
  refine ⟨fun t w' => t = .bool q ∧ Inv w [] [] S w', ?_, ?_⟩
  · unfold isIn cmps at hq
    iterate 8
      refine r_seql ?_
      refine condV (fun h => ⟨by rw [List.any_cons, h] at hq; rw [h, ← hq]; rfl, hI⟩) (fun h => ?_)
      rw [List.any_cons, h, Bool.false_or] at hq
    refine r_seql ⟨?_, hI⟩
    rw [← hq]; simp
  intro _ _ _ _ _ _ _ _ t _ w'
  rintro ⟨rfl, hI⟩
  refine condV (fun h => ?_) (fun h => ?_)
  · exact done hI (by rw [show levelN s = 3 from if_pos (hq1.trans h)] <;> rfl)
  have e1 : levelN s = if isIn s sums = true then 2 else if isIn s prods = true then 1 else 0 := by
    rw [levelN, if_neg (by rw [hq1, h]; decide)]
  clear hq hq1 h
  obtain ⟨q, hq⟩ : ∃ q, isIn s sums = q := ⟨_, rfl⟩
  have hq1 := hq
  refine ⟨fun t w' => t = .bool q ∧ Inv w [] [] S w', ?_, ?_⟩
  · unfold isIn sums at hq
    refine r_seql ?_
    refine condV (fun h => ⟨by rw [List.any_cons, h] at hq; rw [h, ← hq]; rfl, hI⟩) (fun h => ?_)
    rw [List.any_cons, h, Bool.false_or] at hq
    refine r_seql ⟨?_, hI⟩
    rw [← hq]; simp
  intro _ t _ w'
  rintro ⟨rfl, hI⟩
  refine condV (fun h => ?_) (fun h => ?_)
  · exact done hI (by rw [show levelN s = 2 from e1.trans (if_pos (hq1.trans h))] <;> rfl)
  rw [if_neg (by rw [hq1, h]; decide)] at e1
  clear hq hq1 h
  obtain ⟨q, hq⟩ : ∃ q, isIn s prods = q := ⟨_, rfl⟩
  have hq1 := hq
  refine ⟨fun t w' => t = .bool q ∧ Inv w [] [] S w', ?_, ?_⟩
  · unfold isIn prods at hq
    iterate 2
      refine r_seql ?_
      refine condV (fun h => ⟨by rw [List.any_cons, h] at hq; rw [h, ← hq]; rfl, hI⟩) (fun h => ?_)
      rw [List.any_cons, h, Bool.false_or] at hq
    refine r_seql ⟨?_, hI⟩
    rw [← hq]; simp
  intro _ _ t _ w'
  rintro ⟨rfl, hI⟩
  refine condV (fun h => ?_) (fun h => ?_)
  · exact done hI (by rw [show levelN s = 1 from e1.trans (if_pos (hq1.trans h))] <;> rfl)
  · exact done hI (by rw [show levelN s = 0 from e1.trans (if_neg (by rw [hq1, h]; decide))] <;> rfl)
theorem i_OpLevel_calls (s : ByteArray) (S : Store) : Pure Tryz.prog n_i_OpLevel [.string s] S (.tuple #[.int .i64 (levelN s), .bool (decide (levelN s = 1) || decide (levelN s = 2))]) := by
  intro w hI
  refine calls_i_OpLevel ?_
  unfold sh_i_OpLevel
  obtain ⟨q, hq⟩ : ∃ q, isIn s cmps = q := ⟨_, rfl⟩
  have hq1 := hq
  refine ⟨fun t w' => t = .bool q ∧ Inv w [] [] S w', ?_, ?_⟩
  · unfold isIn cmps at hq
    iterate 8
      refine r_seql ?_
      refine condV (fun h => ⟨by rw [List.any_cons, h] at hq; rw [h, ← hq]; rfl, hI⟩) (fun h => ?_)
      rw [List.any_cons, h, Bool.false_or] at hq
    refine r_seql ⟨?_, hI⟩
    rw [← hq]; simp
  intro _ _ _ _ _ _ _ _ t _ w'
  rintro ⟨rfl, hI⟩
  refine condV (fun h => ?_) (fun h => ?_)
  · exact done hI (by rw [show levelN s = 3 from if_pos (hq1.trans h)] <;> rfl)
  have e1 : levelN s = if isIn s sums = true then 2 else if isIn s prods = true then 1 else 0 := by
    rw [levelN, if_neg (by rw [hq1, h]; decide)]
  clear hq hq1 h
  obtain ⟨q, hq⟩ : ∃ q, isIn s sums = q := ⟨_, rfl⟩
  have hq1 := hq
  refine ⟨fun t w' => t = .bool q ∧ Inv w [] [] S w', ?_, ?_⟩
  · unfold isIn sums at hq
    refine r_seql ?_
    refine condV (fun h => ⟨by rw [List.any_cons, h] at hq; rw [h, ← hq]; rfl, hI⟩) (fun h => ?_)
    rw [List.any_cons, h, Bool.false_or] at hq
    refine r_seql ⟨?_, hI⟩
    rw [← hq]; simp
  intro _ t _ w'
  rintro ⟨rfl, hI⟩
  refine condV (fun h => ?_) (fun h => ?_)
  · exact done hI (by rw [show levelN s = 2 from e1.trans (if_pos (hq1.trans h))] <;> rfl)
  rw [if_neg (by rw [hq1, h]; decide)] at e1
  clear hq hq1 h
  obtain ⟨q, hq⟩ : ∃ q, isIn s prods = q := ⟨_, rfl⟩
  have hq1 := hq
  refine ⟨fun t w' => t = .bool q ∧ Inv w [] [] S w', ?_, ?_⟩
  · unfold isIn prods at hq
    iterate 2
      refine r_seql ?_
      refine condV (fun h => ⟨by rw [List.any_cons, h] at hq; rw [h, ← hq]; rfl, hI⟩) (fun h => ?_)
      rw [List.any_cons, h, Bool.false_or] at hq
    refine r_seql ⟨?_, hI⟩
    rw [← hq]; simp
  intro _ _ t _ w'
  rintro ⟨rfl, hI⟩
  refine condV (fun h => ?_) (fun h => ?_)
  · exact done hI (by rw [show levelN s = 1 from e1.trans (if_pos (hq1.trans h))] <;> rfl)
  · exact done hI (by rw [show levelN s = 0 from e1.trans (if_neg (by rw [hq1, h]; decide))] <;> rfl)

theorem l4Cut_calls {t : T} {S : Store} {cs : List Value} (h : RdT S cs t) : Pure Tryz.prog n_s_l4Cut [.agg cs.toArray] S (.bool (cutB t)) := by
  intro w hI
  obtain ⟨kv, rfl, _, _, hs, hks⟩ := RdT.iff.1 h
  obtain ⟨k, n, s, ks⟩ := t
  simp only [T.name, T.kids, T.kind, T.n] at hs hks ⊢
  refine calls_s_l4Cut ?_
  unfold sh_s_l4Cut
  refine r_box hI fun b1 w' hI => ?_
  refine r_fieldL hI 0 rfl fo_iTerm_0 sc_int rfl ?_
  refine r_eql ?_
  rw [show cutB (.mk k n s ks) = (decide (k = 3) && (decide (s = ⟨#[33]⟩) && decide (ks.length = 0))) from rfl]
  cases h1 : decide (k = 3)
  · repeat (first | refine guard_true ?_ | refine guard_ne (by decide) ?_ | refine guard_undef ?_ | refine r_pickT ?_ | refine r_pickF ?_)
    exact done hI rfl
  · repeat (first | refine guard_true ?_ | refine guard_ne (by decide) ?_ | refine guard_undef ?_ | refine r_pickT ?_ | refine r_pickF ?_)
    refine r_fieldL hI 0 rfl fo_iTerm_2 sc_string rfl ?_
    refine r_seql ?_
    cases h2 : decide (s = ⟨#[33]⟩)
    · repeat (first | refine guard_true ?_ | refine guard_ne (by decide) ?_ | refine guard_undef ?_ | refine r_pickT ?_ | refine r_pickF ?_)
      exact done hI rfl
    · repeat (first | refine guard_true ?_ | refine guard_ne (by decide) ?_ | refine guard_undef ?_ | refine r_pickT ?_ | refine r_pickF ?_)
      refine r_fieldL hI 0 rfl fo_iTerm_3 sc_SiTerm rfl ?_
      refine r_lenSl hks sl_SiTerm ?_
      refine r_eql ?_
      repeat (first | refine guard_true ?_ | refine guard_ne (by decide) ?_ | refine guard_undef ?_ | refine r_pickT ?_ | refine r_pickF ?_)
      exact done hI (by simp)

theorem l4Plain_calls {t : T} {S : Store} {cs : List Value} (h : RdT S cs t) : Pure Tryz.prog n_s_l4Plain [.agg cs.toArray] S (.bool (plainB t)) := by
  intro w hI
  obtain ⟨kv, rfl, _, _, hs, hks⟩ := RdT.iff.1 h
  obtain ⟨k, n, s, ks⟩ := t
  simp only [T.name, T.kids, T.kind, T.n] at hs hks ⊢
  refine calls_s_l4Plain ?_
  unfold sh_s_l4Plain
  refine r_box hI fun b1 w' hI => ?_
  refine r_fieldL hI 0 rfl fo_iTerm_0 sc_int rfl ?_
  refine r_eql ?_
  rw [show plainB (.mk k n s ks) = (decide (k = 3) && (wordB s && (!builtB s ks.length && decide (levelN s = 0)))) from rfl]
  cases h1 : decide (k = 3)
  · repeat (first | refine guard_true ?_ | refine guard_ne (by decide) ?_ | refine guard_undef ?_ | refine r_pickT ?_ | refine r_pickF ?_)
    exact done hI rfl
  · repeat (first | refine guard_true ?_ | refine guard_ne (by decide) ?_ | refine guard_undef ?_ | refine r_pickT ?_ | refine r_pickF ?_)
    refine r_fieldL hI 0 rfl fo_iTerm_2 sc_string rfl ?_
    refine Run.callPure fn_s_l1Word nm_s_l1Word hI (l1Word_calls s hs S) fun w' hI => ?_
    cases h2 : wordB s
    · repeat (first | refine guard_true ?_ | refine guard_ne (by decide) ?_ | refine guard_undef ?_ | refine r_pickT ?_ | refine r_pickF ?_)
      exact done hI rfl
    · repeat (first | refine guard_true ?_ | refine guard_ne (by decide) ?_ | refine guard_undef ?_ | refine r_pickT ?_ | refine r_pickF ?_)
      refine r_fieldL hI 0 rfl fo_iTerm_2 sc_string rfl ?_
      refine r_fieldL hI 0 rfl fo_iTerm_3 sc_SiTerm rfl ?_
      refine r_lenSl hks sl_SiTerm ?_
      refine Run.callPure fn_s_IsBuiltin nm_s_IsBuiltin hI (sIsBuiltin_calls s _ S) fun w' hI => ?_
      refine r_not ?_
      cases h3 : builtB s ks.length
      · repeat (first | refine guard_true ?_ | refine guard_ne (by decide) ?_ | refine guard_undef ?_ | refine r_pickT ?_ | refine r_pickF ?_)
        refine r_fieldL hI 0 rfl fo_iTerm_2 sc_string rfl ?_
        refine Run.callPure fn_s_l2Level nm_s_l2Level hI (s_l2Level_calls s S) fun w' hI => ?_
        refine r_eql ?_
        repeat (first | refine guard_true ?_ | refine guard_ne (by decide) ?_ | refine guard_undef ?_ | refine r_pickT ?_ | refine r_pickF ?_)
        exact done hI rfl
      · repeat (first | refine guard_true ?_ | refine guard_ne (by decide) ?_ | refine guard_undef ?_ | refine r_pickT ?_ | refine r_pickF ?_)
        exact done hI rfl

theorem l4Goal_calls {t : T} {S : Store} {cs : List Value} (h : RdT S cs t) : Pure Tryz.prog n_s_l4Goal [.agg cs.toArray] S (.bool (cutB t || (plainB t || builtT t))) := by
  intro w hI
  have h0 := h
  obtain ⟨kv, rfl, _, _, hs, hks⟩ := RdT.iff.1 h
  obtain ⟨k, n, s, ks⟩ := t
  simp only [T.name, T.kids, T.kind, T.n] at h0 hs hks ⊢
  refine calls_s_l4Goal ?_
  unfold sh_s_l4Goal
  refine r_box hI fun b1 w' hI => ?_
  refine r_loadW hI 0 ag_iTerm rfl rfl ?_
  refine Run.callPure fn_s_l4Cut nm_s_l4Cut hI (l4Cut_calls h0) fun w' hI => ?_
  cases h1 : cutB (.mk k n s ks)
  · repeat (first | refine guard_true ?_ | refine guard_ne (by decide) ?_ | refine guard_undef ?_ | refine r_pickT ?_ | refine r_pickF ?_)
    refine r_loadW hI 0 ag_iTerm rfl rfl ?_
    refine Run.callPure fn_s_l4Plain nm_s_l4Plain hI (l4Plain_calls h0) fun w' hI => ?_
    cases h2 : plainB (.mk k n s ks)
    · repeat (first | refine guard_true ?_ | refine guard_ne (by decide) ?_ | refine guard_undef ?_ | refine r_pickT ?_ | refine r_pickF ?_)
      refine r_fieldL hI 0 rfl fo_iTerm_0 sc_int rfl ?_
      refine r_eql ?_
      rw [show builtT (.mk k n s ks) = (decide (k = 3) && builtB s ks.length) from rfl]
      cases h3 : decide (k = 3)
      · repeat (first | refine guard_true ?_ | refine guard_ne (by decide) ?_ | refine guard_undef ?_ | refine r_pickT ?_ | refine r_pickF ?_)
        exact done hI rfl
      · repeat (first | refine guard_true ?_ | refine guard_ne (by decide) ?_ | refine guard_undef ?_ | refine r_pickT ?_ | refine r_pickF ?_)
        refine r_fieldL hI 0 rfl fo_iTerm_2 sc_string rfl ?_
        refine r_fieldL hI 0 rfl fo_iTerm_3 sc_SiTerm rfl ?_
        refine r_lenSl hks sl_SiTerm ?_
        refine Run.callPure fn_s_IsBuiltin nm_s_IsBuiltin hI (sIsBuiltin_calls s _ S) fun w' hI => ?_
        repeat (first | refine guard_true ?_ | refine guard_ne (by decide) ?_ | refine guard_undef ?_ | refine r_pickT ?_ | refine r_pickF ?_)
        exact done hI rfl
    · repeat (first | refine guard_true ?_ | refine guard_ne (by decide) ?_ | refine guard_undef ?_ | refine r_pickT ?_ | refine r_pickF ?_)
      exact done hI rfl
  · repeat (first | refine guard_true ?_ | refine guard_ne (by decide) ?_ | refine guard_undef ?_ | refine r_pickT ?_ | refine r_pickF ?_)
    exact done hI rfl

theorem cnt_max {t : T} (h : wT t ≤ 1048576) : cntT t ≤ 4611686018427387904 := by
  have := cnt_wT t
  omega
theorem sGoalValid_calls {t : T} {S : Store} {cs : List Value} (h : RdT S cs t) (hc : wT t ≤ 1048576) : Pure Tryz.prog n_s_GoalValid [.agg cs.toArray] S (.bool (goalB t)) := by
  intro w hI
  have hl := h.length
  refine calls_s_GoalValid ?_
  unfold sh_s_GoalValid
  refine r_box hI fun b1 w' hI => ?_
  refine r_loadW hI 0 ag_iTerm rfl (by simpa [Value.cells] using hl) ?_
  refine Run.callPure fn_s_TermValid nm_s_TermValid hI (sTermValid_calls h (cnt_max hc)) fun w' hI => ?_
  rw [goalB]
  cases h1 : validB t
  · repeat (first | refine guard_true ?_ | refine guard_ne (by decide) ?_ | refine guard_undef ?_ | refine r_pickT ?_ | refine r_pickF ?_)
    exact done hI rfl
  · repeat (first | refine guard_true ?_ | refine guard_ne (by decide) ?_ | refine guard_undef ?_ | refine r_pickT ?_ | refine r_pickF ?_)
    refine r_loadW hI 0 ag_iTerm rfl (by simpa [Value.cells] using hl) ?_
    refine Run.callPure fn_s_l4Goal nm_s_l4Goal hI (l4Goal_calls h) fun w' hI => ?_
    repeat (first | refine guard_true ?_ | refine guard_ne (by decide) ?_ | refine guard_undef ?_ | refine r_pickT ?_ | refine r_pickF ?_)
    exact done hI rfl


theorem wL_mem' {ts : List T} {t : T} (h : t ∈ ts) : wT t ≤ wL ts := by
  induction ts with
  | nil => simp at h
  | cons u us ih =>
    rw [wL]
    rcases List.mem_cons.1 h with rfl | h
    · omega
    · have := ih h; omega
/- the loop of a list of goals, whatever comes behind it -/
theorem sClauseValid_calls {c : C} {S : Store} {cs : List Value} (h : RdC S cs c) (hc : wC c ≤ 1048576) : Pure Tryz.prog n_s_ClauseValid [.agg cs.toArray] S (.bool (clauseB c)) := by
  intro w hI
  obtain ⟨hd, ks, rfl, h1, h2⟩ := h
  have h1' := h1
  obtain ⟨kv, rfl, g1, g2, g3, g4⟩ := RdT.iff.1 h1
  have hlen := h2.le
  simp only [maxLen] at hlen
  unfold wC at hc
  refine calls_s_ClauseValid ?_
  unfold sh_s_ClauseValid
  refine r_box hI fun b1 w' hI => ?_
  refine ⟨fun i w' => ∃ k : Nat, k ≤ c.body.length ∧ k ≤ 7 ∧ i = .int .i64 k ∧ (∀ j (h : j < c.body.length), j < k → goalB c.body[j] = true) ∧ Inv w [] [.blk b1 (.cells #[.int .i64 c.head.kind, .int .i64 c.head.n, .string c.head.name, kv, ks] t_iClause)] S w',
    fun i _ => c.body.length - (intOf i).toNat, ⟨0, Nat.zero_le _, by omega, rfl, fun j _ h => by omega, hI⟩, ?_⟩
  intro t3 _ _ _ _ _ _ _ _ _ _ _ _ _ _ _ _ _ _ _ w'
  rintro ⟨k, hk, hk7, rfl, hrel, hI⟩
  refine ⟨fun t w' => t = .bool (decide (k < c.body.length ∧ k ≤ 6)) ∧ Inv w [] [.blk b1 (.cells #[.int .i64 c.head.kind, .int .i64 c.head.n, .string c.head.name, kv, ks] t_iClause)] S w', ?_, ?_⟩
  · refine r_fieldL hI 0 rfl fo_iClause_1 sc_SiTerm rfl ?_
    refine r_lenSl h2 sl_SiTerm ?_
    refine r_lss ?_
    by_cases hki : (k : Int) < c.body.length
    · rw [decide_eq_true hki]
      repeat (first | refine guard_true ?_ | refine guard_ne (by decide) ?_ | refine guard_undef ?_ | refine r_pickT ?_ | refine r_pickF ?_)
      refine r_leq ?_
      repeat (first | refine guard_true ?_ | refine guard_ne (by decide) ?_ | refine guard_undef ?_ | refine r_pickT ?_ | refine r_pickF ?_)
      refine ⟨?_, hI⟩
      congr 1
      rw [Bool.eq_iff_iff]; simp; omega
    · rw [decide_eq_false hki]
      repeat (first | refine guard_true ?_ | refine guard_ne (by decide) ?_ | refine guard_undef ?_ | refine r_pickT ?_ | refine r_pickF ?_)
      exact ⟨by rw [decide_eq_false (by omega)], hI⟩
  intro t _ _ _ _ _ _ _ _ w'
  rintro ⟨rfl, hI⟩
  refine condP (fun hki => ?_) (fun hki => ?_)
  · obtain ⟨hk', hk6⟩ := hki
    refine r_fieldL hI 0 rfl fo_iClause_1 sc_SiTerm rfl ?_
    refine r_elem hI h2 sl_SiTerm ag_iTerm hk' (fun _ _ => RdT.length) fun cs' hcs' => ?_
    have hwm := wL_mem' (List.getElem_mem hk')
    refine Run.callPure fn_s_GoalValid nm_s_GoalValid hI (sGoalValid_calls hcs' (by omega)) fun w' hI => ?_
    refine r_not ?_
    refine condV (fun hb => done hI ?_) (fun hb => ?_)
    · have hb' : goalB c.body[k] = false := by simpa using hb
      have : c.body.all goalB = false := by
        rw [← Bool.not_eq_true, List.all_eq_true]
        intro hall
        rw [hall _ (List.getElem_mem hk')] at hb'
        cases hb'
      rw [clauseB, this]
      simp
    · have hb' : goalB c.body[k] = true := by simpa using hb
      refine r_add (by omega) ?_
      refine ⟨⟨k + 1, hk', by omega, rfl, fun j hj hjk => ?_, hI⟩, by simp [intOf]; omega⟩
      by_cases e : j = k
      · subst e; exact hb'
      · exact hrel j hj (by omega)
  · refine r_fieldL hI 0 rfl fo_iClause_1 sc_SiTerm rfl ?_
    refine r_lenSl h2 sl_SiTerm ?_
    refine r_leq ?_
    rw [clauseB]
    by_cases hle : c.body.length ≤ 6
    · have hall : c.body.all goalB = true := by
        rw [List.all_eq_true]
        intro x hx
        obtain ⟨j, hj, rfl⟩ := List.getElem_of_mem hx
        exact hrel j hj (by omega)
      rw [decide_eq_true (show (c.body.length : Int) ≤ 6 by omega), decide_eq_true hle, hall]
      repeat (first | refine guard_true ?_ | refine guard_ne (by decide) ?_ | refine guard_undef ?_ | refine r_pickT ?_ | refine r_pickF ?_)
      refine r_field fo_iClause_0 ?_
      refine r_loadLA hI 0 [.int .i64 c.head.kind, .int .i64 c.head.n, .string c.head.name, kv] ag_iTerm rfl rfl ?_ ?_
      · intro j v hj
        match j with
        | 0 | 1 | 2 | 3 => exact hj
        | j + 4 => simp at hj
      refine Run.callPure fn_s_TermValid nm_s_TermValid hI (sTermValid_calls h1' (cnt_max (by omega))) fun w' hI => ?_
      cases hv : validB c.head
      · repeat (first | refine guard_true ?_ | refine guard_ne (by decide) ?_ | refine guard_undef ?_ | refine r_pickT ?_ | refine r_pickF ?_)
        exact done hI rfl
      · repeat (first | refine guard_true ?_ | refine guard_ne (by decide) ?_ | refine guard_undef ?_ | refine r_pickT ?_ | refine r_pickF ?_)
        refine r_field fo_iClause_0 ?_
        refine r_loadLA hI 0 [.int .i64 c.head.kind, .int .i64 c.head.n, .string c.head.name, kv] ag_iTerm rfl rfl ?_ ?_
        · intro j v hj
          match j with
          | 0 | 1 | 2 | 3 => exact hj
          | j + 4 => simp at hj
        refine Run.callPure fn_s_l4Plain nm_s_l4Plain hI (l4Plain_calls h1') fun w' hI => ?_
        repeat (first | refine guard_true ?_ | refine guard_ne (by decide) ?_ | refine guard_undef ?_ | refine r_pickT ?_ | refine r_pickF ?_)
        exact done hI rfl
    · rw [decide_eq_false (show ¬ (c.body.length : Int) ≤ 6 by omega), decide_eq_false hle]
      repeat (first | refine guard_true ?_ | refine guard_ne (by decide) ?_ | refine guard_undef ?_ | refine r_pickT ?_ | refine r_pickF ?_)
      exact done hI rfl

theorem s_ProgramValid_calls {xs : List C} {S : Store} {v : Value} (h : RdSl S 5 (RdC S) v xs) (hc : wP xs ≤ 1048576) : Pure Tryz.prog n_s_ProgramValid [v] S (.bool (progB xs)) := by
  intro w hI
  have hlen := h.le
  simp only [maxLen] at hlen
  refine calls_s_ProgramValid ?_
  unfold sh_s_ProgramValid
  refine ⟨fun i w' => ∃ k : Nat, k ≤ xs.length ∧ k ≤ 20 + 1 ∧ i = .int .i64 k ∧ (∀ j (h : j < xs.length), j < k → clauseB xs[j] = true) ∧ Inv w [] [] S w',
    fun i _ => xs.length - (intOf i).toNat, ⟨0, Nat.zero_le _, by omega, rfl, fun j _ h => by omega, hI⟩, ?_⟩
  intro t3 _ _ _ _ _ _ _ _ _ _ _ _ _ _ _ _ _ w'
  rintro ⟨k, hk, hk7, rfl, hrel, hI⟩
  refine ⟨fun t w' => t = .bool (decide (k < xs.length ∧ k ≤ 20)) ∧ Inv w [] [] S w', ?_, ?_⟩
  · refine r_lenSl h sl_SiClause ?_
    refine r_lss ?_
    by_cases hki : (k : Int) < xs.length
    · rw [decide_eq_true hki]
      repeat (first | refine guard_true ?_ | refine guard_ne (by decide) ?_ | refine guard_undef ?_ | refine r_pickT ?_ | refine r_pickF ?_)
      refine r_leq ?_
      repeat (first | refine guard_true ?_ | refine guard_ne (by decide) ?_ | refine guard_undef ?_ | refine r_pickT ?_ | refine r_pickF ?_)
      refine ⟨?_, hI⟩
      congr 1
      rw [Bool.eq_iff_iff]; simp; omega
    · rw [decide_eq_false hki]
      repeat (first | refine guard_true ?_ | refine guard_ne (by decide) ?_ | refine guard_undef ?_ | refine r_pickT ?_ | refine r_pickF ?_)
      exact ⟨by rw [decide_eq_false (by omega)], hI⟩
  intro t _ _ _ _ _ _ _ w'
  rintro ⟨rfl, hI⟩
  refine condP (fun hki => ?_) (fun hki => ?_)
  · obtain ⟨hk', hk6⟩ := hki
    refine r_elem hI h sl_SiClause ag_iClause hk' (fun _ _ => RdC.length) fun cs' hcs' => ?_
    have hwm := wP_mem (List.getElem_mem hk')
    refine Run.callPure fn_s_ClauseValid nm_s_ClauseValid hI (sClauseValid_calls hcs' (by omega)) fun w' hI => ?_
    refine r_not ?_
    refine condV (fun hb => done hI ?_) (fun hb => ?_)
    · have hb' : clauseB xs[k] = false := by simpa using hb
      have : xs.all clauseB = false := by
        rw [← Bool.not_eq_true, List.all_eq_true]
        intro hall
        rw [hall _ (List.getElem_mem hk')] at hb'
        cases hb'
      rw [progB, this, Bool.and_false]
    · have hb' : clauseB xs[k] = true := by simpa using hb
      refine r_add (by omega) ?_
      refine ⟨⟨k + 1, hk', by omega, rfl, fun j hj hjk => ?_, hI⟩, by simp [intOf]; omega⟩
      by_cases e : j = k
      · subst e; exact hb'
      · exact hrel j hj (by omega)
  · refine r_lenSl h sl_SiClause ?_
    refine r_leq ?_
    rw [progB]
    refine done hI ?_
    by_cases hle : xs.length ≤ 20
    · have hall : xs.all clauseB = true := by
        rw [List.all_eq_true]
        intro x hx
        obtain ⟨j, hj, rfl⟩ := List.getElem_of_mem hx
        exact hrel j hj (by omega)
      rw [decide_eq_true (show (xs.length : Int) ≤ 20 by omega), decide_eq_true hle, hall]; rfl
    · rw [decide_eq_false (show ¬ (xs.length : Int) ≤ 20 by omega), decide_eq_false hle]; rfl

/- the program's side -/
theorem isOp_calls (s : ByteArray) (S : Store) : Pure Tryz.prog n_i_isOp [.string s] S (.bool (decide (0 < levelN s))) := by
  intro w hI
  refine calls_i_isOp ?_
  unfold sh_i_isOp
  refine Run.callPure fn_i_OpLevel nm_i_OpLevel hI (i_OpLevel_calls s S) fun w' hI => ?_
  refine r_extract rfl ?_
  refine r_extract rfl ?_
  refine r_gtr ?_
  exact done hI rfl
theorem isBuilt_calls {t : T} {S : Store} {cs : List Value} (h : RdT S cs t) : Pure Tryz.prog n_i_isBuilt [.agg cs.toArray] S (.bool (builtT t)) := by
  intro w hI
  obtain ⟨kv, rfl, _, _, hs, hks⟩ := RdT.iff.1 h
  obtain ⟨k, n, s, ks⟩ := t
  simp only [T.name, T.kids, T.kind, T.n] at hs hks ⊢
  refine calls_i_isBuilt ?_
  unfold sh_i_isBuilt
  refine r_box hI fun b1 w' hI => ?_
  refine r_fieldL hI 0 rfl fo_iTerm_0 sc_int rfl ?_
  refine r_eql ?_
  rw [show builtT (.mk k n s ks) = (decide (k = 3) && builtB s ks.length) from rfl]
  cases h3 : decide (k = 3)
  · repeat (first | refine guard_true ?_ | refine guard_ne (by decide) ?_ | refine guard_undef ?_ | refine r_pickT ?_ | refine r_pickF ?_)
    exact done hI rfl
  · repeat (first | refine guard_true ?_ | refine guard_ne (by decide) ?_ | refine guard_undef ?_ | refine r_pickT ?_ | refine r_pickF ?_)
    refine r_fieldL hI 0 rfl fo_iTerm_2 sc_string rfl ?_
    refine r_fieldL hI 0 rfl fo_iTerm_3 sc_SiTerm rfl ?_
    refine r_lenSl hks sl_SiTerm ?_
    refine Run.callPure fn_i_IsBuiltin nm_i_IsBuiltin hI (iIsBuiltin_calls s _ S) fun w' hI => ?_
    repeat (first | refine guard_true ?_ | refine guard_ne (by decide) ?_ | refine guard_undef ?_ | refine r_pickT ?_ | refine r_pickF ?_)
    exact done hI rfl
theorem isPlain_calls {t : T} {S : Store} {cs : List Value} (h : RdT S cs t) : Pure Tryz.prog n_i_isPlain [.agg cs.toArray] S (.bool (plainB t)) := by
  intro w hI
  have h0 := h
  obtain ⟨kv, rfl, _, _, hs, hks⟩ := RdT.iff.1 h
  obtain ⟨k, n, s, ks⟩ := t
  simp only [T.name, T.kids, T.kind, T.n] at h0 hs hks ⊢
  refine calls_i_isPlain ?_
  unfold sh_i_isPlain
  refine r_box hI fun b1 w' hI => ?_
  refine r_fieldL hI 0 rfl fo_iTerm_0 sc_int rfl ?_
  refine r_eql ?_
  have hb : builtT (.mk k n s ks) = (decide (k = 3) && builtB s ks.length) := rfl
  rw [show plainB (.mk k n s ks) = (decide (k = 3) && (wordB s && (!builtB s ks.length && decide (levelN s = 0)))) from rfl]
  cases h1 : decide (k = 3)
  · repeat (first | refine guard_true ?_ | refine guard_ne (by decide) ?_ | refine guard_undef ?_ | refine r_pickT ?_ | refine r_pickF ?_)
    exact done hI rfl
  · rw [h1] at hb
    repeat (first | refine guard_true ?_ | refine guard_ne (by decide) ?_ | refine guard_undef ?_ | refine r_pickT ?_ | refine r_pickF ?_)
    refine r_fieldL hI 0 rfl fo_iTerm_2 sc_string rfl ?_
    refine Run.callPure fn_i_isLetters nm_i_isLetters hI (isLetters_calls s hs S) fun w' hI => ?_
    cases h2 : wordB s
    · repeat (first | refine guard_true ?_ | refine guard_ne (by decide) ?_ | refine guard_undef ?_ | refine r_pickT ?_ | refine r_pickF ?_)
      exact done hI rfl
    · repeat (first | refine guard_true ?_ | refine guard_ne (by decide) ?_ | refine guard_undef ?_ | refine r_pickT ?_ | refine r_pickF ?_)
      refine r_fieldL hI 0 rfl fo_iTerm_2 sc_string rfl ?_
      refine Run.callPure fn_i_isOp nm_i_isOp hI (isOp_calls s S) fun w' hI => ?_
      refine r_not ?_
      rw [level_pos]
      cases h3 : decide (levelN s = 0)
      · repeat (first | refine guard_true ?_ | refine guard_ne (by decide) ?_ | refine guard_undef ?_ | refine r_pickT ?_ | refine r_pickF ?_)
        exact done hI (by simp)
      · repeat (first | refine guard_true ?_ | refine guard_ne (by decide) ?_ | refine guard_undef ?_ | refine r_pickT ?_ | refine r_pickF ?_)
        refine r_loadW hI 0 ag_iTerm rfl rfl ?_
        refine Run.callPure fn_i_isBuilt nm_i_isBuilt hI (isBuilt_calls h0) fun w' hI => ?_
        refine r_not ?_
        repeat (first | refine guard_true ?_ | refine guard_ne (by decide) ?_ | refine guard_undef ?_ | refine r_pickT ?_ | refine r_pickF ?_)
        exact done hI (by rw [hb]; simp)
theorem isAtom_calls {t : T} {S : Store} {cs : List Value} (h : RdT S cs t) : Pure Tryz.prog n_i_isAtom [.agg cs.toArray] S (.bool (atomB t)) := by
  intro w hI
  obtain ⟨kv, rfl, _, _, hs, hks⟩ := RdT.iff.1 h
  obtain ⟨k, n, s, ks⟩ := t
  simp only [T.name, T.kids, T.kind, T.n] at hs hks ⊢
  refine calls_i_isAtom ?_
  unfold sh_i_isAtom
  refine r_box hI fun b1 w' hI => ?_
  refine r_fieldL hI 0 rfl fo_iTerm_0 sc_int rfl ?_
  refine r_eql ?_
  rw [show atomB (.mk k n s ks) = (decide (k = 3) && decide (ks.length = 0)) from rfl]
  cases h3 : decide (k = 3)
  · repeat (first | refine guard_true ?_ | refine guard_ne (by decide) ?_ | refine guard_undef ?_ | refine r_pickT ?_ | refine r_pickF ?_)
    exact done hI rfl
  · repeat (first | refine guard_true ?_ | refine guard_ne (by decide) ?_ | refine guard_undef ?_ | refine r_pickT ?_ | refine r_pickF ?_)
    refine r_fieldL hI 0 rfl fo_iTerm_3 sc_SiTerm rfl ?_
    refine r_lenSl hks sl_SiTerm ?_
    refine r_eql ?_
    repeat (first | refine guard_true ?_ | refine guard_ne (by decide) ?_ | refine guard_undef ?_ | refine r_pickT ?_ | refine r_pickF ?_)
    exact done hI (by simp)
theorem isCut_calls {t : T} {S : Store} {cs : List Value} (h : RdT S cs t) : Pure Tryz.prog n_i_isCut [.agg cs.toArray] S (.bool (cutB t)) := by
  intro w hI
  have h0 := h
  obtain ⟨kv, rfl, _, _, hs, hks⟩ := RdT.iff.1 h
  obtain ⟨k, n, s, ks⟩ := t
  simp only [T.name, T.kids, T.kind, T.n] at h0 hs hks ⊢
  refine calls_i_isCut ?_
  unfold sh_i_isCut
  refine r_box hI fun b1 w' hI => ?_
  refine r_loadW hI 0 ag_iTerm rfl rfl ?_
  refine Run.callPure fn_i_isAtom nm_i_isAtom hI (isAtom_calls h0) fun w' hI => ?_
  rw [show cutB (.mk k n s ks) = (decide (k = 3) && (decide (s = ⟨#[33]⟩) && decide (ks.length = 0))) from rfl]
  cases h1 : atomB (.mk k n s ks)
  · repeat (first | refine guard_true ?_ | refine guard_ne (by decide) ?_ | refine guard_undef ?_ | refine r_pickT ?_ | refine r_pickF ?_)
    refine done hI ?_
    replace h1 : (decide (k = 3) && decide (ks.length = 0)) = false := h1
    cases h2 : decide (k = 3)
    · rfl
    · rw [h2, Bool.true_and] at h1
      rw [h1, Bool.and_false]; rfl
  · repeat (first | refine guard_true ?_ | refine guard_ne (by decide) ?_ | refine guard_undef ?_ | refine r_pickT ?_ | refine r_pickF ?_)
    refine r_fieldL hI 0 rfl fo_iTerm_2 sc_string rfl ?_
    refine r_seql ?_
    repeat (first | refine guard_true ?_ | refine guard_ne (by decide) ?_ | refine guard_undef ?_ | refine r_pickT ?_ | refine r_pickF ?_)
    refine done hI ?_
    replace h1 : (decide (k = 3) && decide (ks.length = 0)) = true := h1
    rw [Bool.and_eq_true] at h1
    rw [h1.1, h1.2]; simp
theorem iGoalValid_calls {t : T} {S : Store} {cs : List Value} (h : RdT S cs t) : Pure Tryz.prog n_i_GoalValid [.agg cs.toArray] S (.bool (goalB t)) := by
  intro w hI
  have hl := h.length
  refine calls_i_GoalValid ?_
  unfold sh_i_GoalValid
  refine r_box hI fun b1 w' hI => ?_
  refine r_loadW hI 0 ag_iTerm rfl (by simpa [Value.cells] using hl) ?_
  refine Run.callPure fn_i_TermValid nm_i_TermValid hI (iTermValid_calls h) fun w' hI => ?_
  rw [goalB]
  cases h1 : validB t
  · repeat (first | refine guard_true ?_ | refine guard_ne (by decide) ?_ | refine guard_undef ?_ | refine r_pickT ?_ | refine r_pickF ?_)
    exact done hI rfl
  · repeat (first | refine guard_true ?_ | refine guard_ne (by decide) ?_ | refine guard_undef ?_ | refine r_pickT ?_ | refine r_pickF ?_)
    refine r_loadW hI 0 ag_iTerm rfl (by simpa [Value.cells] using hl) ?_
    refine Run.callPure fn_i_isPlain nm_i_isPlain hI (isPlain_calls h) fun w' hI => ?_
    cases h2 : plainB t
    · repeat (first | refine guard_true ?_ | refine guard_ne (by decide) ?_ | refine guard_undef ?_ | refine r_pickT ?_ | refine r_pickF ?_)
      refine r_loadW hI 0 ag_iTerm rfl (by simpa [Value.cells] using hl) ?_
      refine Run.callPure fn_i_isBuilt nm_i_isBuilt hI (isBuilt_calls h) fun w' hI => ?_
      cases h3 : builtT t
      · repeat (first | refine guard_true ?_ | refine guard_ne (by decide) ?_ | refine guard_undef ?_ | refine r_pickT ?_ | refine r_pickF ?_)
        refine r_loadW hI 0 ag_iTerm rfl (by simpa [Value.cells] using hl) ?_
        refine Run.callPure fn_i_isCut nm_i_isCut hI (isCut_calls h) fun w' hI => ?_
        repeat (first | refine guard_true ?_ | refine guard_ne (by decide) ?_ | refine guard_undef ?_ | refine r_pickT ?_ | refine r_pickF ?_)
        exact done hI (by simp)
      · repeat (first | refine guard_true ?_ | refine guard_ne (by decide) ?_ | refine guard_undef ?_ | refine r_pickT ?_ | refine r_pickF ?_)
        exact done hI (by simp)
    · repeat (first | refine guard_true ?_ | refine guard_ne (by decide) ?_ | refine guard_undef ?_ | refine r_pickT ?_ | refine r_pickF ?_)
      exact done hI (by simp)

theorem any_not {α : Type} (p : α → Bool) : ∀ xs : List α, (!xs.any fun x => !p x) = xs.all p
  | [] => rfl
  | x :: xs => by
    rw [List.any_cons, List.all_cons, ← any_not p xs]
    cases p x <;> simp

theorem igoalsValid_1_calls {x : T} {S : Store} {cs : List Value} (h : RdT S cs x) : Pure Tryz.prog n_i_goalsValid_1 [.agg cs.toArray] S (.bool (!goalB x)) := by
  intro w hI
  have hl := h.length
  refine calls_i_goalsValid_1 ?_
  unfold sh_i_goalsValid_1
  refine r_box hI fun b1 w' hI => ?_
  refine r_loadW hI 0 ag_iTerm rfl (by simpa [Value.cells] using hl) ?_
  refine Run.callPure fn_i_GoalValid nm_i_GoalValid hI (iGoalValid_calls h) fun w' hI => ?_
  refine r_not (done hI rfl)
theorem igoalsValid_calls {xs : List T} {S : Store} {v : Value} (h : RdSl S 4 (RdT S) v xs) : Pure Tryz.prog n_i_goalsValid [v] S (.bool (queryB xs)) := by
  intro w hI
  refine calls_i_goalsValid ?_
  unfold sh_i_goalsValid
  refine r_lenSl h sl_SiTerm ?_
  refine r_leq ?_
  rw [queryB]
  by_cases hle : xs.length ≤ 6
  · rw [decide_eq_true (show (xs.length : Int) ≤ 6 by omega), decide_eq_true hle]
    repeat (first | refine guard_true ?_ | refine guard_ne (by decide) ?_ | refine guard_undef ?_ | refine r_pickT ?_ | refine r_pickF ?_)
    have hcb : Cb Tryz.prog n_i_goalsValid_1 _ [] S (fun _ : Unit => []) (fun _ => True) (fun _ x => (!goalB x, ())) (fun v x => ∃ cs, v = .agg cs.toArray ∧ RdT S cs x) xs :=
      Cb.pure [] fn_i_goalsValid_1 nm_i_goalsValid_1 fun x v _ => by
        rintro ⟨cs, rfl, hcs⟩ w1 hI
        exact (igoalsValid_1_calls hcs w1 hI).mono fun e w' ⟨he, hI⟩ => ⟨_, _, _, he, hI, Ext.refl _ _ _, rfl, rfl, rfl⟩
    refine Run.call0 fn_x_ContainsFunc_Term nm_x_ContainsFunc_Term hI (ContainsFunc_Term_of hcb h (st := ()) trivial) fun v' I' S' w' => ?_
    rintro ⟨rfl, rfl, rfl⟩ _ hI
    refine r_not ?_
    repeat (first | refine guard_true ?_ | refine guard_ne (by decide) ?_ | refine guard_undef ?_ | refine r_pickT ?_ | refine r_pickF ?_)
    refine done hI ?_
    rw [anyF_pure (fun x => !goalB x) xs, any_not]; rfl
  · rw [decide_eq_false (show ¬ (xs.length : Int) ≤ 6 by omega), decide_eq_false hle]
    repeat (first | refine guard_true ?_ | refine guard_ne (by decide) ?_ | refine guard_undef ?_ | refine r_pickT ?_ | refine r_pickF ?_)
    exact done hI rfl
theorem iClauseValid_calls {c : C} {S : Store} {cs : List Value} (h : RdC S cs c) : Pure Tryz.prog n_i_ClauseValid [.agg cs.toArray] S (.bool (clauseB c)) := by
  intro w hI
  obtain ⟨hd, ks, rfl, h1, h2⟩ := h
  have h1' := h1
  obtain ⟨kv, rfl, g1, g2, g3, g4⟩ := RdT.iff.1 h1
  have hfin : clauseB c = (validB c.head && (plainB c.head && queryB c.body)) := by
    unfold clauseB queryB
    cases validB c.head <;> cases plainB c.head <;> simp
  refine calls_i_ClauseValid ?_
  unfold sh_i_ClauseValid
  rw [hfin]
  refine r_box hI fun b1 w' hI => ?_
  refine r_field fo_iClause_0 ?_
  refine r_loadLA hI 0 [.int .i64 c.head.kind, .int .i64 c.head.n, .string c.head.name, kv] ag_iTerm rfl rfl ?_ ?_
  · intro j v hj
    match j with
    | 0 | 1 | 2 | 3 => exact hj
    | j + 4 => simp at hj
  refine Run.callPure fn_i_TermValid nm_i_TermValid hI (iTermValid_calls h1') fun w' hI => ?_
  cases hv : validB c.head
  · repeat (first | refine guard_true ?_ | refine guard_ne (by decide) ?_ | refine guard_undef ?_ | refine r_pickT ?_ | refine r_pickF ?_)
    exact done hI rfl
  · repeat (first | refine guard_true ?_ | refine guard_ne (by decide) ?_ | refine guard_undef ?_ | refine r_pickT ?_ | refine r_pickF ?_)
    refine r_field fo_iClause_0 ?_
    refine r_loadLA hI 0 [.int .i64 c.head.kind, .int .i64 c.head.n, .string c.head.name, kv] ag_iTerm rfl rfl ?_ ?_
    · intro j v hj
      match j with
      | 0 | 1 | 2 | 3 => exact hj
      | j + 4 => simp at hj
    refine Run.callPure fn_i_isPlain nm_i_isPlain hI (isPlain_calls h1') fun w' hI => ?_
    cases hp : plainB c.head
    · repeat (first | refine guard_true ?_ | refine guard_ne (by decide) ?_ | refine guard_undef ?_ | refine r_pickT ?_ | refine r_pickF ?_)
      exact done hI rfl
    · repeat (first | refine guard_true ?_ | refine guard_ne (by decide) ?_ | refine guard_undef ?_ | refine r_pickT ?_ | refine r_pickF ?_)
      refine r_fieldL hI 0 rfl fo_iClause_1 sc_SiTerm rfl ?_
      refine Run.callPure fn_i_goalsValid nm_i_goalsValid hI (igoalsValid_calls h2) fun w' hI => ?_
      repeat (first | refine guard_true ?_ | refine guard_ne (by decide) ?_ | refine guard_undef ?_ | refine r_pickT ?_ | refine r_pickF ?_)
      exact done hI rfl

theorem iProgramValid_1_calls {x : C} {S : Store} {cs : List Value} (h : RdC S cs x) : Pure Tryz.prog n_i_ProgramValid_1 [.agg cs.toArray] S (.bool (!clauseB x)) := by
  intro w hI
  have hl := h.length
  refine calls_i_ProgramValid_1 ?_
  unfold sh_i_ProgramValid_1
  refine r_box hI fun b1 w' hI => ?_
  refine r_loadW hI 0 ag_iClause rfl (by simpa [Value.cells] using hl) ?_
  refine Run.callPure fn_i_ClauseValid nm_i_ClauseValid hI (iClauseValid_calls h) fun w' hI => ?_
  refine r_not (done hI rfl)
theorem iProgramValid_calls {xs : List C} {S : Store} {v : Value} (h : RdSl S 5 (RdC S) v xs) : Pure Tryz.prog n_i_ProgramValid [v] S (.bool (progB xs)) := by
  intro w hI
  refine calls_i_ProgramValid ?_
  unfold sh_i_ProgramValid
  refine r_lenSl h sl_SiClause ?_
  refine r_leq ?_
  rw [progB]
  by_cases hle : xs.length ≤ 20
  · rw [decide_eq_true (show (xs.length : Int) ≤ 20 by omega), decide_eq_true hle]
    repeat (first | refine guard_true ?_ | refine guard_ne (by decide) ?_ | refine guard_undef ?_ | refine r_pickT ?_ | refine r_pickF ?_)
    have hcb : Cb Tryz.prog n_i_ProgramValid_1 _ [] S (fun _ : Unit => []) (fun _ => True) (fun _ x => (!clauseB x, ())) (fun v x => ∃ cs, v = .agg cs.toArray ∧ RdC S cs x) xs :=
      Cb.pure [] fn_i_ProgramValid_1 nm_i_ProgramValid_1 fun x v _ => by
        rintro ⟨cs, rfl, hcs⟩ w1 hI
        exact (iProgramValid_1_calls hcs w1 hI).mono fun e w' ⟨he, hI⟩ => ⟨_, _, _, he, hI, Ext.refl _ _ _, rfl, rfl, rfl⟩
    refine Run.call0 fn_x_ContainsFunc_Clause nm_x_ContainsFunc_Clause hI (ContainsFunc_Clause_of hcb h (st := ()) trivial) fun v' I' S' w' => ?_
    rintro ⟨rfl, rfl, rfl⟩ _ hI
    refine r_not ?_
    repeat (first | refine guard_true ?_ | refine guard_ne (by decide) ?_ | refine guard_undef ?_ | refine r_pickT ?_ | refine r_pickF ?_)
    refine done hI ?_
    rw [anyF_pure (fun x => !clauseB x) xs, any_not]; rfl
  · rw [decide_eq_false (show ¬ (xs.length : Int) ≤ 20 by omega), decide_eq_false hle]
    repeat (first | refine guard_true ?_ | refine guard_ne (by decide) ?_ | refine guard_undef ?_ | refine r_pickT ?_ | refine r_pickF ?_)
    exact done hI rfl
end Go.Proofs.YtaaihodhhacapaaGreat

/- A row of a function's own, handed to a function that only reads; rows of numbers. -/
namespace Go.Proofs.YtaaihodhhacapaaGreat
open Go Go.RowKit
attribute [local irreducible] Run CondV GuardV LoadV

def RowRd (S : Store) (v : Value) (e : TypeId) (k n : Nat) (xs : List Value) : Prop :=
  xs.length = n * k ∧ ((v = .slice none 0 0 ∧ n = 0) ∨ ∃ g cap cur, v = .slice (some ⟨g, 0, none⟩) n cap ∧ S g = some (.cells cur e) ∧ n ≤ cap ∧ cap ≤ maxLen ∧ cur.size = cap * k ∧ cur.toList.take (n * k) = xs)
theorem Inv.lend {w0 w : World} {X : List Nat} {A : List Item} {S : Store} {v : Value} {e : TypeId} {k n : Nat} {xs : List Value} (h : Inv w0 X (A ++ [.row v e k n xs]) S w) :
    ∃ S', Sle S S' ∧ RowRd S' v e k n xs ∧ Inv w0 X A S' w ∧ ∀ B w', Inv w0 X B S' w' → Inv w0 X (B ++ [.row v e k n xs]) S w' := by
  have hm : w.ownsRow 0 e k v n xs := h.its (.row v e k n xs) (by simp)
  obtain ⟨hl, hm⟩ := hm
  rcases hm with ⟨rfl, rfl⟩ | ⟨g, cap, cur, rfl, _, hg, hnc, hcm, hcs, ht⟩
  · have : xs = [] := List.eq_nil_of_length_eq_zero (by rw [hl, Nat.zero_mul])
    subst this
    exact ⟨S, Sle.refl S, ⟨hl, .inl ⟨rfl, rfl⟩⟩, h.sub (List.sublist_append_left _ _), fun B w' hB => hB.rowNil e k⟩
  · have hf : feet (A ++ [Item.blk g (.cells cur e)]) = feet (A ++ [Item.row (.slice (some ⟨g, 0, none⟩) n cap) e k n xs]) := by
      simp [feet, Item.foot, Value.ownBlock]
    have hg' : g ∈ feet (A ++ [Item.row (.slice (some ⟨g, 0, none⟩) n cap) e k n xs]) := by simp [feet, Item.foot, Value.ownBlock]
    have h' : Inv w0 X (A ++ [Item.blk g (.cells cur e)]) S w := by
      refine ⟨h.size, h.os, h.tape, h.output, h.old, fun it hit => ?_, by rw [hf]; exact h.nd, by rw [hf]; exact h.new, by rw [hf]; exact h.pub⟩
      rcases List.mem_append.1 hit with hit | hit
      · exact h.its it (List.mem_append_left _ hit)
      · simp at hit
        subst hit
        exact hg
    obtain ⟨h1, h2⟩ := h'.publishLast
    refine ⟨addS S g (.cells cur e), h2, ⟨hl, .inr ⟨g, cap, cur, rfl, by simp [addS], hnc, hcm, hcs, ht⟩⟩, h1, fun B w' hB => ?_⟩
    have hpg := hB.pub g (.cells cur e) (by simp [addS])
    have hfB : feet (B ++ [Item.row (.slice (some ⟨g, 0, none⟩) n cap) e k n xs]) = feet B ++ [g] := by simp [feet, Item.foot, Value.ownBlock]
    refine ⟨hB.size, hB.os, hB.tape, hB.output, hB.old, fun it hit => ?_, ?_, ?_, ?_⟩
    · rcases List.mem_append.1 hit with hit | hit
      · exact hB.its it hit
      · simp at hit
        subst hit
        exact ⟨hl, .inr ⟨g, cap, cur, rfl, Nat.zero_le _, hpg.1, hnc, hcm, hcs, ht⟩⟩
    · rw [hfB, List.nodup_append]
      refine ⟨hB.nd, by simp, fun a ha b hb => ?_⟩
      simp at hb
      subst hb
      intro e'
      subst e'
      exact hpg.2 ha
    · intro c hc
      rw [hfB] at hc
      rcases List.mem_append.1 hc with hc | hc
      · exact hB.new c hc
      · simp at hc
        subst hc
        exact h.new _ hg'
    · intro c o hc
      have hne : c ≠ g := fun e' => by
        subst e'
        exact (h.pub c o hc).2 hg'
      have := hB.pub c o (by simp only [addS]; rw [if_neg hne]; exact hc)
      refine ⟨this.1, ?_⟩
      rw [hfB]
      intro hc'
      rcases List.mem_append.1 hc' with hc' | hc'
      · exact this.2 hc'
      · simp at hc'
        exact hne hc'
theorem flat_at {α : Type} (f : α → List Value) (k : Nat) (hf : ∀ y, (f y).length = k) : ∀ (ys : List α) (i : Nat) (h : i < ys.length), ((ys.flatMap f).drop (i * k)).take k = f ys[i]
  | [], i, h => by simp at h
  | y :: ys, 0, h => by
    rw [List.flatMap_cons, Nat.zero_mul, List.drop_zero, List.take_append_of_le_length (by rw [hf]; exact Nat.le_refl _), List.take_of_length_le (by rw [hf]; exact Nat.le_refl _)]
    rfl
  | y :: ys, i + 1, h => by
    rw [List.flatMap_cons, Nat.succ_mul, Nat.add_comm, ← List.drop_drop, List.drop_left' (hf y)]
    exact flat_at f k hf ys i (by simpa using h)
theorem RowRd.rd {α : Type} {S : Store} {v : Value} {e : TypeId} {k : Nat} {f : α → List Value} {R : List Value → α → Prop} {ys : List α} (hf : ∀ y, (f y).length = k) (hR : ∀ y ∈ ys, R (f y) y)
    (h : RowRd S v e k ys.length (ys.flatMap f)) : RdSl S k R v ys := by
  obtain ⟨hl, h⟩ := h
  rcases h with ⟨rfl, h0⟩ | ⟨g, cap, cur, rfl, hS, hnc, hcm, hcs, ht⟩
  · have : ys = [] := List.eq_nil_of_length_eq_zero h0
    subst this
    exact ⟨none, 0, rfl, Nat.le_refl _, Nat.zero_le _, .inl rfl⟩
  · refine ⟨_, cap, rfl, hnc, hcm, .inr ⟨g, 0, cur, e, (0, 0), rfl, hS, fun i hi => ?_⟩⟩
    have := flat_at f k hf ys i hi
    have hik : i * k + k ≤ ys.length * k := by rw [← Nat.succ_mul]; exact Nat.mul_le_mul_right k hi
    rw [← ht, List.drop_take, List.take_take, Nat.min_eq_left (by omega)] at this
    rw [cellsAt, Nat.zero_add, this]
    exact hR _ (List.getElem_mem hi)

/- rows of numbers -/
def ints (ns : List Int) : List Value := ns.flatMap fun n => [.int .i64 n]
abbrev rowI (v : Value) (ns : List Int) : Item := .row v t_int 1 ns.length (ints ns)
theorem ints_snoc (ns : List Int) (n : Int) : ints ns ++ [.int .i64 n] = ints (ns ++ [n]) := by simp [ints]
theorem RowRd.ints {S : Store} {v : Value} {e : TypeId} {ns : List Int} (h : RowRd S v e 1 ns.length (ints ns)) : RdSl S 1 RdInt v ns :=
  RowRd.rd (f := fun n => [Value.int .i64 n]) (fun _ => rfl) (fun _ _ => rfl) h
def hasI (l : List Int) (n : Int) : Bool := l.any fun x => decide (n = x)
def addI (l : List Int) (n : Int) : List Int := if hasI l n = true then l else l ++ [n]
theorem addI_le (l : List Int) (n : Int) : (addI l n).length ≤ l.length + 1 := by
  unfold addI
  split <;> simp

theorem Index_int_calls (s : Int) {xs : List Int} {S : Store} {v : Value} (h : RdSl S 1 RdInt v xs) :
    Pure Tryz.prog n_x_Index_int [v, .int .i64 s] S (.int .i64 (indexF (σ := Unit) (fun _ x => (decide (s = x), ())) () xs 0).1) := by
  intro w hI
  have hlen := h.le
  simp only [maxLen] at hlen
  refine calls_x_Index_int ?_
  unfold sh_x_Index_int
  refine r_lenSl h sl_Sint ?_
  refine ⟨fun i w' => ∃ k : Nat, k ≤ xs.length ∧ i = .int .i64 k ∧ indexF (σ := Unit) (fun _ x => (decide (s = x), ())) () (xs.drop k) k = indexF (σ := Unit) (fun _ x => (decide (s = x), ())) () xs 0 ∧ Inv w [] [] S w',
    fun i _ => xs.length - (intOf i).toNat, ⟨0, Nat.zero_le _, rfl, rfl, hI⟩, ?_⟩
  intro t8 _ _ _ _ _ _ _ _ _ _ _ _ w'
  rintro ⟨k, hk, rfl, hrel, hI⟩
  refine r_lss ?_
  refine condP (fun hki => ?_) (fun hki => ?_)
  · have hk' : k < xs.length := by omega
    rw [List.drop_eq_getElem_cons hk', indexF] at hrel
    refine r_elem1 hI h sl_Sint sc_int hk' (fun cs hcs => hcs) ?_
    refine r_eql ?_
    refine condP (fun he => done hI ?_) (fun he => ?_)
    · rw [← hrel, if_pos (by simpa using he)]
    · refine r_add (by omega) ?_
      rw [if_neg (by simpa using he)] at hrel
      exact ⟨⟨k + 1, hk', rfl, hrel, hI⟩, by simp [intOf]; omega⟩
  · have : k = xs.length := by omega
    subst this
    rw [List.drop_length, indexF] at hrel
    exact done hI (by rw [← hrel])
theorem Contains_int_calls (s : Int) {xs : List Int} {S : Store} {v : Value} (h : RdSl S 1 RdInt v xs) : Pure Tryz.prog n_x_Contains_int [v, .int .i64 s] S (.bool (hasI xs s)) := by
  intro w hI
  refine calls_x_Contains_int ?_
  unfold sh_x_Contains_int
  refine Run.callPure fn_x_Index_int nm_x_Index_int hI (Index_int_calls s h) fun w' hI => ?_
  refine r_geq (done hI ?_)
  rw [(indexF_any _ xs () 0).1, anyF_pure]; rfl
theorem IndexFunc_int_of {σ : Type} {f : FuncId} {fn : Func} {cap : List Value} {S : Store} {It : σ → List Item} {ok : σ → Prop} {step : σ → Int → Bool × σ} {xs : List Int} {v : Value}
    (hcb : Cb Tryz.prog f fn cap S It ok step (fun v x => v = .int .i64 x) xs) (h : RdSl S 1 RdInt v xs) {st : σ} (hok : ok st) :
    Tri Tryz.prog n_x_IndexFunc_int [v, fv f cap] (It st) S fun r I' S' => r = .int .i64 (indexF step st xs 0).1 ∧ I' = It (indexF step st xs 0).2 ∧ S' = S := by
  intro w hI
  have hlen := h.le
  simp only [maxLen] at hlen
  refine calls_x_IndexFunc_int ?_
  unfold sh_x_IndexFunc_int
  refine r_lenSl h sl_Sint ?_
  refine ⟨fun i w' => ∃ (k : Nat) (st' : σ), k ≤ xs.length ∧ i = .int .i64 k ∧ ok st' ∧ indexF step st' (xs.drop k) k = indexF step st xs 0 ∧ Inv w (feet (It st)) (It st') S w', fun i _ => xs.length - (intOf i).toNat,
    ⟨0, st, Nat.zero_le _, rfl, hok, rfl, hI⟩, ?_⟩
  intro t8 _ _ _ _ _ _ _ _ _ _ _ _ w'
  rintro ⟨k, st', hk, rfl, hok', hrel, hI⟩
  refine r_lss ?_
  refine condP (fun hki => ?_) (fun hki => ?_)
  · have hk' : k < xs.length := by omega
    have hm := List.getElem_mem hk'
    have hstep : indexF step st' (xs.drop k) k = if (step st' xs[k]).1 then ((k : Int), (step st' xs[k]).2) else indexF step (step st' xs[k]).2 (xs.drop (k + 1)) (k + 1) := by
      rw [List.drop_eq_getElem_cons hk', indexF]
    refine r_elem1 hI h sl_Sint sc_int hk' (fun cs hcs => hcs) ?_
    refine Run.callV (A := []) (args := [.int .i64 xs[k]]) hcb.hf hcb.hn (by simpa using hI) (hcb.call st' _ _ hm hok' rfl) fun v' I' S' w' => ?_
    rintro ⟨rfl, rfl, rfl⟩ _ hI
    refine condV (fun hb => ?_) (fun hb => ?_)
    · rw [if_pos hb] at hstep
      refine ⟨_, _, _, rfl, by simpa using hI, Ext.refl _ _ _, ?_, ?_, rfl⟩
      · rw [← hrel, hstep]
      · rw [← hrel, hstep]
    · refine r_add (by omega) ?_
      rw [hb] at hstep
      refine ⟨⟨k + 1, _, hk', rfl, hcb.keep st' _ hm hok' hb, ?_, by simpa using hI⟩, by simp [intOf]; omega⟩
      rw [← hrel, hstep]
      rfl
  · have : k = xs.length := by omega
    subst this
    rw [List.drop_length, indexF] at hrel
    exact ⟨_, _, _, rfl, hI, Ext.refl _ _ _, by rw [← hrel], by rw [← hrel], rfl⟩
theorem ContainsFunc_int_of {σ : Type} {f : FuncId} {fn : Func} {cap : List Value} {S : Store} {It : σ → List Item} {ok : σ → Prop} {step : σ → Int → Bool × σ} {xs : List Int} {v : Value}
    (hcb : Cb Tryz.prog f fn cap S It ok step (fun v x => v = .int .i64 x) xs) (h : RdSl S 1 RdInt v xs) {st : σ} (hok : ok st) :
    Tri Tryz.prog n_x_ContainsFunc_int [v, fv f cap] (It st) S fun r I' S' => r = .bool (anyF step st xs).1 ∧ I' = It (anyF step st xs).2 ∧ S' = S := by
  intro w hI
  refine calls_x_ContainsFunc_int ?_
  unfold sh_x_ContainsFunc_int
  refine Run.call (A := []) fn_x_IndexFunc_int nm_x_IndexFunc_int (by simpa using hI) (IndexFunc_int_of hcb h hok) fun v' I' S' w' => ?_
  rintro ⟨rfl, rfl, rfl⟩ _ hI
  refine r_geq ?_
  have he := indexF_any step xs st 0
  exact ⟨_, _, _, rfl, by simpa using hI, Ext.refl _ _ _, by rw [he.1], by rw [he.2], rfl⟩
end Go.Proofs.YtaaihodhhacapaaGreat

/- The variables of terms, on both sides: lists of numbers that grow. -/
namespace Go.Proofs.YtaaihodhhacapaaGreat
open Go Go.RowKit
attribute [local irreducible] Run CondV GuardV LoadV

mutual
def varsT : T → List Int → List Int
  | .mk k n _ ks, l => varsL ks (if k = 1 then addI l n else l)
def varsL : List T → List Int → List Int
  | [], l => l
  | t :: ts, l => varsL ts (varsT t l)
end
mutual
def svarsT : T → List Int → List Int
  | .mk k n _ ks, l => if k = 1 then addI l n else svarsL ks l
def svarsL : List T → List Int → List Int
  | [], l => l
  | t :: ts, l => svarsL ts (svarsT t l)
end
mutual
theorem varsT_le : ∀ (t : T) (l : List Int), ((varsT t l).length : Int) ≤ l.length + cntT t
  | .mk k n s ks, l => by
    rw [varsT, show cntT (T.mk k n s ks) = 1 + cntL ks from rfl]
    have h1 := addI_le l n
    have := varsL_le ks (if k = 1 then addI l n else l)
    split at this <;> rename_i hk <;> simp only [hk, if_true, if_false] at this ⊢ <;> omega
theorem varsL_le : ∀ (ts : List T) (l : List Int), ((varsL ts l).length : Int) ≤ l.length + cntL ts
  | [], l => by simp [varsL, cntL]
  | t :: ts, l => by
    rw [varsL, show cntL (t :: ts) = cntT t + cntL ts from rfl]
    have := varsT_le t l
    have := varsL_le ts (varsT t l)
    omega
end
mutual
theorem svarsT_le : ∀ (t : T) (l : List Int), ((svarsT t l).length : Int) ≤ l.length + cntT t
  | .mk k n s ks, l => by
    rw [svarsT, show cntT (T.mk k n s ks) = 1 + cntL ks from rfl]
    have h1 := addI_le l n
    have := cntL_pos ks
    split
    · omega
    · have := svarsL_le ks l
      omega
theorem svarsL_le : ∀ (ts : List T) (l : List Int), ((svarsL ts l).length : Int) ≤ l.length + cntL ts
  | [], l => by simp [svarsL, cntL]
  | t :: ts, l => by
    rw [svarsL, show cntL (t :: ts) = cntT t + cntL ts from rfl]
    have := svarsT_le t l
    have := svarsL_le ts (svarsT t l)
    omega
end
/- on valid terms the two are one -/
theorem valid_shape {t : T} (h : validB t = true) : shapeT t 30 = true := by
  rw [validB, Bool.and_eq_true] at h
  exact h.1
abbrev PostV (S : Store) (r : List Int) : Value → List Item → Store → Prop := fun v I' S' => I' = [rowI v r] ∧ S' = S

theorem l1Vars_calls : ∀ (t : T) (S : Store) (cs : List Value) (v : Value) (l : List Int), RdT S cs t → l.length + cntT t ≤ 1000000000 → Tri Tryz.prog n_s_l1Vars [v, .agg cs.toArray] [rowI v l] S (PostV S (svarsT t l)) := by
  refine T.ind fun k n s ks ih S cs v l h hl => ?_
  intro w hI
  obtain ⟨kv, rfl, _, _, hs, hks⟩ := RdT.iff.1 h
  simp only [T.name, T.kids, T.kind, T.n] at hs hks ⊢
  have hlen := hks.le
  simp only [maxLen] at hlen
  rw [show cntT (T.mk k n s ks) = 1 + cntL ks from rfl] at hl
  have hcp := cntL_pos ks
  have hend : ∀ {w' : World} {v' : Value} {b : Nat} {o : Obj} (r : List Int), Inv w (feet [rowI v l]) [.blk b o, rowI v' r] S w' → r = svarsT (.mk k n s ks) l →
      ∃ v'' I' S', Ending.returned v' = .returned v'' ∧ Inv w (feet [rowI v l]) I' S' w' ∧ Ext w.heap.size (feet [rowI v l]) S S' ∧ PostV S (svarsT (.mk k n s ks) l) v'' I' S' := by
    intro w' v' b o r h1 h2
    subst h2
    exact ⟨_, _, _, rfl, h1.pick [false, true], Ext.refl _ _ _, rfl, rfl⟩
  refine calls_s_l1Vars ?_
  unfold sh_s_l1Vars
  refine r_box hI fun b3 w' hI => ?_
  have hI := hI.perm (M := [.blk b3 (.cells #[.int .i64 k, .int .i64 n, .string s, kv] t_iTerm), rowI v l]) (List.Perm.swap _ _ _)
  refine r_fieldL hI 0 rfl fo_iTerm_0 sc_int rfl ?_
  refine r_eql ?_
  refine condP (fun hk => ?_) (fun hk => ?_)
  · have hr : addI l n = svarsT (.mk k n s ks) l := by rw [svarsT, if_pos hk]
    obtain ⟨S1, hle, hrd, hI, hback⟩ := Inv.lend (A := [_]) hI
    have hrd := hrd.ints
    refine ⟨fun i w' => ∃ j : Nat, j ≤ l.length ∧ i = .int .i64 j ∧ hasI (l.drop j) n = hasI l n ∧ Inv w (feet [rowI v l]) [.blk b3 (.cells #[.int .i64 k, .int .i64 n, .string s, kv] t_iTerm)] S1 w',
      fun i _ => l.length - (intOf i).toNat, ⟨0, Nat.zero_le _, rfl, rfl, hI⟩, ?_⟩
    intro t5 _ _ _ _ t22 t21 t20 t19 t18 t17 t16 _ _ _ _ w'
    rintro ⟨j, hj, rfl, hrel, hI⟩
    refine r_lenSl hrd sl_Sint ?_
    refine r_lss ?_
    refine condP (fun hji => ?_) (fun hji => ?_)
    · have hj' : j < l.length := by omega
      have hstep : hasI (l.drop j) n = (decide (n = l[j]) || hasI (l.drop (j + 1)) n) := any_drop _ l j hj'
      obtain ⟨b, o, cap, c, E, fz, rfl, hS, hR⟩ := hrd.at_ hj'
      refine ⟨fun D x22 x21 x20 x19 x18 x17 x16 w_ => (D 0 = true → x16 = .slice (some ⟨b, o, none⟩) l.length cap) ∧ (D 1 = true → x17 = .int .i64 j) ∧ (D 2 = true → x18 = .pointer (some ⟨b, o + j * 1, none⟩)) ∧ (D 3 = true → x19 = .int .i64 l[j]) ∧ (D 4 = true → x20 = .pointer (some ⟨b3, 1, none⟩)) ∧ (D 5 = true → x21 = .int .i64 n) ∧ (D 6 = true → x22 = .bool (decide (l[j] = n))) ∧ Inv w (feet [rowI (.slice (some ⟨b, o, none⟩) l.length cap) l]) [.blk b3 (.cells #[.int .i64 k, .int .i64 n, .string s, kv] t_iTerm)] S1 w_, ⟨fun h => Bool.noConfusion h, fun h => Bool.noConfusion h, fun h => Bool.noConfusion h, fun h => Bool.noConfusion h, fun h => Bool.noConfusion h, fun h => Bool.noConfusion h, fun h => Bool.noConfusion h, hI.draw⟩, ⟨?_, ?_, ?_, ?_, ?_, ?_, ?_, trivial⟩, ?_⟩
      · intro D hD_  x22 x21 x20 x19 x18 x17 x16 w_
        rintro ⟨h0_, h1_, h2_, h3_, h4_, h5_, h6_, hI⟩
        exact ⟨fun _ => rfl, h1_, h2_, h3_, h4_, h5_, h6_, hI⟩
      · intro D hD_  x22 x21 x20 x19 x18 x17 x16 w_
        rintro ⟨h0_, h1_, h2_, h3_, h4_, h5_, h6_, hI⟩
        exact ⟨h0_, fun _ => rfl, h2_, h3_, h4_, h5_, h6_, hI⟩
      · intro D hD_ d0_0 d1_1 x22 x21 x20 x19 x18 x17 x16 w_
        rintro ⟨h0_, h1_, h2_, h3_, h4_, h5_, h6_, hI⟩
        obtain rfl := h0_ d0_0
        obtain rfl := h1_ d1_1
        refine r_indexAddr sl_Sint hj' ?_
        exact ⟨h0_, h1_, fun _ => rfl, h3_, h4_, h5_, h6_, hI⟩
      · intro D hD_ d2_0 x22 x21 x20 x19 x18 x17 x16 w_
        rintro ⟨h0_, h1_, h2_, h3_, h4_, h5_, h6_, hI⟩
        obtain rfl := h2_ d2_0
        refine r_load sc_int (by rw [hI.cellS hS]; exact cellsAt_get hR 0 _ rfl) ?_
        exact ⟨h0_, h1_, h2_, fun _ => rfl, h4_, h5_, h6_, hI⟩
      · intro D hD_  x22 x21 x20 x19 x18 x17 x16 w_
        rintro ⟨h0_, h1_, h2_, h3_, h4_, h5_, h6_, hI⟩
        refine r_field fo_iTerm_1 ?_
        exact ⟨h0_, h1_, h2_, h3_, fun _ => rfl, h5_, h6_, hI⟩
      · intro D hD_ d4_0 x22 x21 x20 x19 x18 x17 x16 w_
        rintro ⟨h0_, h1_, h2_, h3_, h4_, h5_, h6_, hI⟩
        obtain rfl := h4_ d4_0
        refine r_loadL hI 0 sc_int rfl rfl ?_
        exact ⟨h0_, h1_, h2_, h3_, h4_, fun _ => rfl, h6_, hI⟩
      · intro D hD_ d3_0 d5_1 x22 x21 x20 x19 x18 x17 x16 w_
        rintro ⟨h0_, h1_, h2_, h3_, h4_, h5_, h6_, hI⟩
        obtain rfl := h3_ d3_0
        obtain rfl := h5_ d5_1
        refine r_eql ?_
        exact ⟨h0_, h1_, h2_, h3_, h4_, h5_, fun _ => rfl, hI⟩
      intro D d6_ d5_ d4_ d3_ d2_ d1_ d0_ x22 x21 x20 x19 x18 x17 x16 w_
      rintro ⟨h0_, h1_, h2_, h3_, h4_, h5_, h6_, hI⟩
      obtain rfl := h6_ d6_
      obtain rfl := h5_ d5_
      obtain rfl := h4_ d4_
      obtain rfl := h3_ d3_
      obtain rfl := h2_ d2_
      obtain rfl := h1_ d1_
      obtain rfl := h0_ d0_
      clear h0_ h1_ h2_ h3_ h4_ h5_ h6_
      refine condP (fun he => ?_) (fun he => ?_)
      · refine hend l (hback _ _ hI) ?_
        rw [← hr, addI, if_pos (by rw [← hrel, hstep, decide_eq_true he.symm]; rfl)]
      · refine r_add (by omega) ?_
        exact ⟨⟨j + 1, hj', rfl, by rw [← hrel, hstep, decide_eq_false (fun e => he e.symm)]; rfl, hI⟩, by simp [intOf]; omega⟩
    · have : j = l.length := by omega
      subst this
      have hno : hasI l n = false := by rw [← hrel, List.drop_length]; rfl
      have hI : Inv w (feet [rowI v l]) [.blk b3 (.cells #[.int .i64 k, .int .i64 n, .string s, kv] t_iTerm), rowI v l] S _ := hback _ _ hI
      refine r_fieldL hI 0 rfl fo_iTerm_1 sc_int rfl ?_
      refine r_slice1 hI mk_Sint rfl (by omega) (by omega) fun b w' hI => ?_
      refine r_append hI 1 (k := 1) [.int .i64 n] mk_Sint (by omega) rfl rfl ?_ ?_ (by omega) (by omega) fun v' w' hI => ?_
      · intro j u hj
        rw [hI.cellL (i := 2) rfl]
        match j with
        | 0 => simpa [Value.cells] using hj
        | j + 1 => simp at hj
      · simp [Value.oneCell']
      · rw [ints_snoc] at hI
        have hI := hI.pick [true, true, false]
        refine hend (b := b3) (o := .cells #[.int .i64 k, .int .i64 n, .string s, kv] t_iTerm) (l ++ [n]) ?_ ?_
        · have e : Item.row v' t_int 1 (l.length + 1) (ints (l ++ [n])) = rowI v' (l ++ [n]) := by simp [rowI]
          exact e ▸ hI
        · rw [← hr, addI, if_neg (by rw [hno]; decide)]
  · have hr : svarsL ks l = svarsT (.mk k n s ks) l := by rw [svarsT, if_neg hk]
    refine ⟨fun i t w' => ∃ (j : Nat) (l' : List Int), j ≤ ks.length ∧ i = .int .i64 j ∧ svarsL (ks.drop j) l' = svarsL ks l ∧ l'.length + cntL (ks.drop j) ≤ 1000000000 ∧ Inv w (feet [rowI v l]) [.blk b3 (.cells #[.int .i64 k, .int .i64 n, .string s, kv] t_iTerm), rowI t l'] S w',
      fun i _ _ => ks.length - (intOf i).toNat, ⟨0, l, Nat.zero_le _, rfl, rfl, by rw [List.drop_zero]; omega, hI⟩, ?_⟩
    intro t6 _ _ t0 _ _ _ _ _ _ _ _ _ _ _ _ w'
    rintro ⟨j, l', hj, rfl, hrel, hl', hI⟩
    refine r_fieldL hI 0 rfl fo_iTerm_3 sc_SiTerm rfl ?_
    refine r_lenSl hks sl_SiTerm ?_
    refine r_lss ?_
    refine condP (fun hji => ?_) (fun hji => ?_)
    · have hj' : j < ks.length := by omega
      rw [cntL_split ks j hj'] at hl'
      rw [List.drop_eq_getElem_cons hj', svarsL] at hrel
      have hc1 := cntL_pos (ks.drop (j + 1))
      have hc2 := svarsT_le ks[j] l'
      refine r_fieldL hI 0 rfl fo_iTerm_3 sc_SiTerm rfl ?_
      refine r_elem hI hks sl_SiTerm ag_iTerm hj' (fun _ _ => RdT.length) fun cs' hcs' => ?_
      refine Run.call (A := [_]) fn_s_l1Vars nm_s_l1Vars hI (ih _ (List.getElem_mem hj') S cs' t0 l' hcs' (by omega)) fun v' I' S' w' => ?_
      rintro ⟨rfl, rfl⟩ _ hI
      refine r_add (by omega) ?_
      exact ⟨⟨j + 1, _, hj', rfl, hrel, by omega, hI⟩, by simp [intOf]; omega⟩
    · have : j = ks.length := by omega
      subst this
      rw [List.drop_length, svarsL] at hrel
      exact hend l' hI (by rw [hrel, hr])

theorem addVars_calls : ∀ (t : T) (S : Store) (cs : List Value) (v : Value) (l : List Int), RdT S cs t → l.length + cntT t ≤ 1000000000 → Tri Tryz.prog n_i_addVars [.agg cs.toArray, v] [rowI v l] S (PostV S (varsT t l)) := by
  refine T.ind fun k n s ks ih S cs v l h hl => ?_
  intro w hI
  obtain ⟨kv, rfl, _, _, hs, hks⟩ := RdT.iff.1 h
  simp only [T.name, T.kids, T.kind, T.n] at hs hks ⊢
  have hlen := hks.le
  simp only [maxLen] at hlen
  rw [show cntT (T.mk k n s ks) = 1 + cntL ks from rfl] at hl
  have hcp := cntL_pos ks
  have hal := addI_le l n
  refine calls_i_addVars ?_
  unfold sh_i_addVars
  refine r_box hI fun b2 w' hI => ?_
  have hI := hI.perm (M := [.blk b2 (.cells #[.int .i64 k, .int .i64 n, .string s, kv] t_iTerm), rowI v l]) (List.Perm.swap _ _ _)
  refine ⟨fun t w' => Inv w (feet [rowI v l]) [.blk b2 (.cells #[.int .i64 k, .int .i64 n, .string s, kv] t_iTerm), rowI t (if k = 1 then addI l n else l)] S w', ?_, ?_⟩
  · refine ⟨fun t w' => t = .bool (decide (k = 1) && !hasI l n) ∧ Inv w (feet [rowI v l]) [.blk b2 (.cells #[.int .i64 k, .int .i64 n, .string s, kv] t_iTerm), rowI v l] S w', ?_, ?_⟩
    · refine r_fieldL hI 0 rfl fo_iTerm_0 sc_int rfl ?_
      refine r_eql ?_
      cases h1 : decide (k = 1)
      · repeat (first | refine guard_true ?_ | refine guard_ne (by decide) ?_ | refine guard_undef ?_ | refine r_pickT ?_ | refine r_pickF ?_)
        exact ⟨rfl, hI⟩
      · repeat (first | refine guard_true ?_ | refine guard_ne (by decide) ?_ | refine guard_undef ?_ | refine r_pickT ?_ | refine r_pickF ?_)
        refine r_fieldL hI 0 rfl fo_iTerm_1 sc_int rfl ?_
        obtain ⟨S1, hle, hrd, hI, hback⟩ := Inv.lend (A := [_]) hI
        refine Run.callPure fn_x_Contains_int nm_x_Contains_int hI (Contains_int_calls n hrd.ints) fun w' hI => ?_
        refine r_not ?_
        repeat (first | refine guard_true ?_ | refine guard_ne (by decide) ?_ | refine guard_undef ?_ | refine r_pickT ?_ | refine r_pickF ?_)
        exact ⟨rfl, hback _ _ hI⟩
    intro t16 _ _ _ _ _ _ _ _ _ w'
    rintro ⟨rfl, hI⟩
    refine condV (fun hb => ?_) (fun hb => ?_)
    · simp only [Bool.and_eq_true, decide_eq_true_eq, Bool.not_eq_true'] at hb
      refine r_fieldL hI 0 rfl fo_iTerm_1 sc_int rfl ?_
      refine r_slice1 hI mk_Sint rfl (by omega) (by omega) fun b w' hI => ?_
      refine r_append hI 1 (k := 1) [.int .i64 n] mk_Sint (by omega) rfl rfl ?_ ?_ (by omega) (by omega) fun v' w' hI => ?_
      · intro j u hj
        rw [hI.cellL (i := 2) rfl]
        match j with
        | 0 => simpa [Value.cells] using hj
        | j + 1 => simp at hj
      · simp [Value.oneCell']
      · rw [ints_snoc] at hI
        have hI := hI.pick [true, true, false]
        rw [if_pos hb.1, addI, if_neg (by rw [hb.2]; decide)]
        have e : Item.row v' t_int 1 (l.length + 1) (ints (l ++ [n])) = rowI v' (l ++ [n]) := by simp [rowI]
        rw [show List.length l + 1 = l.length + 1 from rfl, e] at hI
        exact hI
    · have : (if k = 1 then addI l n else l) = l := by
        split
        · rename_i hk
          rw [addI]
          simp [hk] at hb
          rw [if_pos hb]
        · rfl
      rw [this]
      exact hI
  intro t1 _ _ _ _ _ _ _ _ _ _ _ _ _ _ _ w' hI
  have hl1 : ((if k = 1 then addI l n else l).length : Int) + cntL ks ≤ 1000000000 := by split <;> omega
  rw [show varsT (.mk k n s ks) l = varsL ks (if k = 1 then addI l n else l) from by rw [varsT]]
  generalize (if k = 1 then addI l n else l) = l1 at hI hl1 ⊢
  refine r_fieldL hI 0 rfl fo_iTerm_3 sc_SiTerm rfl ?_
  refine r_lenSl hks sl_SiTerm ?_
  refine ⟨fun i t w' => ∃ (j : Nat) (l' : List Int), j ≤ ks.length ∧ i = .int .i64 j ∧ varsL (ks.drop j) l' = varsL ks l1 ∧ l'.length + cntL (ks.drop j) ≤ 1000000000 ∧ Inv w (feet [rowI v l]) [.blk b2 (.cells #[.int .i64 k, .int .i64 n, .string s, kv] t_iTerm), rowI t l'] S w',
    fun i _ _ => ks.length - (intOf i).toNat, ⟨0, l1, Nat.zero_le _, rfl, rfl, by rw [List.drop_zero]; omega, hI⟩, ?_⟩
  intro t25 _ t1 _ _ _ _ _ _ _ w'
  rintro ⟨j, l', hj, rfl, hrel, hl', hI⟩
  refine r_lss ?_
  refine condP (fun hji => ?_) (fun hji => ?_)
  · have hj' : j < ks.length := by omega
    rw [cntL_split ks j hj'] at hl'
    rw [List.drop_eq_getElem_cons hj', varsL] at hrel
    have hc1 := cntL_pos (ks.drop (j + 1))
    have hc2 := varsT_le ks[j] l'
    refine r_elem hI hks sl_SiTerm ag_iTerm hj' (fun _ _ => RdT.length) fun cs' hcs' => ?_
    have hlc := hcs'.length
    refine r_alloc hI zo_iTerm fun b6 w' hI => ?_
    refine r_storeW hI 2 rfl ag_iTerm (by simpa using hlc) rfl (by simpa using hcs'.one) fun w' hI => ?_
    refine r_loadW hI 2 ag_iTerm rfl (by simpa using hlc) ?_
    have hI := hI.pick [true, true, false]
    refine Run.call (A := [_]) fn_i_addVars nm_i_addVars hI (ih _ (List.getElem_mem hj') S cs' t1 l' hcs' (by omega)) fun v' I' S' w' => ?_
    rintro ⟨rfl, rfl⟩ _ hI
    refine r_add (by omega) ?_
    exact ⟨⟨j + 1, _, hj', rfl, hrel, by omega, hI⟩, by simp [intOf]; omega⟩
  · have : j = ks.length := by omega
    subst this
    rw [List.drop_length, varsL] at hrel
    subst hrel
    exact ⟨_, _, _, rfl, hI.pick [false, true], Ext.refl _ _ _, rfl, rfl⟩
theorem varsOf_calls {ts : List T} {S : Store} {v : Value} (h : RdSl S 4 (RdT S) v ts) (hl : cntL ts ≤ 1000000000) : Tri Tryz.prog n_i_varsOf [v] [] S (PostV S (varsL ts [])) := by
  intro w hI
  have hlen := h.le
  simp only [maxLen] at hlen
  refine calls_i_varsOf ?_
  unfold sh_i_varsOf
  refine r_lenSl h sl_SiTerm ?_
  refine ⟨fun i t w' => ∃ (j : Nat) (l' : List Int), j ≤ ts.length ∧ i = .int .i64 j ∧ varsL (ts.drop j) l' = varsL ts [] ∧ l'.length + cntL (ts.drop j) ≤ 1000000000 ∧ Inv w [] [rowI t l'] S w',
    fun i _ _ => ts.length - (intOf i).toNat, ⟨0, [], Nat.zero_le _, rfl, rfl, by simpa using hl, hI.rowNil t_int 1⟩, ?_⟩
  intro t8 _ t3 _ _ _ _ _ _ _ w'
  rintro ⟨j, l', hj, rfl, hrel, hl', hI⟩
  refine r_lss ?_
  refine condP (fun hji => ?_) (fun hji => ?_)
  · have hj' : j < ts.length := by omega
    rw [cntL_split ts j hj'] at hl'
    rw [List.drop_eq_getElem_cons hj', varsL] at hrel
    have hc1 := cntL_pos (ts.drop (j + 1))
    have hc2 := varsT_le ts[j] l'
    refine r_elem hI h sl_SiTerm ag_iTerm hj' (fun _ _ => RdT.length) fun cs' hcs' => ?_
    have hlc := hcs'.length
    refine r_alloc hI zo_iTerm fun b6 w' hI => ?_
    refine r_storeW hI 1 rfl ag_iTerm (by simpa using hlc) rfl (by simpa using hcs'.one) fun w' hI => ?_
    refine r_loadW hI 1 ag_iTerm rfl (by simpa using hlc) ?_
    have hI := hI.pick [true, false]
    refine Run.call (A := []) fn_i_addVars nm_i_addVars hI (addVars_calls _ S cs' t3 l' hcs' (by omega)) fun v' I' S' w' => ?_
    rintro ⟨rfl, rfl⟩ _ hI
    refine r_add (by omega) ?_
    exact ⟨⟨j + 1, _, hj', rfl, hrel, by omega, hI⟩, by simp [intOf]; omega⟩
  · have : j = ts.length := by omega
    subst this
    rw [List.drop_length, varsL] at hrel
    subst hrel
    exact ⟨_, _, _, rfl, hI, Ext.refl _ _ _, rfl, rfl⟩

end Go.Proofs.YtaaihodhhacapaaGreat

/- Flat clauses and programs, on both sides. -/
namespace Go.Proofs.YtaaihodhhacapaaGreat
open Go Go.RowKit
attribute [local irreducible] Run CondV GuardV LoadV

section
variable {P : Program} {w w0 : World} {X : List Nat} {L : List Item} {S : Store} {K : Value → World → Prop}
theorem r_elemX {α : Type} {T Tf U ty ty' ty'' E : TypeId} {k f d : Nat} {R : List Value → α → Prop} {v : Value} {xs : List α} (hI : Inv w0 X L S w) (h : RdSl S k R v xs) (hu : sliceOf P T = some (E, k)) (hf : fieldOff P Tf f = some d) (hU : isSc P U = true)
    {i : Nat} (hi : i < xs.length) (hk : ∀ cs, R cs xs[i] → ∃ u, cs[d]? = some u ∧ K u w) :
    Run P (sOp (.indexAddr T (.const v) (.const (.int .i64 i))) ty) w fun p w' => Run P (sOp (.fieldAddr Tf (.const p) f) ty') w' fun q w'' => Run P (sOp (.load U (.const q)) ty'') w'' K := by
  obtain ⟨b, o, cap, c, E', fz, rfl, hS, hR⟩ := h.at_ hi
  obtain ⟨u, hu', hK⟩ := hk _ hR
  refine r_indexAddr hu hi ?_
  refine r_field hf ?_
  refine r_load hU ?_ hK
  rw [hI.cellS hS]
  exact cellsAt_get rfl d u hu'
end
end Go.Proofs.YtaaihodhhacapaaGreat

/- The row's reading of the arguments gives the reading of this proof; and what a law that returns true owes. -/
namespace Go.Proofs.YtaaihodhhacapaaGreat
open Go Go.ChangeShapes Go.WideShapes Go.ChangeAt Go.RowKit

def heapS (W : World) : Store := fun b => W.heap[b]?
section
variable {H : Type} {enc : TypeId × Value → H} {P : Program} {W : World} {sp : Nat → Bool} {held : Bool}
theorem trod_int {t : TypeId} {fuel : Nat} {c : Value} {x : DataW H × List MemPlace} (ht : P.underlying t = some (.int .i64)) (h : DataW.trod enc P W 0 sp held fuel t [c] = some x) :
    ∃ n, c = .int .i64 n ∧ inI n := by
  cases fuel with
  | zero => simp [DataW.trod] at h
  | succ n =>
    unfold DataW.trod at h
    rw [ht] at h
    split at h <;> simp_all
    rename_i k1 k2 m he
    subst he
    obtain ⟨⟨_, h⟩, _⟩ := h
    simp only [Lit.wf, Bool.and_eq_true, decide_eq_true_eq] at h
    exact h
theorem trod_str {t : TypeId} {fuel : Nat} {c : Value} {x : DataW H × List MemPlace} (ht : P.underlying t = some .string) (h : DataW.trod enc P W 0 sp held fuel t [c] = some x) :
    ∃ s, c = .string s ∧ s.size ≤ maxLen := by
  cases fuel with
  | zero => simp [DataW.trod] at h
  | succ n =>
    unfold DataW.trod at h
    rw [ht] at h
    split at h <;> simp_all
theorem trod_flds {t : TypeId} {fuel : Nat} {l : List (Nat × TypeId)} {cs : List Value} {x : DataW H × List MemPlace} (ht : flds P t = some l) (h : DataW.trod enc P W 0 sp held fuel t cs = some x) :
    ∃ n, fuel = n + 1 ∧ cs.length = P.cellsOf t ∧ ∀ (i : Nat) (o : Nat) (u : TypeId), l[i]? = some (o, u) → ∃ y, DataW.trod enc P W 0 sp held n u ((cs.drop o).take (P.cellsOf u)) = some y := by
  unfold flds at ht
  split at ht
  · rename_i fs hfs
    obtain ⟨xs, n, hn, _, hl, hxs, hf⟩ := DataW.trod_struct hfs h
    refine ⟨n, hn, hl, fun i o u hi => ?_⟩
    simp only [Option.some.injEq] at ht
    subst ht
    rw [List.getElem?_map, Option.map_eq_some_iff] at hi
    obtain ⟨f, hfi, he⟩ := hi
    simp only [Prod.mk.injEq] at he
    obtain ⟨rfl, rfl⟩ := he
    have hfi' : fs[i]? = some f := by rw [← Array.getElem?_toList]; exact hfi
    have hlt : i < xs.length := by
      rw [hxs]
      exact (Array.getElem?_eq_some_iff.1 hfi').1
    have := hf i f hfi'
    rw [List.getElem?_eq_getElem hlt] at this
    exact ⟨_, this⟩
  · cases ht
theorem cell_spot {a : Addr} {v : Value} (h : W.cell? a = some v) : ∃ b o c E fz, a = ⟨b, o, none⟩ ∧ W.heap[b]? = some (.cells c E fz) ∧ c[o]? = some v := by
  obtain ⟨b, o, s⟩ := a
  simp only [World.cell?] at h
  split at h
  · rename_i c E fz hb
    cases s with
    | none => exact ⟨b, o, c, E, fz, rfl, hb, by simpa using h⟩
    | some s => simp at h
  · cases h
theorem cells_at {b o k : Nat} {cs : List Value} {c : Array Value} {E : TypeId} {fz : Nat × Nat} (hb : W.heap[b]? = some (.cells c E fz)) (h : W.cells? 0 ⟨b, o, none⟩ k = some cs) : cellsAt c o k = cs := by
  unfold World.cells? at h
  rw [if_pos (Nat.zero_le _)] at h
  have hl : cs.length = k := by simpa using mapM_some_length h
  apply List.ext_getElem?
  intro i
  rw [cellsAt, List.getElem?_take]
  by_cases hi : i < k
  · rw [if_pos hi, List.getElem?_drop]
    have := mapM_some_get h i i (by simp [hi])
    rw [← this, add_lit]
    simp [World.cell?, hb]
  · rw [if_neg hi, List.getElem?_eq_none (by omega)]
theorem exists_list {α : Type} (p : Nat → α → Prop) : ∀ n : Nat, (∀ i, i < n → ∃ t, p i t) → ∃ xs : List α, xs.length = n ∧ ∀ i (h : i < xs.length), p i xs[i]
  | 0, _ => ⟨[], rfl, fun i h => by simp at h⟩
  | n + 1, h => by
    obtain ⟨xs, hl, hx⟩ := exists_list p n fun i hi => h i (by omega)
    obtain ⟨t, ht⟩ := h n (by omega)
    refine ⟨xs ++ [t], by simp [hl], fun i hi => ?_⟩
    by_cases e : i < xs.length
    · rw [List.getElem_append_left e]
      exact hx i e
    · have : i = xs.length := by simp at hi; omega
      subst this
      simp only [List.getElem_append_right (Nat.le_refl _), Nat.sub_self, List.getElem_cons_zero]
      rw [hl]
      exact ht
theorem slice_parts {T e : TypeId} {k : Nat} (h : sliceOf P T = some (e, k)) : P.underlying T = some (.slice e) ∧ P.cellsOf e = k := by
  unfold sliceOf at h
  split at h
  · rename_i e' he
    rw [Option.map_eq_some_iff] at h
    obtain ⟨i, hi, hx⟩ := h
    simp only [Prod.mk.injEq] at hx
    obtain ⟨rfl, rfl⟩ := hx
    exact ⟨he, by simp [Program.cellsOf, hi]⟩
  · cases h
theorem trod_sl {α : Type} {R : List Value → α → Prop} {T e : TypeId} {k fuel : Nat} {v : Value} {x : DataW H × List MemPlace} (hu : sliceOf P T = some (e, k)) (hk0 : 0 < k)
    (h : DataW.trod enc P W 0 sp held fuel T [v] = some x) (hel : ∀ n cs y, fuel = n + 1 → DataW.trod enc P W 0 sp held n e cs = some y → ∃ t : α, R cs t) : ∃ xs, RdSl (heapS W) k R v xs := by
  obtain ⟨hu1, hk⟩ := slice_parts hu
  rcases DataW.trod_slice hu1 h with ⟨hcs, _⟩ | ⟨a, len, cap, elems, rest, n, hf, hcs, _, _, hl, hc, hlen, hE, _⟩
  · simp only [List.cons.injEq, and_true] at hcs
    subst hcs
    exact ⟨[], none, 0, rfl, Nat.le_refl _, Nat.zero_le _, .inl rfl⟩
  · simp only [List.cons.injEq, and_true] at hcs
    subst hcs
    have hE' : ∀ i, i < len → ∃ t : α, ∃ cs, W.cells? 0 (a.add (i * k)) k = some cs ∧ R cs t := by
      intro i hi
      have := hE i hi
      rw [hk, List.getElem?_eq_getElem (by omega), Option.bind_eq_some_iff] at this
      obtain ⟨cs, h1, h2⟩ := this
      obtain ⟨t, ht⟩ := hel n cs _ hf h2
      exact ⟨t, cs, h1, ht⟩
    obtain ⟨xs, hxl, hxs⟩ := exists_list _ len hE'
    subst hxl
    refine ⟨xs, some a, cap, rfl, hl, hc, ?_⟩
    by_cases h0 : xs.length = 0
    · exact .inl (List.eq_nil_of_length_eq_zero h0)
    · obtain ⟨cs0, h1, _⟩ := hxs 0 (by omega)
      have e0 : a.add (0 * k) = a := by rw [Nat.zero_mul]; simp [Addr.add]
      rw [e0] at h1
      have hc0 : ∃ u, W.cell? a = some u := by
        unfold World.cells? at h1
        rw [if_pos (Nat.zero_le _)] at h1
        have hl0 : cs0.length = k := by simpa using mapM_some_length h1
        have := mapM_some_get h1 0 0 (by simp [hk0])
        rw [List.getElem?_eq_getElem (by omega)] at this
        have e1 : a.add 0 = a := by simp [Addr.add]
        rw [e1] at this
        exact ⟨_, this⟩
      obtain ⟨u, hu0⟩ := hc0
      obtain ⟨b, o, c, E, fz, rfl, hb, _⟩ := cell_spot hu0
      refine .inr ⟨b, o, c, E, fz, rfl, hb, fun i hi => ?_⟩
      obtain ⟨cs, h2, hR⟩ := hxs i hi
      rw [add_lit] at h2
      rw [cells_at hb h2]
      exact hR
end

section
variable {H : Type} {enc : TypeId × Value → H} {W : World} {sp : Nat → Bool} {held : Bool}
theorem four {cs : List Value} (h : cs.length = 4) : ∃ a b c d, cs = [a, b, c, d] := by
  match cs, h with
  | [a, b, c, d], _ => exact ⟨a, b, c, d, rfl⟩
theorem five {cs : List Value} (h : cs.length = 5) : ∃ a b c d e, cs = [a, b, c, d, e] := by
  match cs, h with
  | [a, b, c, d, e], _ => exact ⟨a, b, c, d, e, rfl⟩
theorem trod_term : ∀ (fuel : Nat) (cs : List Value) (x : DataW H × List MemPlace), DataW.trod enc Tryz.prog W 0 sp held fuel t_lTerm cs = some x → ∃ t, RdT (heapS W) cs t := by
  intro fuel
  induction fuel using Nat.strongRecOn with
  | _ fuel ih =>
    intro cs x h
    obtain ⟨n, hn, hl, hf⟩ := trod_flds fl_lTerm h
    rw [co_lTerm] at hl
    obtain ⟨c0, c1, c2, c3, rfl⟩ := four hl
    obtain ⟨y0, h0⟩ := hf 0 _ _ rfl
    obtain ⟨y1, h1⟩ := hf 1 _ _ rfl
    obtain ⟨y2, h2⟩ := hf 2 _ _ rfl
    obtain ⟨y3, h3⟩ := hf 3 _ _ rfl
    rw [co_int] at h0 h1
    rw [co_string] at h2
    rw [co_SlTerm] at h3
    obtain ⟨k, rfl, hk⟩ := trod_int un_int h0
    obtain ⟨m, rfl, hm⟩ := trod_int un_int h1
    obtain ⟨s, rfl, hs⟩ := trod_str un_string h2
    obtain ⟨ks, hks⟩ := trod_sl (R := RdT (heapS W)) sl_SlTerm (by omega) h3 fun n' cs' y hn' hy => ih n' (by omega) cs' y hy
    exact ⟨.mk k m s ks, RdT.iff.2 ⟨c3, rfl, hk, hm, hs, hks⟩⟩
theorem trod_terms {fuel : Nat} {v : Value} {x : DataW H × List MemPlace} (h : DataW.trod enc Tryz.prog W 0 sp held fuel t_SlTerm [v] = some x) : ∃ ts, RdSl (heapS W) 4 (RdT (heapS W)) v ts :=
  trod_sl sl_SlTerm (by omega) h fun n' cs' y _ hy => trod_term n' cs' y hy
theorem trod_clause {fuel : Nat} {cs : List Value} {x : DataW H × List MemPlace} (h : DataW.trod enc Tryz.prog W 0 sp held fuel t_lClause cs = some x) : ∃ c, RdC (heapS W) cs c := by
  obtain ⟨n, hn, hl, hf⟩ := trod_flds fl_lClause h
  rw [co_lClause] at hl
  obtain ⟨y0, h0⟩ := hf 0 _ _ rfl
  obtain ⟨y1, h1⟩ := hf 1 _ _ rfl
  rw [co_lTerm] at h0
  rw [co_SlTerm] at h1
  obtain ⟨a, b, c, d, e, rfl⟩ := five hl
  obtain ⟨t, ht⟩ := trod_term _ [a, b, c, d] _ h0
  obtain ⟨ks, hks⟩ := trod_terms (v := e) h1
  exact ⟨⟨t, ks⟩, [a, b, c, d], e, rfl, ht, hks⟩
theorem trod_clauses {fuel : Nat} {v : Value} {x : DataW H × List MemPlace} (h : DataW.trod enc Tryz.prog W 0 sp held fuel t_SlClause [v] = some x) : ∃ p, RdSl (heapS W) 5 (RdC (heapS W)) v p :=
  trod_sl sl_SlClause (by omega) h fun _ _ _ _ hy => trod_clause hy
end

theorem Inv.entry (W : World) : Inv W [] [] (heapS W) W := Inv.start (L := []) (by simp) (by simp [feet]) fun b o hb => ⟨hb, by simp [feet]⟩
theorem Inv.same {W W' : World} {L : List Item} {S : Store} (h : Inv W [] L S W') (b : Nat) (hb : b < W.heap.size) : W'.heap[b]? = W.heap[b]? := h.old b hb (by simp)
theorem same_kept {W W' : World} {may : MemPlace → Prop} (ho : W'.os = W.os) (hp : W'.output = W.output) (h : ∀ b, b < W.heap.size → W'.heap[b]? = W.heap[b]?) : W.keptBut W' may := by
  refine ⟨ho, hp, fun i hi => ?_⟩
  rw [h i hi]
  split
  · rename_i e1 e2
    rw [e1] at e2
    simp only [Option.some.injEq, Obj.cells.injEq] at e2
    obtain ⟨rfl, rfl, rfl⟩ := e2
    exact ⟨rfl, rfl, rfl, fun _ _ => rfl⟩
  · rename_i e1 e2
    rw [e1] at e2
    simp only [Option.some.injEq, Obj.map.injEq] at e2
    obtain ⟨rfl, rfl⟩ := e2
    exact .inr ⟨rfl, rfl⟩
  · rfl

end Go.Proofs.YtaaihodhhacapaaGreat

/- The sizes: laws.szTerm and its kin. -/
namespace Go.Proofs.YtaaihodhhacapaaGreat
open Go Go.RowKit
attribute [local irreducible] Run CondV GuardV LoadV

mutual
def szT : T → Int → Int
  | .mk _ _ s ks, left => if left - s.size < 0 then -1 else if left - s.size - ks.length < 0 then -1 else szL ks (left - s.size - ks.length)
def szL : List T → Int → Int
  | [], left => left
  | t :: ts, left => if szT t left < 0 then -1 else szL ts (szT t left)
end
def szTs (ts : List T) (left : Int) : Int := if left - ts.length < 0 then -1 else szL ts (left - ts.length)

mutual
theorem szT_le : ∀ (t : T) (left : Int), 0 ≤ left → -1 ≤ szT t left ∧ szT t left ≤ left
  | .mk k n s ks, left, h => by
    simp only [szT]
    split
    · omega
    · split
      · omega
      · have := szL_le ks (left - s.size - ks.length) (by omega)
        omega
theorem szL_le : ∀ (ts : List T) (left : Int), 0 ≤ left → -1 ≤ szL ts left ∧ szL ts left ≤ left
  | [], left, h => by simp only [szL]; omega
  | t :: ts, left, h => by
    simp only [szL]
    have h1 := szT_le t left h
    split
    · omega
    · have h2 := szL_le ts (szT t left) (by omega)
      omega
end

theorem szTermS_of {ts : List T} (ih : ∀ t ∈ ts, ∀ (S : Store) (cs : List Value) (left : Int), RdT S cs t → 0 ≤ left → left ≤ 4611686018427387904 → Pure Tryz.prog n_l_szTerm [.agg cs.toArray, .int .i64 left] S (.int .i64 (szT t left)))
    {S : Store} {v : Value} {left : Int} (h : RdSl S 4 (RdT S) v ts) (h0 : 0 ≤ left) (h1 : left ≤ 4611686018427387904) : Pure Tryz.prog n_l_szTermS [v, .int .i64 left] S (.int .i64 (szTs ts left)) := by
  intro w hI
  have hlen : (ts.length : Int) ≤ 9223372036854775807 := by have := h.le; simp only [maxLen] at this; omega
  refine calls_l_szTermS ?_
  unfold sh_l_szTermS
  refine r_lenSl h sl_SlTerm ?_
  refine r_sub (by omega) ?_
  refine r_lss ?_
  refine condP (fun hlt => ?_) (fun hlt => ?_)
  · exact done hI (by rw [szTs, if_pos hlt])
  refine ⟨fun i l w' => ∃ (k : Nat) (l' : Int), k ≤ ts.length ∧ i = .int .i64 k ∧ l = .int .i64 l' ∧ 0 ≤ l' ∧ l' ≤ left ∧ szL (ts.drop k) l' = szL ts (left - ts.length) ∧ Inv w [] [] S w',
    fun i _ _ => ts.length - (intOf i).toNat, ⟨0, _, Nat.zero_le _, rfl, rfl, by omega, by omega, rfl, hI⟩, ?_⟩
  intro t5 _ _ _ _ _ t1 _ _ _ _ _ _ _ _ _ _ w'
  rintro ⟨k, l', hk, rfl, rfl, hl0, hl1, hrel, hI⟩
  refine r_lenSl h sl_SlTerm ?_
  refine r_lss ?_
  refine condP (fun hki => ?_) (fun hki => ?_)
  · have hk' : k < ts.length := by omega
    refine r_elem hI h sl_SlTerm ag_lTerm hk' (fun _ _ => RdT.length) fun cs hcs => ?_
    have hb := szT_le ts[k] l' hl0
    refine Run.callPure fn_l_szTerm nm_l_szTerm hI (ih _ (List.getElem_mem _) S cs l' hcs hl0 (by omega)) fun w' hI => ?_
    have hstep : szL (ts.drop k) l' = if szT ts[k] l' < 0 then -1 else szL (ts.drop (k + 1)) (szT ts[k] l') := by
      rw [List.drop_eq_getElem_cons hk', szL]
    refine r_lss ?_
    refine condP (fun hneg => ?_) (fun hneg => ?_)
    · exact done hI (by rw [szTs, if_neg hlt, ← hrel, hstep, if_pos hneg])
    · refine r_add (by omega) ?_
      refine ⟨⟨k + 1, _, hk', rfl, rfl, by omega, by omega, ?_, hI⟩, by simp [intOf]; omega⟩
      rw [← hrel, hstep, if_neg hneg]
  · have : k = ts.length := by omega
    subst this
    exact done hI (by rw [szTs, if_neg hlt, ← hrel, List.drop_length, szL])

theorem szTerm_calls : ∀ (t : T) (S : Store) (cs : List Value) (left : Int), RdT S cs t → 0 ≤ left → left ≤ 4611686018427387904 →
    Pure Tryz.prog n_l_szTerm [.agg cs.toArray, .int .i64 left] S (.int .i64 (szT t left)) := by
  refine T.ind fun k n s ks ih S cs left h h0 h1 => ?_
  intro w hI
  obtain ⟨kv, rfl, _, _, hs, hks⟩ := RdT.iff.1 h
  simp only [T.name, T.kids, T.kind, T.n] at hs hks ⊢
  simp only [maxLen] at hs
  have hlen : (ks.length : Int) ≤ 9223372036854775807 := by have := hks.le; simp only [maxLen] at this; omega
  refine calls_l_szTerm ?_
  unfold sh_l_szTerm
  refine r_box hI fun b w' hI => ?_
  refine r_fieldL hI 0 rfl fo_lTerm_2 sc_string rfl ?_
  refine r_lenStr un_string ?_
  refine r_sub (by omega) ?_
  refine r_lss ?_
  refine condP (fun hlt => ?_) (fun hlt => ?_)
  · exact done hI (by rw [szT, if_pos hlt])
  refine r_fieldL hI 0 rfl fo_lTerm_3 sc_SlTerm rfl ?_
  refine Run.callPure fn_l_szTermS nm_l_szTermS hI (szTermS_of ih hks (by omega) (by omega)) fun w' hI => ?_
  refine r_lss ?_
  refine condP (fun hneg => ?_) (fun hneg => ?_)
  · refine done hI ?_
    rw [szT, if_neg hlt]
    unfold szTs at hneg
    split
    · rfl
    · rename_i h3
      rw [if_neg h3] at hneg
      have := szL_le ks (left - s.size - ks.length) (by omega)
      congr 1; omega
  · refine done hI ?_
    rw [szT, if_neg hlt]
    rfl
theorem szTermS_calls {ts : List T} {S : Store} {v : Value} {left : Int} (h : RdSl S 4 (RdT S) v ts) (h0 : 0 ≤ left) (h1 : left ≤ 4611686018427387904) :
    Pure Tryz.prog n_l_szTermS [v, .int .i64 left] S (.int .i64 (szTs ts left)) := szTermS_of (fun t _ => szTerm_calls t) h h0 h1

end Go.Proofs.YtaaihodhhacapaaGreat

/- Equality of terms and clauses as the laws ask it. -/
namespace Go.Proofs.YtaaihodhhacapaaGreat
open Go Go.RowKit
attribute [local irreducible] Run CondV GuardV LoadV

mutual
def eqT : T → T → Bool
  | .mk k n s ks, .mk k' n' s' ks' => decide (k = k') && (decide (n = n') && (decide (s = s') && eqL ks ks'))
def eqL : List T → List T → Bool
  | [], [] => true
  | t :: ts, u :: us => eqT t u && eqL ts us
  | _, _ => false
end
mutual
theorem eqT_iff : ∀ a b : T, eqT a b = true ↔ a = b
  | .mk k n s ks, .mk k' n' s' ks' => by
    simp only [eqT, Bool.and_eq_true, decide_eq_true_eq, eqL_iff ks ks', T.mk.injEq]
theorem eqL_iff : ∀ a b : List T, eqL a b = true ↔ a = b
  | [], [] => by simp [eqL]
  | [], _ :: _ => by simp [eqL]
  | _ :: _, [] => by simp [eqL]
  | t :: ts, u :: us => by
    simp only [eqL, Bool.and_eq_true, eqT_iff t u, eqL_iff ts us, List.cons.injEq]
end
theorem eqL_len : ∀ {a b : List T}, a.length ≠ b.length → eqL a b = false := by
  intro a b h
  rw [← Bool.not_eq_true, eqL_iff]
  rintro rfl
  exact h rfl
def eqC (a b : C) : Bool := eqT a.head b.head && eqL a.body b.body
theorem eqC_iff (a b : C) : eqC a b = true ↔ a = b := by
  cases a; cases b
  simp only [eqC, Bool.and_eq_true, eqT_iff, eqL_iff, C.mk.injEq]
def eqP : List C → List C → Bool
  | [], [] => true
  | t :: ts, u :: us => eqC t u && eqP ts us
  | _, _ => false
theorem eqP_iff : ∀ a b : List C, eqP a b = true ↔ a = b
  | [], [] => by simp [eqP]
  | [], _ :: _ => by simp [eqP]
  | _ :: _, [] => by simp [eqP]
  | t :: ts, u :: us => by simp only [eqP, Bool.and_eq_true, eqC_iff, eqP_iff ts us, List.cons.injEq]
theorem eqP_len : ∀ {a b : List C}, a.length ≠ b.length → eqP a b = false := by
  intro a b h
  rw [← Bool.not_eq_true, eqP_iff]
  rintro rfl
  exact h rfl

theorem sub4 {a b c d e : Value} : ∀ (j : Nat) (v : Value), ([a, b, c, d] : List Value)[j]? = some v → (#[a, b, c, d, e] : Array Value)[0 + j]? = some v
  | 0, _, h | 1, _, h | 2, _, h | 3, _, h => h
  | j + 4, _, h => by simp at h

theorem eqTermS_of {xs : List T} (ih : ∀ t ∈ xs, ∀ (u : T) (S : Store) (cs ds : List Value), RdT S cs t → RdT S ds u → Pure Tryz.prog n_l_eqTerm [.agg cs.toArray, .agg ds.toArray] S (.bool (eqT t u)))
    {ys : List T} {S : Store} {v u : Value} (h : RdSl S 4 (RdT S) v xs) (h' : RdSl S 4 (RdT S) u ys) : Pure Tryz.prog n_l_eqTermS [v, u] S (.bool (eqL xs ys)) := by
  intro w hI
  have hlen : (xs.length : Int) ≤ 9223372036854775807 := by have := h.le; simp only [maxLen] at this; omega
  refine calls_l_eqTermS ?_
  unfold sh_l_eqTermS
  refine r_lenSl h sl_SiTerm ?_
  refine r_lenSl h' sl_SiTerm ?_
  refine r_neq ?_
  refine condV (fun hne => ?_) (fun he => ?_)
  · exact done hI (by rw [eqL_len (by simp at hne; omega)])
  have he : xs.length = ys.length := by simp at he; omega
  refine ⟨fun i w' => ∃ (k : Nat), k ≤ xs.length ∧ i = .int .i64 k ∧ eqL (xs.drop k) (ys.drop k) = eqL xs ys ∧ Inv w [] [] S w', fun i _ => xs.length - (intOf i).toNat, ⟨0, Nat.zero_le _, rfl, rfl, hI⟩, ?_⟩
  intro t5 _ _ _ _ _ _ _ _ _ _ _ _ _ _ _ _ _ w'
  rintro ⟨k, hk, rfl, hrel, hI⟩
  refine r_lenSl h sl_SiTerm ?_
  refine r_lss ?_
  refine condP (fun hki => ?_) (fun hki => ?_)
  · have hk1 : k < xs.length := by omega
    have hk2 : k < ys.length := by omega
    obtain ⟨b1, o1, cap1, c1, E1, fz1, rfl, hS1, hR1⟩ := h.at_ hk1
    obtain ⟨b2, o2, cap2, c2, E2, fz2, rfl, hS2, hR2⟩ := h'.at_ hk2
    have hstep : eqL (xs.drop k) (ys.drop k) = (eqT xs[k] ys[k] && eqL (xs.drop (k + 1)) (ys.drop (k + 1))) := by
      rw [List.drop_eq_getElem_cons hk1, List.drop_eq_getElem_cons hk2, eqL]
    refine ⟨fun D x26 x25 x24 x23 x22 x21 x20 x19 x18 x17 w_ => (D 0 = true → x17 = .slice (some ⟨b1, o1, none⟩) xs.length cap1) ∧ (D 1 = true → x18 = .int .i64 k) ∧ (D 2 = true → x19 = .pointer (some ⟨b1, o1 + k * 4, none⟩)) ∧ (D 3 = true → x20 = .agg (cellsAt c1 (o1 + k * 4) 4).toArray) ∧ (D 4 = true → x21 = .slice (some ⟨b2, o2, none⟩) ys.length cap2) ∧ (D 5 = true → x22 = .int .i64 k) ∧ (D 6 = true → x23 = .pointer (some ⟨b2, o2 + k * 4, none⟩)) ∧ (D 7 = true → x24 = .agg (cellsAt c2 (o2 + k * 4) 4).toArray) ∧ (D 8 = true → x25 = .bool (eqT xs[k] ys[k])) ∧ (D 9 = true → x26 = .bool (!eqT xs[k] ys[k])) ∧ Inv w [] [] S w_, ⟨fun h => Bool.noConfusion h, fun h => Bool.noConfusion h, fun h => Bool.noConfusion h, fun h => Bool.noConfusion h, fun h => Bool.noConfusion h, fun h => Bool.noConfusion h, fun h => Bool.noConfusion h, fun h => Bool.noConfusion h, fun h => Bool.noConfusion h, fun h => Bool.noConfusion h, hI.draw⟩, ⟨?_, ?_, ?_, ?_, ?_, ?_, ?_, ?_, ?_, ?_, trivial⟩, ?_⟩
    · intro D hD_  x26 x25 x24 x23 x22 x21 x20 x19 x18 x17 w_
      rintro ⟨h0_, h1_, h2_, h3_, h4_, h5_, h6_, h7_, h8_, h9_, hI⟩
      exact ⟨fun _ => rfl, h1_, h2_, h3_, h4_, h5_, h6_, h7_, h8_, h9_, hI⟩
    · intro D hD_  x26 x25 x24 x23 x22 x21 x20 x19 x18 x17 w_
      rintro ⟨h0_, h1_, h2_, h3_, h4_, h5_, h6_, h7_, h8_, h9_, hI⟩
      exact ⟨h0_, fun _ => rfl, h2_, h3_, h4_, h5_, h6_, h7_, h8_, h9_, hI⟩
    · intro D hD_ d0_0 d1_1 x26 x25 x24 x23 x22 x21 x20 x19 x18 x17 w_
      rintro ⟨h0_, h1_, h2_, h3_, h4_, h5_, h6_, h7_, h8_, h9_, hI⟩
      obtain rfl := h0_ d0_0
      obtain rfl := h1_ d1_1
      refine r_indexAddr sl_SiTerm hk1 ?_
      exact ⟨h0_, h1_, fun _ => rfl, h3_, h4_, h5_, h6_, h7_, h8_, h9_, hI⟩
    · intro D hD_ d2_0 x26 x25 x24 x23 x22 x21 x20 x19 x18 x17 w_
      rintro ⟨h0_, h1_, h2_, h3_, h4_, h5_, h6_, h7_, h8_, h9_, hI⟩
      obtain rfl := h2_ d2_0
      refine r_loadA ag_iTerm hR1.length (fun j v hj => by rw [hI.cellS hS1]; exact cellsAt_get rfl j v hj) ?_
      exact ⟨h0_, h1_, h2_, fun _ => rfl, h4_, h5_, h6_, h7_, h8_, h9_, hI⟩
    · intro D hD_  x26 x25 x24 x23 x22 x21 x20 x19 x18 x17 w_
      rintro ⟨h0_, h1_, h2_, h3_, h4_, h5_, h6_, h7_, h8_, h9_, hI⟩
      exact ⟨h0_, h1_, h2_, h3_, fun _ => rfl, h5_, h6_, h7_, h8_, h9_, hI⟩
    · intro D hD_  x26 x25 x24 x23 x22 x21 x20 x19 x18 x17 w_
      rintro ⟨h0_, h1_, h2_, h3_, h4_, h5_, h6_, h7_, h8_, h9_, hI⟩
      exact ⟨h0_, h1_, h2_, h3_, h4_, fun _ => rfl, h6_, h7_, h8_, h9_, hI⟩
    · intro D hD_ d4_0 d5_1 x26 x25 x24 x23 x22 x21 x20 x19 x18 x17 w_
      rintro ⟨h0_, h1_, h2_, h3_, h4_, h5_, h6_, h7_, h8_, h9_, hI⟩
      obtain rfl := h4_ d4_0
      obtain rfl := h5_ d5_1
      refine r_indexAddr sl_SiTerm hk2 ?_
      exact ⟨h0_, h1_, h2_, h3_, h4_, h5_, fun _ => rfl, h7_, h8_, h9_, hI⟩
    · intro D hD_ d6_0 x26 x25 x24 x23 x22 x21 x20 x19 x18 x17 w_
      rintro ⟨h0_, h1_, h2_, h3_, h4_, h5_, h6_, h7_, h8_, h9_, hI⟩
      obtain rfl := h6_ d6_0
      refine r_loadA ag_iTerm hR2.length (fun j v hj => by rw [hI.cellS hS2]; exact cellsAt_get rfl j v hj) ?_
      exact ⟨h0_, h1_, h2_, h3_, h4_, h5_, h6_, fun _ => rfl, h8_, h9_, hI⟩
    · intro D hD_ d3_0 d7_1 x26 x25 x24 x23 x22 x21 x20 x19 x18 x17 w_
      rintro ⟨h0_, h1_, h2_, h3_, h4_, h5_, h6_, h7_, h8_, h9_, hI⟩
      obtain rfl := h3_ d3_0
      obtain rfl := h7_ d7_1
      refine Run.callPure fn_l_eqTerm nm_l_eqTerm hI (ih _ (List.getElem_mem hk1) _ S _ _ hR1 hR2) fun w_ hI => ?_
      exact ⟨h0_, h1_, h2_, h3_, h4_, h5_, h6_, h7_, fun _ => rfl, h9_, hI⟩
    · intro D hD_ d8_0 x26 x25 x24 x23 x22 x21 x20 x19 x18 x17 w_
      rintro ⟨h0_, h1_, h2_, h3_, h4_, h5_, h6_, h7_, h8_, h9_, hI⟩
      obtain rfl := h8_ d8_0
      refine r_not ?_
      exact ⟨h0_, h1_, h2_, h3_, h4_, h5_, h6_, h7_, h8_, fun _ => rfl, hI⟩
    intro D d9_ d8_ d7_ d6_ d5_ d4_ d3_ d2_ d1_ d0_ x26 x25 x24 x23 x22 x21 x20 x19 x18 x17 w_
    rintro ⟨h0_, h1_, h2_, h3_, h4_, h5_, h6_, h7_, h8_, h9_, hI⟩
    obtain rfl := h9_ d9_
    obtain rfl := h8_ d8_
    obtain rfl := h7_ d7_
    obtain rfl := h6_ d6_
    obtain rfl := h5_ d5_
    obtain rfl := h4_ d4_
    obtain rfl := h3_ d3_
    obtain rfl := h2_ d2_
    obtain rfl := h1_ d1_
    obtain rfl := h0_ d0_
    clear h0_ h1_ h2_ h3_ h4_ h5_ h6_ h7_ h8_ h9_
    refine condV (fun hne => ?_) (fun he' => ?_)
    · exact done hI (by rw [← hrel, hstep]; simp at hne; rw [hne]; rfl)
    · refine r_add (by omega) ?_
      refine ⟨⟨k + 1, hk1, rfl, ?_, hI⟩, by simp [intOf]; omega⟩
      rw [← hrel, hstep]
      simp at he'
      rw [he', Bool.true_and]
  · have : k = xs.length := by omega
    subst this
    refine done hI ?_
    rw [← hrel, List.drop_length, he, List.drop_length]
    rfl
theorem eqTerm_calls : ∀ (t u : T) (S : Store) (cs ds : List Value), RdT S cs t → RdT S ds u → Pure Tryz.prog n_l_eqTerm [.agg cs.toArray, .agg ds.toArray] S (.bool (eqT t u)) := by
  refine T.ind fun k n s ks ih u S cs ds h h' => ?_
  intro w hI
  obtain ⟨kv, rfl, _, _, _, hks⟩ := RdT.iff.1 h
  obtain ⟨kv', rfl, _, _, _, hks'⟩ := RdT.iff.1 h'
  obtain ⟨k', n', s', ks'⟩ := u
  simp only [T.name, T.kids, T.kind, T.n] at hks hks' ⊢
  refine calls_l_eqTerm ?_
  unfold sh_l_eqTerm
  refine r_box hI fun b1 w' hI => ?_
  refine r_box hI fun b2 w' hI => ?_
  refine r_fieldL hI 0 rfl fo_iTerm_0 sc_int rfl ?_
  refine r_fieldL hI 1 rfl fo_iTerm_0 sc_int rfl ?_
  refine r_neq ?_
  refine condV (fun hne => done hI ?_) (fun e1 => ?_)
  · simp at hne; simp [eqT, hne]
  refine r_fieldL hI 0 rfl fo_iTerm_1 sc_int rfl ?_
  refine r_fieldL hI 1 rfl fo_iTerm_1 sc_int rfl ?_
  refine r_neq ?_
  refine condV (fun hne => done hI ?_) (fun e2 => ?_)
  · simp at hne; simp [eqT, hne]
  refine r_fieldL hI 0 rfl fo_iTerm_2 sc_string rfl ?_
  refine r_fieldL hI 1 rfl fo_iTerm_2 sc_string rfl ?_
  refine r_sneq ?_
  refine condV (fun hne => done hI ?_) (fun e3 => ?_)
  · simp at hne; simp [eqT, hne]
  refine r_fieldL hI 0 rfl fo_iTerm_3 sc_SiTerm rfl ?_
  refine r_fieldL hI 1 rfl fo_iTerm_3 sc_SiTerm rfl ?_
  refine Run.callPure fn_l_eqTermS nm_l_eqTermS hI (eqTermS_of ih hks hks') fun w' hI => ?_
  refine r_not ?_
  simp at e1 e2 e3
  refine condV (fun hne => done hI ?_) (fun e4 => done hI ?_)
  · simp at hne; simp [eqT, hne]
  · simp at e4; simp [eqT, e1, e2, e3, e4]
theorem eqTermS_calls {xs ys : List T} {S : Store} {v u : Value} (h : RdSl S 4 (RdT S) v xs) (h' : RdSl S 4 (RdT S) u ys) : Pure Tryz.prog n_l_eqTermS [v, u] S (.bool (eqL xs ys)) :=
  eqTermS_of (fun t _ u => eqTerm_calls t u) h h'
theorem eqClause_calls {a b : C} {S : Store} {cs ds : List Value} (h : RdC S cs a) (h' : RdC S ds b) : Pure Tryz.prog n_l_eqClause [.agg cs.toArray, .agg ds.toArray] S (.bool (eqC a b)) := by
  intro w hI
  obtain ⟨hd, ks, rfl, h1, h2⟩ := h
  obtain ⟨hd', ks', rfl, h1', h2'⟩ := h'
  obtain ⟨kv, rfl, _⟩ := RdT.iff.1 h1
  obtain ⟨kv', rfl, _⟩ := RdT.iff.1 h1'
  refine calls_l_eqClause ?_
  unfold sh_l_eqClause
  refine r_box hI fun b1 w' hI => ?_
  refine r_box hI fun b2 w' hI => ?_
  refine r_field fo_iClause_0 ?_
  refine r_loadLA hI 0 [_, _, _, _] ag_iTerm rfl rfl sub4 ?_
  refine r_field fo_iClause_0 ?_
  refine r_loadLA hI 1 [_, _, _, _] ag_iTerm rfl rfl sub4 ?_
  refine Run.callPure fn_l_eqTerm nm_l_eqTerm hI (eqTerm_calls _ _ S _ _ h1 h1') fun w' hI => ?_
  refine r_not ?_
  refine condV (fun hne => done hI ?_) (fun e1 => ?_)
  · simp at hne; simp [eqC, hne]
  refine r_fieldL hI 0 rfl fo_iClause_1 sc_SiTerm rfl ?_
  refine r_fieldL hI 1 rfl fo_iClause_1 sc_SiTerm rfl ?_
  refine Run.callPure fn_l_eqTermS nm_l_eqTermS hI (eqTermS_calls h2 h2') fun w' hI => ?_
  refine r_not ?_
  simp at e1
  refine condV (fun hne => done hI ?_) (fun e4 => done hI ?_)
  · simp at hne; simp [eqC, hne]
  · simp at e4; simp [eqC, e1, e4]
theorem eqClauseS_calls {xs ys : List C} {S : Store} {v u : Value} (h : RdSl S 5 (RdC S) v xs) (h' : RdSl S 5 (RdC S) u ys) : Pure Tryz.prog n_l_eqClauseS [v, u] S (.bool (eqP xs ys)) := by
  intro w hI
  have hlen : (xs.length : Int) ≤ 9223372036854775807 := by have := h.le; simp only [maxLen] at this; omega
  refine calls_l_eqClauseS ?_
  unfold sh_l_eqClauseS
  refine r_lenSl h sl_SiClause ?_
  refine r_lenSl h' sl_SiClause ?_
  refine r_neq ?_
  refine condV (fun hne => ?_) (fun he => ?_)
  · exact done hI (by rw [eqP_len (by simp at hne; omega)])
  have he : xs.length = ys.length := by simp at he; omega
  refine ⟨fun i w' => ∃ (k : Nat), k ≤ xs.length ∧ i = .int .i64 k ∧ eqP (xs.drop k) (ys.drop k) = eqP xs ys ∧ Inv w [] [] S w', fun i _ => xs.length - (intOf i).toNat, ⟨0, Nat.zero_le _, rfl, rfl, hI⟩, ?_⟩
  intro t5 _ _ _ _ _ _ _ _ _ _ _ _ _ _ _ _ _ w'
  rintro ⟨k, hk, rfl, hrel, hI⟩
  refine r_lenSl h sl_SiClause ?_
  refine r_lss ?_
  refine condP (fun hki => ?_) (fun hki => ?_)
  · have hk1 : k < xs.length := by omega
    have hk2 : k < ys.length := by omega
    obtain ⟨b1, o1, cap1, c1, E1, fz1, rfl, hS1, hR1⟩ := h.at_ hk1
    obtain ⟨b2, o2, cap2, c2, E2, fz2, rfl, hS2, hR2⟩ := h'.at_ hk2
    have hstep : eqP (xs.drop k) (ys.drop k) = (eqC xs[k] ys[k] && eqP (xs.drop (k + 1)) (ys.drop (k + 1))) := by
      rw [List.drop_eq_getElem_cons hk1, List.drop_eq_getElem_cons hk2, eqP]
    refine ⟨fun D x26 x25 x24 x23 x22 x21 x20 x19 x18 x17 w_ => (D 0 = true → x17 = .slice (some ⟨b1, o1, none⟩) xs.length cap1) ∧ (D 1 = true → x18 = .int .i64 k) ∧ (D 2 = true → x19 = .pointer (some ⟨b1, o1 + k * 5, none⟩)) ∧ (D 3 = true → x20 = .agg (cellsAt c1 (o1 + k * 5) 5).toArray) ∧ (D 4 = true → x21 = .slice (some ⟨b2, o2, none⟩) ys.length cap2) ∧ (D 5 = true → x22 = .int .i64 k) ∧ (D 6 = true → x23 = .pointer (some ⟨b2, o2 + k * 5, none⟩)) ∧ (D 7 = true → x24 = .agg (cellsAt c2 (o2 + k * 5) 5).toArray) ∧ (D 8 = true → x25 = .bool (eqC xs[k] ys[k])) ∧ (D 9 = true → x26 = .bool (!eqC xs[k] ys[k])) ∧ Inv w [] [] S w_, ⟨fun h => Bool.noConfusion h, fun h => Bool.noConfusion h, fun h => Bool.noConfusion h, fun h => Bool.noConfusion h, fun h => Bool.noConfusion h, fun h => Bool.noConfusion h, fun h => Bool.noConfusion h, fun h => Bool.noConfusion h, fun h => Bool.noConfusion h, fun h => Bool.noConfusion h, hI.draw⟩, ⟨?_, ?_, ?_, ?_, ?_, ?_, ?_, ?_, ?_, ?_, trivial⟩, ?_⟩
    · intro D hD_  x26 x25 x24 x23 x22 x21 x20 x19 x18 x17 w_
      rintro ⟨h0_, h1_, h2_, h3_, h4_, h5_, h6_, h7_, h8_, h9_, hI⟩
      exact ⟨fun _ => rfl, h1_, h2_, h3_, h4_, h5_, h6_, h7_, h8_, h9_, hI⟩
    · intro D hD_  x26 x25 x24 x23 x22 x21 x20 x19 x18 x17 w_
      rintro ⟨h0_, h1_, h2_, h3_, h4_, h5_, h6_, h7_, h8_, h9_, hI⟩
      exact ⟨h0_, fun _ => rfl, h2_, h3_, h4_, h5_, h6_, h7_, h8_, h9_, hI⟩
    · intro D hD_ d0_0 d1_1 x26 x25 x24 x23 x22 x21 x20 x19 x18 x17 w_
      rintro ⟨h0_, h1_, h2_, h3_, h4_, h5_, h6_, h7_, h8_, h9_, hI⟩
      obtain rfl := h0_ d0_0
      obtain rfl := h1_ d1_1
      refine r_indexAddr sl_SiClause hk1 ?_
      exact ⟨h0_, h1_, fun _ => rfl, h3_, h4_, h5_, h6_, h7_, h8_, h9_, hI⟩
    · intro D hD_ d2_0 x26 x25 x24 x23 x22 x21 x20 x19 x18 x17 w_
      rintro ⟨h0_, h1_, h2_, h3_, h4_, h5_, h6_, h7_, h8_, h9_, hI⟩
      obtain rfl := h2_ d2_0
      refine r_loadA ag_iClause hR1.length (fun j v hj => by rw [hI.cellS hS1]; exact cellsAt_get rfl j v hj) ?_
      exact ⟨h0_, h1_, h2_, fun _ => rfl, h4_, h5_, h6_, h7_, h8_, h9_, hI⟩
    · intro D hD_  x26 x25 x24 x23 x22 x21 x20 x19 x18 x17 w_
      rintro ⟨h0_, h1_, h2_, h3_, h4_, h5_, h6_, h7_, h8_, h9_, hI⟩
      exact ⟨h0_, h1_, h2_, h3_, fun _ => rfl, h5_, h6_, h7_, h8_, h9_, hI⟩
    · intro D hD_  x26 x25 x24 x23 x22 x21 x20 x19 x18 x17 w_
      rintro ⟨h0_, h1_, h2_, h3_, h4_, h5_, h6_, h7_, h8_, h9_, hI⟩
      exact ⟨h0_, h1_, h2_, h3_, h4_, fun _ => rfl, h6_, h7_, h8_, h9_, hI⟩
    · intro D hD_ d4_0 d5_1 x26 x25 x24 x23 x22 x21 x20 x19 x18 x17 w_
      rintro ⟨h0_, h1_, h2_, h3_, h4_, h5_, h6_, h7_, h8_, h9_, hI⟩
      obtain rfl := h4_ d4_0
      obtain rfl := h5_ d5_1
      refine r_indexAddr sl_SiClause hk2 ?_
      exact ⟨h0_, h1_, h2_, h3_, h4_, h5_, fun _ => rfl, h7_, h8_, h9_, hI⟩
    · intro D hD_ d6_0 x26 x25 x24 x23 x22 x21 x20 x19 x18 x17 w_
      rintro ⟨h0_, h1_, h2_, h3_, h4_, h5_, h6_, h7_, h8_, h9_, hI⟩
      obtain rfl := h6_ d6_0
      refine r_loadA ag_iClause hR2.length (fun j v hj => by rw [hI.cellS hS2]; exact cellsAt_get rfl j v hj) ?_
      exact ⟨h0_, h1_, h2_, h3_, h4_, h5_, h6_, fun _ => rfl, h8_, h9_, hI⟩
    · intro D hD_ d3_0 d7_1 x26 x25 x24 x23 x22 x21 x20 x19 x18 x17 w_
      rintro ⟨h0_, h1_, h2_, h3_, h4_, h5_, h6_, h7_, h8_, h9_, hI⟩
      obtain rfl := h3_ d3_0
      obtain rfl := h7_ d7_1
      refine Run.callPure fn_l_eqClause nm_l_eqClause hI (eqClause_calls hR1 hR2) fun w_ hI => ?_
      exact ⟨h0_, h1_, h2_, h3_, h4_, h5_, h6_, h7_, fun _ => rfl, h9_, hI⟩
    · intro D hD_ d8_0 x26 x25 x24 x23 x22 x21 x20 x19 x18 x17 w_
      rintro ⟨h0_, h1_, h2_, h3_, h4_, h5_, h6_, h7_, h8_, h9_, hI⟩
      obtain rfl := h8_ d8_0
      refine r_not ?_
      exact ⟨h0_, h1_, h2_, h3_, h4_, h5_, h6_, h7_, h8_, fun _ => rfl, hI⟩
    intro D d9_ d8_ d7_ d6_ d5_ d4_ d3_ d2_ d1_ d0_ x26 x25 x24 x23 x22 x21 x20 x19 x18 x17 w_
    rintro ⟨h0_, h1_, h2_, h3_, h4_, h5_, h6_, h7_, h8_, h9_, hI⟩
    obtain rfl := h9_ d9_
    obtain rfl := h8_ d8_
    obtain rfl := h7_ d7_
    obtain rfl := h6_ d6_
    obtain rfl := h5_ d5_
    obtain rfl := h4_ d4_
    obtain rfl := h3_ d3_
    obtain rfl := h2_ d2_
    obtain rfl := h1_ d1_
    obtain rfl := h0_ d0_
    clear h0_ h1_ h2_ h3_ h4_ h5_ h6_ h7_ h8_ h9_
    refine condV (fun hne => ?_) (fun he' => ?_)
    · exact done hI (by rw [← hrel, hstep]; simp at hne; rw [hne]; rfl)
    · refine r_add (by omega) ?_
      refine ⟨⟨k + 1, hk1, rfl, ?_, hI⟩, by simp [intOf]; omega⟩
      rw [← hrel, hstep]
      simp at he'
      rw [he', Bool.true_and]
  · have : k = xs.length := by omega
    subst this
    refine done hI ?_
    rw [← hrel, List.drop_length, he, List.drop_length]
    rfl

end Go.Proofs.YtaaihodhhacapaaGreat

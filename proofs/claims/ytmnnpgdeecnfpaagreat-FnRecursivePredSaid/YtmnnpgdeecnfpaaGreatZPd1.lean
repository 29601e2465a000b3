/- Goals, clauses, programs, queries: which are valid, on both sides. -/
import Derived.Test.YtmnnpgdeecnfpaaGreatZPd0
import Derived.Test.YtmnnpgdeecnfpaaGreatRows
import Derived.ProofKit
import Derived.ReadAgain
import Derived.Carry
import Derived.Test.YtmnnpgdeecnfpaaGreatData
import Derived.Test.YtmnnpgdeecnfpaaGreatFacts
import Derived.Test.YtmnnpgdeecnfpaaGreatZPdh1
import Derived.Laws.BytesArg
import Derived.Laws.StructEq
import Derived.Laws.Tables
namespace Go.Proofs.YtmnnpgdeecnfpaaGreat
open Go Go.RowKit
section
variable {P : Program} {w : World} {K : Value → World → Prop} {ty : TypeId}
theorem guard_undef {b : Bool} {A B : Prop} (h : B) : GuardV undef b A B := by unfold GuardV; exact h
theorem r_pickT {v u : Value} (hk : K v w) : Run P (sOp (.pick (.const (.bool true)) (.const v) (.const u)) ty) w K := r_pick hk
theorem r_pickF {v u : Value} (hk : K u w) : Run P (sOp (.pick (.const (.bool false)) (.const v) (.const u)) ty) w K := r_pick hk
end
attribute [local irreducible] Run CondV GuardV LoadV

def cmps : List ByteArray := [⟨#[61]⟩, ⟨#[92, 61]⟩, ⟨#[61, 61]⟩, ⟨#[60]⟩, ⟨#[62]⟩, ⟨#[61, 60]⟩, ⟨#[62, 61]⟩, ⟨#[61, 58, 61]⟩, ⟨#[105, 115]⟩]
def consts : List ByteArray := [⟨#[116, 114, 117, 101]⟩, ⟨#[102, 97, 105, 108]⟩]
def tests : List ByteArray := [⟨#[118, 97, 114]⟩, ⟨#[110, 111, 110, 118, 97, 114]⟩, ⟨#[97, 116, 111, 109]⟩, ⟨#[105, 110, 116]⟩]
def sums : List ByteArray := [⟨#[43]⟩, ⟨#[45]⟩]
def prods : List ByteArray := [⟨#[42]⟩, ⟨#[47, 47]⟩, ⟨#[109, 111, 100]⟩]
def isIn (s : ByteArray) (l : List ByteArray) : Bool := l.any fun x => decide (s = x)
def builtB (s : ByteArray) (n : Int) : Bool :=
  if isIn s cmps = true then decide (n = 2)
  else if isIn s consts = true then decide (n = 0)
  else if isIn s tests = true then decide (n = 1)
  else if s = ⟨#[97, 114, 103]⟩ then decide (n = 3)
  else false
def levelN (s : ByteArray) : Int := if isIn s cmps = true then 3 else if isIn s sums = true then 2 else if isIn s prods = true then 1 else 0
def cutB (t : T) : Bool := decide (t.kind = 3) && (decide (t.name = ⟨#[33]⟩) && decide (t.kids.length = 0))
def atomB (t : T) : Bool := decide (t.kind = 3) && decide (t.kids.length = 0)
def builtT (t : T) : Bool := decide (t.kind = 3) && builtB t.name t.kids.length
def plainB (t : T) : Bool := decide (t.kind = 3) && (wordB t.name && (!builtB t.name t.kids.length && decide (levelN t.name = 0)))
def goalB (t : T) : Bool := validB t && (cutB t || (plainB t || builtT t))
def clauseB (c : C) : Bool := decide (c.body.length ≤ 6) && (c.body.all goalB && (validB c.head && plainB c.head))
def queryB (l : List T) : Bool := decide (l.length ≤ 6) && l.all goalB
def progB (p : List C) : Bool := decide (p.length ≤ 20) && p.all clauseB
theorem level_pos (s : ByteArray) : (!decide (0 < levelN s)) = decide (levelN s = 0) := by
  unfold levelN
  split
  · rfl
  · split
    · rfl
    · split <;> rfl

theorem sIsBuiltin_calls (s : ByteArray) (n : Int) (S : Store) : Pure Tryz.prog n_s_IsBuiltin [.string s, .int .i64 n] S (.bool (builtB s n)) := by
  intro w hI
  refine calls_s_IsBuiltin ?_
  unfold sh_s_IsBuiltin
  obtain ⟨q, hq⟩ : ∃ q, isIn s cmps = q := ⟨_, rfl⟩
  have hq1 := hq
  refine ⟨fun t w' => t = .bool q ∧ Inv w [] [] S w', ?_, ?_⟩
  · unfold isIn cmps at hq
    iterate 8
      refine r_seql ?_
      refine condV (fun h => ⟨by rw [List.any_cons, h] at hq; rw [h, ← hq]; rfl, hI⟩) (fun h => ?_)
      rw [List.any_cons, h, Bool.false_or] at hq
    refine r_seql ⟨?_, hI⟩
    rw [← hq]; simp
  intro t _ _ _ _ _ _ _ _ _ w'
  rintro ⟨rfl, hI⟩
  refine condV (fun h => ?_) (fun h => ?_)
  · exact r_eql (done hI (by rw [builtB, if_pos (hq1.trans h)]))
  have e1 : builtB s n = if isIn s consts = true then decide (n = 0) else if isIn s tests = true then decide (n = 1) else if s = ⟨#[97, 114, 103]⟩ then decide (n = 3) else false := by
    rw [builtB, if_neg (by rw [hq1, h]; decide)]
  clear hq hq1 h
  obtain ⟨q, hq⟩ : ∃ q, isIn s consts = q := ⟨_, rfl⟩
  have hq1 := hq
  refine ⟨fun t w' => t = .bool q ∧ Inv w [] [] S w', ?_, ?_⟩
  · unfold isIn consts at hq
    refine r_seql ?_
    refine condV (fun h => ⟨by rw [List.any_cons, h] at hq; rw [h, ← hq]; rfl, hI⟩) (fun h => ?_)
    rw [List.any_cons, h, Bool.false_or] at hq
    refine r_seql ⟨?_, hI⟩
    rw [← hq]; simp
  intro _ t _ w'
  rintro ⟨rfl, hI⟩
  refine condV (fun h => ?_) (fun h => ?_)
  · exact r_eql (done hI (by rw [e1, if_pos (hq1.trans h)]))
  rw [if_neg (by rw [hq1, h]; decide)] at e1
  clear hq hq1 h
  obtain ⟨q, hq⟩ : ∃ q, isIn s tests = q := ⟨_, rfl⟩
  have hq1 := hq
  refine ⟨fun t w' => t = .bool q ∧ Inv w [] [] S w', ?_, ?_⟩
  · unfold isIn tests at hq
    iterate 3
      refine r_seql ?_
      refine condV (fun h => ⟨by rw [List.any_cons, h] at hq; rw [h, ← hq]; rfl, hI⟩) (fun h => ?_)
      rw [List.any_cons, h, Bool.false_or] at hq
    refine r_seql ⟨?_, hI⟩
    rw [← hq]; simp
  intro _ _ _ t _ w'
  rintro ⟨rfl, hI⟩
  refine condV (fun h => ?_) (fun h => ?_)
  · exact r_eql (done hI (by rw [e1, if_pos (hq1.trans h)]))
  rw [if_neg (by rw [hq1, h]; decide)] at e1
  refine r_seql ?_
  refine condP (fun h => ?_) (fun h => ?_)
  · exact r_eql (done hI (by rw [e1, if_pos h]))
  · exact done hI (by rw [e1, if_neg h])
theorem iIsBuiltin_calls (s : ByteArray) (n : Int) (S : Store) : Pure Tryz.prog n_i_IsBuiltin [.string s, .int .i64 n] S (.bool (builtB s n)) := by
  intro w hI
  refine calls_i_IsBuiltin ?_
  unfold sh_i_IsBuiltin
  obtain ⟨q, hq⟩ : ∃ q, isIn s cmps = q := ⟨_, rfl⟩
  have hq1 := hq
  refine ⟨fun t w' => t = .bool q ∧ Inv w [] [] S w', ?_, ?_⟩
  · unfold isIn cmps at hq
    iterate 8
      refine r_seql ?_
      refine condV (fun h => ⟨by rw [List.any_cons, h] at hq; rw [h, ← hq]; rfl, hI⟩) (fun h => ?_)
      rw [List.any_cons, h, Bool.false_or] at hq
    refine r_seql ⟨?_, hI⟩
    rw [← hq]; simp
  intro t _ _ _ _ _ _ _ _ _ w'
  rintro ⟨rfl, hI⟩
  refine condV (fun h => ?_) (fun h => ?_)
  · exact r_eql (done hI (by rw [builtB, if_pos (hq1.trans h)]))
  have e1 : builtB s n = if isIn s consts = true then decide (n = 0) else if isIn s tests = true then decide (n = 1) else if s = ⟨#[97, 114, 103]⟩ then decide (n = 3) else false := by
    rw [builtB, if_neg (by rw [hq1, h]; decide)]
  clear hq hq1 h
  obtain ⟨q, hq⟩ : ∃ q, isIn s consts = q := ⟨_, rfl⟩
  have hq1 := hq
  refine ⟨fun t w' => t = .bool q ∧ Inv w [] [] S w', ?_, ?_⟩
  · unfold isIn consts at hq
    refine r_seql ?_
    refine condV (fun h => ⟨by rw [List.any_cons, h] at hq; rw [h, ← hq]; rfl, hI⟩) (fun h => ?_)
    rw [List.any_cons, h, Bool.false_or] at hq
    refine r_seql ⟨?_, hI⟩
    rw [← hq]; simp
  intro _ t _ w'
  rintro ⟨rfl, hI⟩
  refine condV (fun h => ?_) (fun h => ?_)
  · exact r_eql (done hI (by rw [e1, if_pos (hq1.trans h)]))
  rw [if_neg (by rw [hq1, h]; decide)] at e1
  clear hq hq1 h
  obtain ⟨q, hq⟩ : ∃ q, isIn s tests = q := ⟨_, rfl⟩
  have hq1 := hq
  refine ⟨fun t w' => t = .bool q ∧ Inv w [] [] S w', ?_, ?_⟩
  · unfold isIn tests at hq
    iterate 3
      refine r_seql ?_
      refine condV (fun h => ⟨by rw [List.any_cons, h] at hq; rw [h, ← hq]; rfl, hI⟩) (fun h => ?_)
      rw [List.any_cons, h, Bool.false_or] at hq
    refine r_seql ⟨?_, hI⟩
    rw [← hq]; simp
  intro _ _ _ t _ w'
  rintro ⟨rfl, hI⟩
  refine condV (fun h => ?_) (fun h => ?_)
  · exact r_eql (done hI (by rw [e1, if_pos (hq1.trans h)]))
  rw [if_neg (by rw [hq1, h]; decide)] at e1
  refine r_seql ?_
  refine condP (fun h => ?_) (fun h => ?_)
  · exact r_eql (done hI (by rw [e1, if_pos h]))
  · exact done hI (by rw [e1, if_neg h])

theorem s_l2Level_calls (s : ByteArray) (S : Store) : Pure Tryz.prog n_s_l2Level [.string s] S (.int .i64 (levelN s)) := by
  intro w hI
  refine calls_s_l2Level ?_
  unfold sh_s_l2Level
  obtain ⟨q, hq⟩ : ∃ q, isIn s cmps = q := ⟨_, rfl⟩
  have hq1 := hq
  refine ⟨fun t w' => t = .bool q ∧ Inv w [] [] S w', ?_, ?_⟩
  · unfold isIn cmps at hq
    iterate 8
      refine r_seql ?_
      refine condV (fun h => ⟨by rw [List.any_cons, h] at hq; rw [h, ← hq]; rfl, hI⟩) (fun h => ?_)
      rw [List.any_cons, h, Bool.false_or] at hq
    refine r_seql ⟨?_, hI⟩
    rw [← hq]; simp
  intro _ _ _ _ _ _ _ _ t _ w'
  rintro ⟨rfl, hI⟩
  refine condV (fun h => ?_) (fun h => ?_)
  · exact done hI (by rw [show levelN s = 3 from if_pos (hq1.trans h)] <;> rfl)
  have e1 : levelN s = if isIn s sums = true then 2 else if isIn s prods = true then 1 else 0 := by
    rw [levelN, if_neg (by rw [hq1, h]; decide)]
  clear hq hq1 h
  obtain ⟨q, hq⟩ : ∃ q, isIn s sums = q := ⟨_, rfl⟩
  have hq1 := hq
  refine ⟨fun t w' => t = .bool q ∧ Inv w [] [] S w', ?_, ?_⟩
  · unfold isIn sums at hq
    refine r_seql ?_
    refine condV (fun h => ⟨by rw [List.any_cons, h] at hq; rw [h, ← hq]; rfl, hI⟩) (fun h => ?_)
    rw [List.any_cons, h, Bool.false_or] at hq
    refine r_seql ⟨?_, hI⟩
    rw [← hq]; simp
  intro _ t _ w'
  rintro ⟨rfl, hI⟩
  refine condV (fun h => ?_) (fun h => ?_)
  · exact done hI (by rw [show levelN s = 2 from e1.trans (if_pos (hq1.trans h))] <;> rfl)
  rw [if_neg (by rw [hq1, h]; decide)] at e1
  clear hq hq1 h
  obtain ⟨q, hq⟩ : ∃ q, isIn s prods = q := ⟨_, rfl⟩
  have hq1 := hq
  refine ⟨fun t w' => t = .bool q ∧ Inv w [] [] S w', ?_, ?_⟩
  · unfold isIn prods at hq
    iterate 2
      refine r_seql ?_
      refine condV (fun h => ⟨by rw [List.any_cons, h] at hq; rw [h, ← hq]; rfl, hI⟩) (fun h => ?_)
      rw [List.any_cons, h, Bool.false_or] at hq
    refine r_seql ⟨?_, hI⟩
    rw [← hq]; simp
  intro _ _ t _ w'
  rintro ⟨rfl, hI⟩
  refine condV (fun h => ?_) (fun h => ?_)
  · exact done hI (by rw [show levelN s = 1 from e1.trans (if_pos (hq1.trans h))] <;> rfl)
  · exact done hI (by rw [show levelN s = 0 from e1.trans (if_neg (by rw [hq1, h]; decide))] <;> rfl)
theorem i_OpLevel_calls (s : ByteArray) (S : Store) : Pure Tryz.prog n_i_OpLevel [.string s] S (.tuple #[.int .i64 (levelN s), .bool (decide (levelN s = 1) || decide (levelN s = 2))]) := by
  intro w hI
  refine calls_i_OpLevel ?_
  unfold sh_i_OpLevel
  obtain ⟨q, hq⟩ : ∃ q, isIn s cmps = q := ⟨_, rfl⟩
  have hq1 := hq
  refine ⟨fun t w' => t = .bool q ∧ Inv w [] [] S w', ?_, ?_⟩
  · unfold isIn cmps at hq
    iterate 8
      refine r_seql ?_
      refine condV (fun h => ⟨by rw [List.any_cons, h] at hq; rw [h, ← hq]; rfl, hI⟩) (fun h => ?_)
      rw [List.any_cons, h, Bool.false_or] at hq
    refine r_seql ⟨?_, hI⟩
    rw [← hq]; simp
  intro _ _ _ _ _ _ _ _ t _ w'
  rintro ⟨rfl, hI⟩
  refine condV (fun h => ?_) (fun h => ?_)
  · exact done hI (by rw [show levelN s = 3 from if_pos (hq1.trans h)] <;> rfl)
  have e1 : levelN s = if isIn s sums = true then 2 else if isIn s prods = true then 1 else 0 := by
    rw [levelN, if_neg (by rw [hq1, h]; decide)]
  clear hq hq1 h
  obtain ⟨q, hq⟩ : ∃ q, isIn s sums = q := ⟨_, rfl⟩
  have hq1 := hq
  refine ⟨fun t w' => t = .bool q ∧ Inv w [] [] S w', ?_, ?_⟩
  · unfold isIn sums at hq
    refine r_seql ?_
    refine condV (fun h => ⟨by rw [List.any_cons, h] at hq; rw [h, ← hq]; rfl, hI⟩) (fun h => ?_)
    rw [List.any_cons, h, Bool.false_or] at hq
    refine r_seql ⟨?_, hI⟩
    rw [← hq]; simp
  intro _ t _ w'
  rintro ⟨rfl, hI⟩
  refine condV (fun h => ?_) (fun h => ?_)
  · exact done hI (by rw [show levelN s = 2 from e1.trans (if_pos (hq1.trans h))] <;> rfl)
  rw [if_neg (by rw [hq1, h]; decide)] at e1
  clear hq hq1 h
  obtain ⟨q, hq⟩ : ∃ q, isIn s prods = q := ⟨_, rfl⟩
  have hq1 := hq
  refine ⟨fun t w' => t = .bool q ∧ Inv w [] [] S w', ?_, ?_⟩
  · unfold isIn prods at hq
    iterate 2
      refine r_seql ?_
      refine condV (fun h => ⟨by rw [List.any_cons, h] at hq; rw [h, ← hq]; rfl, hI⟩) (fun h => ?_)
      rw [List.any_cons, h, Bool.false_or] at hq
    refine r_seql ⟨?_, hI⟩
    rw [← hq]; simp
  intro _ _ t _ w'
  rintro ⟨rfl, hI⟩
  refine condV (fun h => ?_) (fun h => ?_)
  · exact done hI (by rw [show levelN s = 1 from e1.trans (if_pos (hq1.trans h))] <;> rfl)
  · exact done hI (by rw [show levelN s = 0 from e1.trans (if_neg (by rw [hq1, h]; decide))] <;> rfl)

theorem l4Cut_calls {t : T} {S : Store} {cs : List Value} (h : RdT S cs t) : Pure Tryz.prog n_s_l4Cut [.agg cs.toArray] S (.bool (cutB t)) := by
  intro w hI
  obtain ⟨kv, rfl, _, _, hs, hks⟩ := RdT.iff.1 h
  obtain ⟨k, n, s, ks⟩ := t
  simp only [T.name, T.kids, T.kind, T.n] at hs hks ⊢
  refine calls_s_l4Cut ?_
  unfold sh_s_l4Cut
  refine r_box hI fun b1 w' hI => ?_
  refine r_fieldL hI 0 rfl fo_iTerm_0 sc_int rfl ?_
  refine r_eql ?_
  rw [show cutB (.mk k n s ks) = (decide (k = 3) && (decide (s = ⟨#[33]⟩) && decide (ks.length = 0))) from rfl]
  cases h1 : decide (k = 3)
  · repeat (first | refine guard_true ?_ | refine guard_ne (by decide) ?_ | refine guard_undef ?_ | refine r_pickT ?_ | refine r_pickF ?_)
    exact done hI rfl
  · repeat (first | refine guard_true ?_ | refine guard_ne (by decide) ?_ | refine guard_undef ?_ | refine r_pickT ?_ | refine r_pickF ?_)
    refine r_fieldL hI 0 rfl fo_iTerm_2 sc_string rfl ?_
    refine r_seql ?_
    cases h2 : decide (s = ⟨#[33]⟩)
    · repeat (first | refine guard_true ?_ | refine guard_ne (by decide) ?_ | refine guard_undef ?_ | refine r_pickT ?_ | refine r_pickF ?_)
      exact done hI rfl
    · repeat (first | refine guard_true ?_ | refine guard_ne (by decide) ?_ | refine guard_undef ?_ | refine r_pickT ?_ | refine r_pickF ?_)
      refine r_fieldL hI 0 rfl fo_iTerm_3 sc_SiTerm rfl ?_
      refine r_lenSl hks sl_SiTerm ?_
      refine r_eql ?_
      repeat (first | refine guard_true ?_ | refine guard_ne (by decide) ?_ | refine guard_undef ?_ | refine r_pickT ?_ | refine r_pickF ?_)
      exact done hI (by simp)

theorem l4Plain_calls {t : T} {S : Store} {cs : List Value} (h : RdT S cs t) : Pure Tryz.prog n_s_l4Plain [.agg cs.toArray] S (.bool (plainB t)) := by
  intro w hI
  obtain ⟨kv, rfl, _, _, hs, hks⟩ := RdT.iff.1 h
  obtain ⟨k, n, s, ks⟩ := t
  simp only [T.name, T.kids, T.kind, T.n] at hs hks ⊢
  refine calls_s_l4Plain ?_
  unfold sh_s_l4Plain
  refine r_box hI fun b1 w' hI => ?_
  refine r_fieldL hI 0 rfl fo_iTerm_0 sc_int rfl ?_
  refine r_eql ?_
  rw [show plainB (.mk k n s ks) = (decide (k = 3) && (wordB s && (!builtB s ks.length && decide (levelN s = 0)))) from rfl]
  cases h1 : decide (k = 3)
  · repeat (first | refine guard_true ?_ | refine guard_ne (by decide) ?_ | refine guard_undef ?_ | refine r_pickT ?_ | refine r_pickF ?_)
    exact done hI rfl
  · repeat (first | refine guard_true ?_ | refine guard_ne (by decide) ?_ | refine guard_undef ?_ | refine r_pickT ?_ | refine r_pickF ?_)
    refine r_fieldL hI 0 rfl fo_iTerm_2 sc_string rfl ?_
    refine Run.callPure fn_s_l1Word nm_s_l1Word hI (l1Word_calls s hs S) fun w' hI => ?_
    cases h2 : wordB s
    · repeat (first | refine guard_true ?_ | refine guard_ne (by decide) ?_ | refine guard_undef ?_ | refine r_pickT ?_ | refine r_pickF ?_)
      exact done hI rfl
    · repeat (first | refine guard_true ?_ | refine guard_ne (by decide) ?_ | refine guard_undef ?_ | refine r_pickT ?_ | refine r_pickF ?_)
      refine r_fieldL hI 0 rfl fo_iTerm_2 sc_string rfl ?_
      refine r_fieldL hI 0 rfl fo_iTerm_3 sc_SiTerm rfl ?_
      refine r_lenSl hks sl_SiTerm ?_
      refine Run.callPure fn_s_IsBuiltin nm_s_IsBuiltin hI (sIsBuiltin_calls s _ S) fun w' hI => ?_
      refine r_not ?_
      cases h3 : builtB s ks.length
      · repeat (first | refine guard_true ?_ | refine guard_ne (by decide) ?_ | refine guard_undef ?_ | refine r_pickT ?_ | refine r_pickF ?_)
        refine r_fieldL hI 0 rfl fo_iTerm_2 sc_string rfl ?_
        refine Run.callPure fn_s_l2Level nm_s_l2Level hI (s_l2Level_calls s S) fun w' hI => ?_
        refine r_eql ?_
        repeat (first | refine guard_true ?_ | refine guard_ne (by decide) ?_ | refine guard_undef ?_ | refine r_pickT ?_ | refine r_pickF ?_)
        exact done hI rfl
      · repeat (first | refine guard_true ?_ | refine guard_ne (by decide) ?_ | refine guard_undef ?_ | refine r_pickT ?_ | refine r_pickF ?_)
        exact done hI rfl

theorem l4Goal_calls {t : T} {S : Store} {cs : List Value} (h : RdT S cs t) : Pure Tryz.prog n_s_l4Goal [.agg cs.toArray] S (.bool (cutB t || (plainB t || builtT t))) := by
  intro w hI
  have h0 := h
  obtain ⟨kv, rfl, _, _, hs, hks⟩ := RdT.iff.1 h
  obtain ⟨k, n, s, ks⟩ := t
  simp only [T.name, T.kids, T.kind, T.n] at h0 hs hks ⊢
  refine calls_s_l4Goal ?_
  unfold sh_s_l4Goal
  refine r_box hI fun b1 w' hI => ?_
  refine r_loadW hI 0 ag_iTerm rfl rfl ?_
  refine Run.callPure fn_s_l4Cut nm_s_l4Cut hI (l4Cut_calls h0) fun w' hI => ?_
  cases h1 : cutB (.mk k n s ks)
  · repeat (first | refine guard_true ?_ | refine guard_ne (by decide) ?_ | refine guard_undef ?_ | refine r_pickT ?_ | refine r_pickF ?_)
    refine r_loadW hI 0 ag_iTerm rfl rfl ?_
    refine Run.callPure fn_s_l4Plain nm_s_l4Plain hI (l4Plain_calls h0) fun w' hI => ?_
    cases h2 : plainB (.mk k n s ks)
    · repeat (first | refine guard_true ?_ | refine guard_ne (by decide) ?_ | refine guard_undef ?_ | refine r_pickT ?_ | refine r_pickF ?_)
      refine r_fieldL hI 0 rfl fo_iTerm_0 sc_int rfl ?_
      refine r_eql ?_
      rw [show builtT (.mk k n s ks) = (decide (k = 3) && builtB s ks.length) from rfl]
      cases h3 : decide (k = 3)
      · repeat (first | refine guard_true ?_ | refine guard_ne (by decide) ?_ | refine guard_undef ?_ | refine r_pickT ?_ | refine r_pickF ?_)
        exact done hI rfl
      · repeat (first | refine guard_true ?_ | refine guard_ne (by decide) ?_ | refine guard_undef ?_ | refine r_pickT ?_ | refine r_pickF ?_)
        refine r_fieldL hI 0 rfl fo_iTerm_2 sc_string rfl ?_
        refine r_fieldL hI 0 rfl fo_iTerm_3 sc_SiTerm rfl ?_
        refine r_lenSl hks sl_SiTerm ?_
        refine Run.callPure fn_s_IsBuiltin nm_s_IsBuiltin hI (sIsBuiltin_calls s _ S) fun w' hI => ?_
        repeat (first | refine guard_true ?_ | refine guard_ne (by decide) ?_ | refine guard_undef ?_ | refine r_pickT ?_ | refine r_pickF ?_)
        exact done hI rfl
    · repeat (first | refine guard_true ?_ | refine guard_ne (by decide) ?_ | refine guard_undef ?_ | refine r_pickT ?_ | refine r_pickF ?_)
      exact done hI rfl
  · repeat (first | refine guard_true ?_ | refine guard_ne (by decide) ?_ | refine guard_undef ?_ | refine r_pickT ?_ | refine r_pickF ?_)
    exact done hI rfl

theorem cnt_max {t : T} (h : wT t ≤ 1048576) : cntT t ≤ 4611686018427387904 := by
  have := cnt_wT t
  omega
theorem sGoalValid_calls {t : T} {S : Store} {cs : List Value} (h : RdT S cs t) (hc : wT t ≤ 1048576) : Pure Tryz.prog n_s_GoalValid [.agg cs.toArray] S (.bool (goalB t)) := by
  intro w hI
  have hl := h.length
  refine calls_s_GoalValid ?_
  unfold sh_s_GoalValid
  refine r_box hI fun b1 w' hI => ?_
  refine r_loadW hI 0 ag_iTerm rfl (by simpa [Value.cells] using hl) ?_
  refine Run.callPure fn_s_TermValid nm_s_TermValid hI (sTermValid_calls h (cnt_max hc)) fun w' hI => ?_
  rw [goalB]
  cases h1 : validB t
  · repeat (first | refine guard_true ?_ | refine guard_ne (by decide) ?_ | refine guard_undef ?_ | refine r_pickT ?_ | refine r_pickF ?_)
    exact done hI rfl
  · repeat (first | refine guard_true ?_ | refine guard_ne (by decide) ?_ | refine guard_undef ?_ | refine r_pickT ?_ | refine r_pickF ?_)
    refine r_loadW hI 0 ag_iTerm rfl (by simpa [Value.cells] using hl) ?_
    refine Run.callPure fn_s_l4Goal nm_s_l4Goal hI (l4Goal_calls h) fun w' hI => ?_
    repeat (first | refine guard_true ?_ | refine guard_ne (by decide) ?_ | refine guard_undef ?_ | refine r_pickT ?_ | refine r_pickF ?_)
    exact done hI rfl


theorem wL_mem' {ts : List T} {t : T} (h : t ∈ ts) : wT t ≤ wL ts := by
  induction ts with
  | nil => simp at h
  | cons u us ih =>
    rw [wL]
    rcases List.mem_cons.1 h with rfl | h
    · omega
    · have := ih h; omega
/- the loop of a list of goals, whatever comes behind it -/
theorem sClauseValid_calls {c : C} {S : Store} {cs : List Value} (h : RdC S cs c) (hc : wC c ≤ 1048576) : Pure Tryz.prog n_s_ClauseValid [.agg cs.toArray] S (.bool (clauseB c)) := by
  intro w hI
  obtain ⟨hd, ks, rfl, h1, h2⟩ := h
  have h1' := h1
  obtain ⟨kv, rfl, g1, g2, g3, g4⟩ := RdT.iff.1 h1
  have hlen := h2.le
  simp only [maxLen] at hlen
  unfold wC at hc
  refine calls_s_ClauseValid ?_
  unfold sh_s_ClauseValid
  refine r_box hI fun b1 w' hI => ?_
  refine ⟨fun i w' => ∃ k : Nat, k ≤ c.body.length ∧ k ≤ 7 ∧ i = .int .i64 k ∧ (∀ j (h : j < c.body.length), j < k → goalB c.body[j] = true) ∧ Inv w [] [.blk b1 (.cells #[.int .i64 c.head.kind, .int .i64 c.head.n, .string c.head.name, kv, ks] t_iClause)] S w',
    fun i _ => c.body.length - (intOf i).toNat, ⟨0, Nat.zero_le _, by omega, rfl, fun j _ h => by omega, hI⟩, ?_⟩
  intro t3 _ _ _ _ _ _ _ _ _ _ _ _ _ _ _ _ _ _ _ w'
  rintro ⟨k, hk, hk7, rfl, hrel, hI⟩
  refine ⟨fun t w' => t = .bool (decide (k < c.body.length ∧ k ≤ 6)) ∧ Inv w [] [.blk b1 (.cells #[.int .i64 c.head.kind, .int .i64 c.head.n, .string c.head.name, kv, ks] t_iClause)] S w', ?_, ?_⟩
  · refine r_fieldL hI 0 rfl fo_iClause_1 sc_SiTerm rfl ?_
    refine r_lenSl h2 sl_SiTerm ?_
    refine r_lss ?_
    by_cases hki : (k : Int) < c.body.length
    · rw [decide_eq_true hki]
      repeat (first | refine guard_true ?_ | refine guard_ne (by decide) ?_ | refine guard_undef ?_ | refine r_pickT ?_ | refine r_pickF ?_)
      refine r_leq ?_
      repeat (first | refine guard_true ?_ | refine guard_ne (by decide) ?_ | refine guard_undef ?_ | refine r_pickT ?_ | refine r_pickF ?_)
      refine ⟨?_, hI⟩
      congr 1
      rw [Bool.eq_iff_iff]; simp; omega
    · rw [decide_eq_false hki]
      repeat (first | refine guard_true ?_ | refine guard_ne (by decide) ?_ | refine guard_undef ?_ | refine r_pickT ?_ | refine r_pickF ?_)
      exact ⟨by rw [decide_eq_false (by omega)], hI⟩
  intro t _ _ _ _ _ _ _ _ w'
  rintro ⟨rfl, hI⟩
  refine condP (fun hki => ?_) (fun hki => ?_)
  · obtain ⟨hk', hk6⟩ := hki
    refine r_fieldL hI 0 rfl fo_iClause_1 sc_SiTerm rfl ?_
    refine r_elem hI h2 sl_SiTerm ag_iTerm hk' (fun _ _ => RdT.length) fun cs' hcs' => ?_
    have hwm := wL_mem' (List.getElem_mem hk')
    refine Run.callPure fn_s_GoalValid nm_s_GoalValid hI (sGoalValid_calls hcs' (by omega)) fun w' hI => ?_
    refine r_not ?_
    refine condV (fun hb => done hI ?_) (fun hb => ?_)
    · have hb' : goalB c.body[k] = false := by simpa using hb
      have : c.body.all goalB = false := by
        rw [← Bool.not_eq_true, List.all_eq_true]
        intro hall
        rw [hall _ (List.getElem_mem hk')] at hb'
        cases hb'
      rw [clauseB, this]
      simp
    · have hb' : goalB c.body[k] = true := by simpa using hb
      refine r_add (by omega) ?_
      refine ⟨⟨k + 1, hk', by omega, rfl, fun j hj hjk => ?_, hI⟩, by simp [intOf]; omega⟩
      by_cases e : j = k
      · subst e; exact hb'
      · exact hrel j hj (by omega)
  · refine r_fieldL hI 0 rfl fo_iClause_1 sc_SiTerm rfl ?_
    refine r_lenSl h2 sl_SiTerm ?_
    refine r_leq ?_
    rw [clauseB]
    by_cases hle : c.body.length ≤ 6
    · have hall : c.body.all goalB = true := by
        rw [List.all_eq_true]
        intro x hx
        obtain ⟨j, hj, rfl⟩ := List.getElem_of_mem hx
        exact hrel j hj (by omega)
      rw [decide_eq_true (show (c.body.length : Int) ≤ 6 by omega), decide_eq_true hle, hall]
      repeat (first | refine guard_true ?_ | refine guard_ne (by decide) ?_ | refine guard_undef ?_ | refine r_pickT ?_ | refine r_pickF ?_)
      refine r_field fo_iClause_0 ?_
      refine r_loadLA hI 0 [.int .i64 c.head.kind, .int .i64 c.head.n, .string c.head.name, kv] ag_iTerm rfl rfl ?_ ?_
      · intro j v hj
        match j with
        | 0 | 1 | 2 | 3 => exact hj
        | j + 4 => simp at hj
      refine Run.callPure fn_s_TermValid nm_s_TermValid hI (sTermValid_calls h1' (cnt_max (by omega))) fun w' hI => ?_
      cases hv : validB c.head
      · repeat (first | refine guard_true ?_ | refine guard_ne (by decide) ?_ | refine guard_undef ?_ | refine r_pickT ?_ | refine r_pickF ?_)
        exact done hI rfl
      · repeat (first | refine guard_true ?_ | refine guard_ne (by decide) ?_ | refine guard_undef ?_ | refine r_pickT ?_ | refine r_pickF ?_)
        refine r_field fo_iClause_0 ?_
        refine r_loadLA hI 0 [.int .i64 c.head.kind, .int .i64 c.head.n, .string c.head.name, kv] ag_iTerm rfl rfl ?_ ?_
        · intro j v hj
          match j with
          | 0 | 1 | 2 | 3 => exact hj
          | j + 4 => simp at hj
        refine Run.callPure fn_s_l4Plain nm_s_l4Plain hI (l4Plain_calls h1') fun w' hI => ?_
        repeat (first | refine guard_true ?_ | refine guard_ne (by decide) ?_ | refine guard_undef ?_ | refine r_pickT ?_ | refine r_pickF ?_)
        exact done hI rfl
    · rw [decide_eq_false (show ¬ (c.body.length : Int) ≤ 6 by omega), decide_eq_false hle]
      repeat (first | refine guard_true ?_ | refine guard_ne (by decide) ?_ | refine guard_undef ?_ | refine r_pickT ?_ | refine r_pickF ?_)
      exact done hI rfl

theorem s_ProgramValid_calls {xs : List C} {S : Store} {v : Value} (h : RdSl S 5 (RdC S) v xs) (hc : wP xs ≤ 1048576) : Pure Tryz.prog n_s_ProgramValid [v] S (.bool (progB xs)) := by
  intro w hI
  have hlen := h.le
  simp only [maxLen] at hlen
  refine calls_s_ProgramValid ?_
  unfold sh_s_ProgramValid
  refine ⟨fun i w' => ∃ k : Nat, k ≤ xs.length ∧ k ≤ 20 + 1 ∧ i = .int .i64 k ∧ (∀ j (h : j < xs.length), j < k → clauseB xs[j] = true) ∧ Inv w [] [] S w',
    fun i _ => xs.length - (intOf i).toNat, ⟨0, Nat.zero_le _, by omega, rfl, fun j _ h => by omega, hI⟩, ?_⟩
  intro t3 _ _ _ _ _ _ _ _ _ _ _ _ _ _ _ _ _ w'
  rintro ⟨k, hk, hk7, rfl, hrel, hI⟩
  refine ⟨fun t w' => t = .bool (decide (k < xs.length ∧ k ≤ 20)) ∧ Inv w [] [] S w', ?_, ?_⟩
  · refine r_lenSl h sl_SiClause ?_
    refine r_lss ?_
    by_cases hki : (k : Int) < xs.length
    · rw [decide_eq_true hki]
      repeat (first | refine guard_true ?_ | refine guard_ne (by decide) ?_ | refine guard_undef ?_ | refine r_pickT ?_ | refine r_pickF ?_)
      refine r_leq ?_
      repeat (first | refine guard_true ?_ | refine guard_ne (by decide) ?_ | refine guard_undef ?_ | refine r_pickT ?_ | refine r_pickF ?_)
      refine ⟨?_, hI⟩
      congr 1
      rw [Bool.eq_iff_iff]; simp; omega
    · rw [decide_eq_false hki]
      repeat (first | refine guard_true ?_ | refine guard_ne (by decide) ?_ | refine guard_undef ?_ | refine r_pickT ?_ | refine r_pickF ?_)
      exact ⟨by rw [decide_eq_false (by omega)], hI⟩
  intro t _ _ _ _ _ _ _ w'
  rintro ⟨rfl, hI⟩
  refine condP (fun hki => ?_) (fun hki => ?_)
  · obtain ⟨hk', hk6⟩ := hki
    refine r_elem hI h sl_SiClause ag_iClause hk' (fun _ _ => RdC.length) fun cs' hcs' => ?_
    have hwm := wP_mem (List.getElem_mem hk')
    refine Run.callPure fn_s_ClauseValid nm_s_ClauseValid hI (sClauseValid_calls hcs' (by omega)) fun w' hI => ?_
    refine r_not ?_
    refine condV (fun hb => done hI ?_) (fun hb => ?_)
    · have hb' : clauseB xs[k] = false := by simpa using hb
      have : xs.all clauseB = false := by
        rw [← Bool.not_eq_true, List.all_eq_true]
        intro hall
        rw [hall _ (List.getElem_mem hk')] at hb'
        cases hb'
      rw [progB, this, Bool.and_false]
    · have hb' : clauseB xs[k] = true := by simpa using hb
      refine r_add (by omega) ?_
      refine ⟨⟨k + 1, hk', by omega, rfl, fun j hj hjk => ?_, hI⟩, by simp [intOf]; omega⟩
      by_cases e : j = k
      · subst e; exact hb'
      · exact hrel j hj (by omega)
  · refine r_lenSl h sl_SiClause ?_
    refine r_leq ?_
    rw [progB]
    refine done hI ?_
    by_cases hle : xs.length ≤ 20
    · have hall : xs.all clauseB = true := by
        rw [List.all_eq_true]
        intro x hx
        obtain ⟨j, hj, rfl⟩ := List.getElem_of_mem hx
        exact hrel j hj (by omega)
      rw [decide_eq_true (show (xs.length : Int) ≤ 20 by omega), decide_eq_true hle, hall]; rfl
    · rw [decide_eq_false (show ¬ (xs.length : Int) ≤ 20 by omega), decide_eq_false hle]; rfl

/- the program's side -/
theorem isOp_calls (s : ByteArray) (S : Store) : Pure Tryz.prog n_i_isOp [.string s] S (.bool (decide (0 < levelN s))) := by
  intro w hI
  refine calls_i_isOp ?_
  unfold sh_i_isOp
  refine Run.callPure fn_i_OpLevel nm_i_OpLevel hI (i_OpLevel_calls s S) fun w' hI => ?_
  refine r_extract rfl ?_
  refine r_extract rfl ?_
  refine r_gtr ?_
  exact done hI rfl
theorem isBuilt_calls {t : T} {S : Store} {cs : List Value} (h : RdT S cs t) : Pure Tryz.prog n_i_isBuilt [.agg cs.toArray] S (.bool (builtT t)) := by
  intro w hI
  obtain ⟨kv, rfl, _, _, hs, hks⟩ := RdT.iff.1 h
  obtain ⟨k, n, s, ks⟩ := t
  simp only [T.name, T.kids, T.kind, T.n] at hs hks ⊢
  refine calls_i_isBuilt ?_
  unfold sh_i_isBuilt
  refine r_box hI fun b1 w' hI => ?_
  refine r_fieldL hI 0 rfl fo_iTerm_0 sc_int rfl ?_
  refine r_eql ?_
  rw [show builtT (.mk k n s ks) = (decide (k = 3) && builtB s ks.length) from rfl]
  cases h3 : decide (k = 3)
  · repeat (first | refine guard_true ?_ | refine guard_ne (by decide) ?_ | refine guard_undef ?_ | refine r_pickT ?_ | refine r_pickF ?_)
    exact done hI rfl
  · repeat (first | refine guard_true ?_ | refine guard_ne (by decide) ?_ | refine guard_undef ?_ | refine r_pickT ?_ | refine r_pickF ?_)
    refine r_fieldL hI 0 rfl fo_iTerm_2 sc_string rfl ?_
    refine r_fieldL hI 0 rfl fo_iTerm_3 sc_SiTerm rfl ?_
    refine r_lenSl hks sl_SiTerm ?_
    refine Run.callPure fn_i_IsBuiltin nm_i_IsBuiltin hI (iIsBuiltin_calls s _ S) fun w' hI => ?_
    repeat (first | refine guard_true ?_ | refine guard_ne (by decide) ?_ | refine guard_undef ?_ | refine r_pickT ?_ | refine r_pickF ?_)
    exact done hI rfl
theorem isPlain_calls {t : T} {S : Store} {cs : List Value} (h : RdT S cs t) : Pure Tryz.prog n_i_isPlain [.agg cs.toArray] S (.bool (plainB t)) := by
  intro w hI
  have h0 := h
  obtain ⟨kv, rfl, _, _, hs, hks⟩ := RdT.iff.1 h
  obtain ⟨k, n, s, ks⟩ := t
  simp only [T.name, T.kids, T.kind, T.n] at h0 hs hks ⊢
  refine calls_i_isPlain ?_
  unfold sh_i_isPlain
  refine r_box hI fun b1 w' hI => ?_
  refine r_fieldL hI 0 rfl fo_iTerm_0 sc_int rfl ?_
  refine r_eql ?_
  have hb : builtT (.mk k n s ks) = (decide (k = 3) && builtB s ks.length) := rfl
  rw [show plainB (.mk k n s ks) = (decide (k = 3) && (wordB s && (!builtB s ks.length && decide (levelN s = 0)))) from rfl]
  cases h1 : decide (k = 3)
  · repeat (first | refine guard_true ?_ | refine guard_ne (by decide) ?_ | refine guard_undef ?_ | refine r_pickT ?_ | refine r_pickF ?_)
    exact done hI rfl
  · rw [h1] at hb
    repeat (first | refine guard_true ?_ | refine guard_ne (by decide) ?_ | refine guard_undef ?_ | refine r_pickT ?_ | refine r_pickF ?_)
    refine r_fieldL hI 0 rfl fo_iTerm_2 sc_string rfl ?_
    refine Run.callPure fn_i_isLetters nm_i_isLetters hI (isLetters_calls s hs S) fun w' hI => ?_
    cases h2 : wordB s
    · repeat (first | refine guard_true ?_ | refine guard_ne (by decide) ?_ | refine guard_undef ?_ | refine r_pickT ?_ | refine r_pickF ?_)
      exact done hI rfl
    · repeat (first | refine guard_true ?_ | refine guard_ne (by decide) ?_ | refine guard_undef ?_ | refine r_pickT ?_ | refine r_pickF ?_)
      refine r_fieldL hI 0 rfl fo_iTerm_2 sc_string rfl ?_
      refine Run.callPure fn_i_isOp nm_i_isOp hI (isOp_calls s S) fun w' hI => ?_
      refine r_not ?_
      rw [level_pos]
      cases h3 : decide (levelN s = 0)
      · repeat (first | refine guard_true ?_ | refine guard_ne (by decide) ?_ | refine guard_undef ?_ | refine r_pickT ?_ | refine r_pickF ?_)
        exact done hI (by simp)
      · repeat (first | refine guard_true ?_ | refine guard_ne (by decide) ?_ | refine guard_undef ?_ | refine r_pickT ?_ | refine r_pickF ?_)
        refine r_loadW hI 0 ag_iTerm rfl rfl ?_
        refine Run.callPure fn_i_isBuilt nm_i_isBuilt hI (isBuilt_calls h0) fun w' hI => ?_
        refine r_not ?_
        repeat (first | refine guard_true ?_ | refine guard_ne (by decide) ?_ | refine guard_undef ?_ | refine r_pickT ?_ | refine r_pickF ?_)
        exact done hI (by rw [hb]; simp)
theorem isAtom_calls {t : T} {S : Store} {cs : List Value} (h : RdT S cs t) : Pure Tryz.prog n_i_isAtom [.agg cs.toArray] S (.bool (atomB t)) := by
  intro w hI
  obtain ⟨kv, rfl, _, _, hs, hks⟩ := RdT.iff.1 h
  obtain ⟨k, n, s, ks⟩ := t
  simp only [T.name, T.kids, T.kind, T.n] at hs hks ⊢
  refine calls_i_isAtom ?_
  unfold sh_i_isAtom
  refine r_box hI fun b1 w' hI => ?_
  refine r_fieldL hI 0 rfl fo_iTerm_0 sc_int rfl ?_
  refine r_eql ?_
  rw [show atomB (.mk k n s ks) = (decide (k = 3) && decide (ks.length = 0)) from rfl]
  cases h3 : decide (k = 3)
  · repeat (first | refine guard_true ?_ | refine guard_ne (by decide) ?_ | refine guard_undef ?_ | refine r_pickT ?_ | refine r_pickF ?_)
    exact done hI rfl
  · repeat (first | refine guard_true ?_ | refine guard_ne (by decide) ?_ | refine guard_undef ?_ | refine r_pickT ?_ | refine r_pickF ?_)
    refine r_fieldL hI 0 rfl fo_iTerm_3 sc_SiTerm rfl ?_
    refine r_lenSl hks sl_SiTerm ?_
    refine r_eql ?_
    repeat (first | refine guard_true ?_ | refine guard_ne (by decide) ?_ | refine guard_undef ?_ | refine r_pickT ?_ | refine r_pickF ?_)
    exact done hI (by simp)
theorem isCut_calls {t : T} {S : Store} {cs : List Value} (h : RdT S cs t) : Pure Tryz.prog n_i_isCut [.agg cs.toArray] S (.bool (cutB t)) := by
  intro w hI
  have h0 := h
  obtain ⟨kv, rfl, _, _, hs, hks⟩ := RdT.iff.1 h
  obtain ⟨k, n, s, ks⟩ := t
  simp only [T.name, T.kids, T.kind, T.n] at h0 hs hks ⊢
  refine calls_i_isCut ?_
  unfold sh_i_isCut
  refine r_box hI fun b1 w' hI => ?_
  refine r_loadW hI 0 ag_iTerm rfl rfl ?_
  refine Run.callPure fn_i_isAtom nm_i_isAtom hI (isAtom_calls h0) fun w' hI => ?_
  rw [show cutB (.mk k n s ks) = (decide (k = 3) && (decide (s = ⟨#[33]⟩) && decide (ks.length = 0))) from rfl]
  cases h1 : atomB (.mk k n s ks)
  · repeat (first | refine guard_true ?_ | refine guard_ne (by decide) ?_ | refine guard_undef ?_ | refine r_pickT ?_ | refine r_pickF ?_)
    refine done hI ?_
    replace h1 : (decide (k = 3) && decide (ks.length = 0)) = false := h1
    cases h2 : decide (k = 3)
    · rfl
    · rw [h2, Bool.true_and] at h1
      rw [h1, Bool.and_false]; rfl
  · repeat (first | refine guard_true ?_ | refine guard_ne (by decide) ?_ | refine guard_undef ?_ | refine r_pickT ?_ | refine r_pickF ?_)
    refine r_fieldL hI 0 rfl fo_iTerm_2 sc_string rfl ?_
    refine r_seql ?_
    repeat (first | refine guard_true ?_ | refine guard_ne (by decide) ?_ | refine guard_undef ?_ | refine r_pickT ?_ | refine r_pickF ?_)
    refine done hI ?_
    replace h1 : (decide (k = 3) && decide (ks.length = 0)) = true := h1
    rw [Bool.and_eq_true] at h1
    rw [h1.1, h1.2]; simp
theorem iGoalValid_calls {t : T} {S : Store} {cs : List Value} (h : RdT S cs t) : Pure Tryz.prog n_i_GoalValid [.agg cs.toArray] S (.bool (goalB t)) := by
  intro w hI
  have hl := h.length
  refine calls_i_GoalValid ?_
  unfold sh_i_GoalValid
  refine r_box hI fun b1 w' hI => ?_
  refine r_loadW hI 0 ag_iTerm rfl (by simpa [Value.cells] using hl) ?_
  refine Run.callPure fn_i_TermValid nm_i_TermValid hI (iTermValid_calls h) fun w' hI => ?_
  rw [goalB]
  cases h1 : validB t
  · repeat (first | refine guard_true ?_ | refine guard_ne (by decide) ?_ | refine guard_undef ?_ | refine r_pickT ?_ | refine r_pickF ?_)
    exact done hI rfl
  · repeat (first | refine guard_true ?_ | refine guard_ne (by decide) ?_ | refine guard_undef ?_ | refine r_pickT ?_ | refine r_pickF ?_)
    refine r_loadW hI 0 ag_iTerm rfl (by simpa [Value.cells] using hl) ?_
    refine Run.callPure fn_i_isPlain nm_i_isPlain hI (isPlain_calls h) fun w' hI => ?_
    cases h2 : plainB t
    · repeat (first | refine guard_true ?_ | refine guard_ne (by decide) ?_ | refine guard_undef ?_ | refine r_pickT ?_ | refine r_pickF ?_)
      refine r_loadW hI 0 ag_iTerm rfl (by simpa [Value.cells] using hl) ?_
      refine Run.callPure fn_i_isBuilt nm_i_isBuilt hI (isBuilt_calls h) fun w' hI => ?_
      cases h3 : builtT t
      · repeat (first | refine guard_true ?_ | refine guard_ne (by decide) ?_ | refine guard_undef ?_ | refine r_pickT ?_ | refine r_pickF ?_)
        refine r_loadW hI 0 ag_iTerm rfl (by simpa [Value.cells] using hl) ?_
        refine Run.callPure fn_i_isCut nm_i_isCut hI (isCut_calls h) fun w' hI => ?_
        repeat (first | refine guard_true ?_ | refine guard_ne (by decide) ?_ | refine guard_undef ?_ | refine r_pickT ?_ | refine r_pickF ?_)
        exact done hI (by simp)
      · repeat (first | refine guard_true ?_ | refine guard_ne (by decide) ?_ | refine guard_undef ?_ | refine r_pickT ?_ | refine r_pickF ?_)
        exact done hI (by simp)
    · repeat (first | refine guard_true ?_ | refine guard_ne (by decide) ?_ | refine guard_undef ?_ | refine r_pickT ?_ | refine r_pickF ?_)
      exact done hI (by simp)

theorem any_not {α : Type} (p : α → Bool) : ∀ xs : List α, (!xs.any fun x => !p x) = xs.all p
  | [] => rfl
  | x :: xs => by
    rw [List.any_cons, List.all_cons, ← any_not p xs]
    cases p x <;> simp

theorem igoalsValid_1_calls {x : T} {S : Store} {cs : List Value} (h : RdT S cs x) : Pure Tryz.prog n_i_goalsValid_1 [.agg cs.toArray] S (.bool (!goalB x)) := by
  intro w hI
  have hl := h.length
  refine calls_i_goalsValid_1 ?_
  unfold sh_i_goalsValid_1
  refine r_box hI fun b1 w' hI => ?_
  refine r_loadW hI 0 ag_iTerm rfl (by simpa [Value.cells] using hl) ?_
  refine Run.callPure fn_i_GoalValid nm_i_GoalValid hI (iGoalValid_calls h) fun w' hI => ?_
  refine r_not (done hI rfl)
theorem igoalsValid_calls {xs : List T} {S : Store} {v : Value} (h : RdSl S 4 (RdT S) v xs) : Pure Tryz.prog n_i_goalsValid [v] S (.bool (queryB xs)) := by
  intro w hI
  refine calls_i_goalsValid ?_
  unfold sh_i_goalsValid
  refine r_lenSl h sl_SiTerm ?_
  refine r_leq ?_
  rw [queryB]
  by_cases hle : xs.length ≤ 6
  · rw [decide_eq_true (show (xs.length : Int) ≤ 6 by omega), decide_eq_true hle]
    repeat (first | refine guard_true ?_ | refine guard_ne (by decide) ?_ | refine guard_undef ?_ | refine r_pickT ?_ | refine r_pickF ?_)
    have hcb : Cb Tryz.prog n_i_goalsValid_1 _ [] S (fun _ : Unit => []) (fun _ => True) (fun _ x => (!goalB x, ())) (fun v x => ∃ cs, v = .agg cs.toArray ∧ RdT S cs x) xs :=
      Cb.pure [] fn_i_goalsValid_1 nm_i_goalsValid_1 fun x v _ => by
        rintro ⟨cs, rfl, hcs⟩ w1 hI
        exact (igoalsValid_1_calls hcs w1 hI).mono fun e w' ⟨he, hI⟩ => ⟨_, _, _, he, hI, Ext.refl _ _ _, rfl, rfl, rfl⟩
    refine Run.call0 fn_x_ContainsFunc_Term nm_x_ContainsFunc_Term hI (ContainsFunc_Term_of hcb h (st := ()) trivial) fun v' I' S' w' => ?_
    rintro ⟨rfl, rfl, rfl⟩ _ hI
    refine r_not ?_
    repeat (first | refine guard_true ?_ | refine guard_ne (by decide) ?_ | refine guard_undef ?_ | refine r_pickT ?_ | refine r_pickF ?_)
    refine done hI ?_
    rw [anyF_pure (fun x => !goalB x) xs, any_not]; rfl
  · rw [decide_eq_false (show ¬ (xs.length : Int) ≤ 6 by omega), decide_eq_false hle]
    repeat (first | refine guard_true ?_ | refine guard_ne (by decide) ?_ | refine guard_undef ?_ | refine r_pickT ?_ | refine r_pickF ?_)
    exact done hI rfl
theorem iClauseValid_calls {c : C} {S : Store} {cs : List Value} (h : RdC S cs c) : Pure Tryz.prog n_i_ClauseValid [.agg cs.toArray] S (.bool (clauseB c)) := by
  intro w hI
  obtain ⟨hd, ks, rfl, h1, h2⟩ := h
  have h1' := h1
  obtain ⟨kv, rfl, g1, g2, g3, g4⟩ := RdT.iff.1 h1
  have hfin : clauseB c = (validB c.head && (plainB c.head && queryB c.body)) := by
    unfold clauseB queryB
    cases validB c.head <;> cases plainB c.head <;> simp
  refine calls_i_ClauseValid ?_
  unfold sh_i_ClauseValid
  rw [hfin]
  refine r_box hI fun b1 w' hI => ?_
  refine r_field fo_iClause_0 ?_
  refine r_loadLA hI 0 [.int .i64 c.head.kind, .int .i64 c.head.n, .string c.head.name, kv] ag_iTerm rfl rfl ?_ ?_
  · intro j v hj
    match j with
    | 0 | 1 | 2 | 3 => exact hj
    | j + 4 => simp at hj
  refine Run.callPure fn_i_TermValid nm_i_TermValid hI (iTermValid_calls h1') fun w' hI => ?_
  cases hv : validB c.head
  · repeat (first | refine guard_true ?_ | refine guard_ne (by decide) ?_ | refine guard_undef ?_ | refine r_pickT ?_ | refine r_pickF ?_)
    exact done hI rfl
  · repeat (first | refine guard_true ?_ | refine guard_ne (by decide) ?_ | refine guard_undef ?_ | refine r_pickT ?_ | refine r_pickF ?_)
    refine r_field fo_iClause_0 ?_
    refine r_loadLA hI 0 [.int .i64 c.head.kind, .int .i64 c.head.n, .string c.head.name, kv] ag_iTerm rfl rfl ?_ ?_
    · intro j v hj
      match j with
      | 0 | 1 | 2 | 3 => exact hj
      | j + 4 => simp at hj
    refine Run.callPure fn_i_isPlain nm_i_isPlain hI (isPlain_calls h1') fun w' hI => ?_
    cases hp : plainB c.head
    · repeat (first | refine guard_true ?_ | refine guard_ne (by decide) ?_ | refine guard_undef ?_ | refine r_pickT ?_ | refine r_pickF ?_)
      exact done hI rfl
    · repeat (first | refine guard_true ?_ | refine guard_ne (by decide) ?_ | refine guard_undef ?_ | refine r_pickT ?_ | refine r_pickF ?_)
      refine r_fieldL hI 0 rfl fo_iClause_1 sc_SiTerm rfl ?_
      refine Run.callPure fn_i_goalsValid nm_i_goalsValid hI (igoalsValid_calls h2) fun w' hI => ?_
      repeat (first | refine guard_true ?_ | refine guard_ne (by decide) ?_ | refine guard_undef ?_ | refine r_pickT ?_ | refine r_pickF ?_)
      exact done hI rfl

theorem iProgramValid_1_calls {x : C} {S : Store} {cs : List Value} (h : RdC S cs x) : Pure Tryz.prog n_i_ProgramValid_1 [.agg cs.toArray] S (.bool (!clauseB x)) := by
  intro w hI
  have hl := h.length
  refine calls_i_ProgramValid_1 ?_
  unfold sh_i_ProgramValid_1
  refine r_box hI fun b1 w' hI => ?_
  refine r_loadW hI 0 ag_iClause rfl (by simpa [Value.cells] using hl) ?_
  refine Run.callPure fn_i_ClauseValid nm_i_ClauseValid hI (iClauseValid_calls h) fun w' hI => ?_
  refine r_not (done hI rfl)
theorem iProgramValid_calls {xs : List C} {S : Store} {v : Value} (h : RdSl S 5 (RdC S) v xs) : Pure Tryz.prog n_i_ProgramValid [v] S (.bool (progB xs)) := by
  intro w hI
  refine calls_i_ProgramValid ?_
  unfold sh_i_ProgramValid
  refine r_lenSl h sl_SiClause ?_
  refine r_leq ?_
  rw [progB]
  by_cases hle : xs.length ≤ 20
  · rw [decide_eq_true (show (xs.length : Int) ≤ 20 by omega), decide_eq_true hle]
    repeat (first | refine guard_true ?_ | refine guard_ne (by decide) ?_ | refine guard_undef ?_ | refine r_pickT ?_ | refine r_pickF ?_)
    have hcb : Cb Tryz.prog n_i_ProgramValid_1 _ [] S (fun _ : Unit => []) (fun _ => True) (fun _ x => (!clauseB x, ())) (fun v x => ∃ cs, v = .agg cs.toArray ∧ RdC S cs x) xs :=
      Cb.pure [] fn_i_ProgramValid_1 nm_i_ProgramValid_1 fun x v _ => by
        rintro ⟨cs, rfl, hcs⟩ w1 hI
        exact (iProgramValid_1_calls hcs w1 hI).mono fun e w' ⟨he, hI⟩ => ⟨_, _, _, he, hI, Ext.refl _ _ _, rfl, rfl, rfl⟩
    refine Run.call0 fn_x_ContainsFunc_Clause nm_x_ContainsFunc_Clause hI (ContainsFunc_Clause_of hcb h (st := ()) trivial) fun v' I' S' w' => ?_
    rintro ⟨rfl, rfl, rfl⟩ _ hI
    refine r_not ?_
    repeat (first | refine guard_true ?_ | refine guard_ne (by decide) ?_ | refine guard_undef ?_ | refine r_pickT ?_ | refine r_pickF ?_)
    refine done hI ?_
    rw [anyF_pure (fun x => !clauseB x) xs, any_not]; rfl
  · rw [decide_eq_false (show ¬ (xs.length : Int) ≤ 20 by omega), decide_eq_false hle]
    repeat (first | refine guard_true ?_ | refine guard_ne (by decide) ?_ | refine guard_undef ?_ | refine r_pickT ?_ | refine r_pickF ?_)
    exact done hI rfl
theorem iQueryValid_calls {xs : List T} {S : Store} {v : Value} (h : RdSl S 4 (RdT S) v xs) : Pure Tryz.prog n_i_QueryValid [v] S (.bool (queryB xs)) := by
  intro w hI
  refine calls_i_QueryValid ?_
  unfold sh_i_QueryValid
  refine Run.callPure fn_i_goalsValid nm_i_goalsValid hI (igoalsValid_calls h) fun w' hI => done hI rfl

end Go.Proofs.YtmnnpgdeecnfpaaGreat

/- A row of a function's own, handed to a function that only reads; rows of numbers. -/
namespace Go.Proofs.YtmnnpgdeecnfpaaGreat
open Go Go.RowKit
attribute [local irreducible] Run CondV GuardV LoadV

def RowRd (S : Store) (v : Value) (e : TypeId) (k n : Nat) (xs : List Value) : Prop :=
  xs.length = n * k ∧ ((v = .slice none 0 0 ∧ n = 0) ∨ ∃ g cap cur, v = .slice (some ⟨g, 0, none⟩) n cap ∧ S g = some (.cells cur e) ∧ n ≤ cap ∧ cap ≤ maxLen ∧ cur.size = cap * k ∧ cur.toList.take (n * k) = xs)
theorem Inv.lend {w0 w : World} {X : List Nat} {A : List Item} {S : Store} {v : Value} {e : TypeId} {k n : Nat} {xs : List Value} (h : Inv w0 X (A ++ [.row v e k n xs]) S w) :
    ∃ S', Sle S S' ∧ RowRd S' v e k n xs ∧ Inv w0 X A S' w ∧ ∀ B w', Inv w0 X B S' w' → Inv w0 X (B ++ [.row v e k n xs]) S w' := by
  have hm : w.ownsRow 0 e k v n xs := h.its (.row v e k n xs) (by simp)
  obtain ⟨hl, hm⟩ := hm
  rcases hm with ⟨rfl, rfl⟩ | ⟨g, cap, cur, rfl, _, hg, hnc, hcm, hcs, ht⟩
  · have : xs = [] := List.eq_nil_of_length_eq_zero (by rw [hl, Nat.zero_mul])
    subst this
    exact ⟨S, Sle.refl S, ⟨hl, .inl ⟨rfl, rfl⟩⟩, h.sub (List.sublist_append_left _ _), fun B w' hB => hB.rowNil e k⟩
  · have hf : feet (A ++ [Item.blk g (.cells cur e)]) = feet (A ++ [Item.row (.slice (some ⟨g, 0, none⟩) n cap) e k n xs]) := by
      simp [feet, Item.foot, Value.ownBlock]
    have hg' : g ∈ feet (A ++ [Item.row (.slice (some ⟨g, 0, none⟩) n cap) e k n xs]) := by simp [feet, Item.foot, Value.ownBlock]
    have h' : Inv w0 X (A ++ [Item.blk g (.cells cur e)]) S w := by
      refine ⟨h.size, h.os, h.tape, h.output, h.old, fun it hit => ?_, by rw [hf]; exact h.nd, by rw [hf]; exact h.new, by rw [hf]; exact h.pub⟩
      rcases List.mem_append.1 hit with hit | hit
      · exact h.its it (List.mem_append_left _ hit)
      · simp at hit
        subst hit
        exact hg
    obtain ⟨h1, h2⟩ := h'.publishLast
    refine ⟨addS S g (.cells cur e), h2, ⟨hl, .inr ⟨g, cap, cur, rfl, by simp [addS], hnc, hcm, hcs, ht⟩⟩, h1, fun B w' hB => ?_⟩
    have hpg := hB.pub g (.cells cur e) (by simp [addS])
    have hfB : feet (B ++ [Item.row (.slice (some ⟨g, 0, none⟩) n cap) e k n xs]) = feet B ++ [g] := by simp [feet, Item.foot, Value.ownBlock]
    refine ⟨hB.size, hB.os, hB.tape, hB.output, hB.old, fun it hit => ?_, ?_, ?_, ?_⟩
    · rcases List.mem_append.1 hit with hit | hit
      · exact hB.its it hit
      · simp at hit
        subst hit
        exact ⟨hl, .inr ⟨g, cap, cur, rfl, Nat.zero_le _, hpg.1, hnc, hcm, hcs, ht⟩⟩
    · rw [hfB, List.nodup_append]
      refine ⟨hB.nd, by simp, fun a ha b hb => ?_⟩
      simp at hb
      subst hb
      intro e'
      subst e'
      exact hpg.2 ha
    · intro c hc
      rw [hfB] at hc
      rcases List.mem_append.1 hc with hc | hc
      · exact hB.new c hc
      · simp at hc
        subst hc
        exact h.new _ hg'
    · intro c o hc
      have hne : c ≠ g := fun e' => by
        subst e'
        exact (h.pub c o hc).2 hg'
      have := hB.pub c o (by simp only [addS]; rw [if_neg hne]; exact hc)
      refine ⟨this.1, ?_⟩
      rw [hfB]
      intro hc'
      rcases List.mem_append.1 hc' with hc' | hc'
      · exact this.2 hc'
      · simp at hc'
        exact hne hc'
theorem flat_at {α : Type} (f : α → List Value) (k : Nat) (hf : ∀ y, (f y).length = k) : ∀ (ys : List α) (i : Nat) (h : i < ys.length), ((ys.flatMap f).drop (i * k)).take k = f ys[i]
  | [], i, h => by simp at h
  | y :: ys, 0, h => by
    rw [List.flatMap_cons, Nat.zero_mul, List.drop_zero, List.take_append_of_le_length (by rw [hf]; exact Nat.le_refl _), List.take_of_length_le (by rw [hf]; exact Nat.le_refl _)]
    rfl
  | y :: ys, i + 1, h => by
    rw [List.flatMap_cons, Nat.succ_mul, Nat.add_comm, ← List.drop_drop, List.drop_left' (hf y)]
    exact flat_at f k hf ys i (by simpa using h)
theorem flat_len {α : Type} (f : α → List Value) (k : Nat) (hf : ∀ y, (f y).length = k) : ∀ ys : List α, (ys.flatMap f).length = ys.length * k
  | [] => by simp
  | y :: ys => by rw [List.flatMap_cons, List.length_append, hf, flat_len f k hf ys, List.length_cons, Nat.succ_mul, Nat.add_comm]
theorem RowRd.rd {α : Type} {S : Store} {v : Value} {e : TypeId} {k : Nat} {f : α → List Value} {R : List Value → α → Prop} {ys : List α} (hf : ∀ y, (f y).length = k) (hR : ∀ y ∈ ys, R (f y) y)
    (h : RowRd S v e k ys.length (ys.flatMap f)) : RdSl S k R v ys := by
  obtain ⟨hl, h⟩ := h
  rcases h with ⟨rfl, h0⟩ | ⟨g, cap, cur, rfl, hS, hnc, hcm, hcs, ht⟩
  · have : ys = [] := List.eq_nil_of_length_eq_zero h0
    subst this
    exact ⟨none, 0, rfl, Nat.le_refl _, Nat.zero_le _, .inl rfl⟩
  · refine ⟨_, cap, rfl, hnc, hcm, .inr ⟨g, 0, cur, e, (0, 0), rfl, hS, fun i hi => ?_⟩⟩
    have := flat_at f k hf ys i hi
    have hik : i * k + k ≤ ys.length * k := by rw [← Nat.succ_mul]; exact Nat.mul_le_mul_right k hi
    rw [← ht, List.drop_take, List.take_take, Nat.min_eq_left (by omega)] at this
    rw [cellsAt, Nat.zero_add, this]
    exact hR _ (List.getElem_mem hi)

/- rows of numbers -/
def ints (ns : List Int) : List Value := ns.flatMap fun n => [.int .i64 n]
abbrev rowI (v : Value) (ns : List Int) : Item := .row v t_int 1 ns.length (ints ns)
theorem ints_snoc (ns : List Int) (n : Int) : ints ns ++ [.int .i64 n] = ints (ns ++ [n]) := by simp [ints]
theorem RowRd.ints {S : Store} {v : Value} {e : TypeId} {ns : List Int} (h : RowRd S v e 1 ns.length (ints ns)) : RdSl S 1 RdInt v ns :=
  RowRd.rd (f := fun n => [Value.int .i64 n]) (fun _ => rfl) (fun _ _ => rfl) h
end Go.Proofs.YtmnnpgdeecnfpaaGreat

/- The variables of terms, on both sides: lists of numbers that grow. -/
namespace Go.Proofs.YtmnnpgdeecnfpaaGreat
open Go Go.RowKit
attribute [local irreducible] Run CondV GuardV LoadV

/- on valid terms the two are one -/
abbrev PostV (S : Store) (r : List Int) : Value → List Item → Store → Prop := fun v I' S' => I' = [rowI v r] ∧ S' = S

end Go.Proofs.YtmnnpgdeecnfpaaGreat

/- Flat clauses and programs, on both sides. -/
namespace Go.Proofs.YtmnnpgdeecnfpaaGreat
open Go Go.RowKit
attribute [local irreducible] Run CondV GuardV LoadV

section
variable {P : Program} {w w0 : World} {X : List Nat} {L : List Item} {S : Store} {K : Value → World → Prop}
end
end Go.Proofs.YtmnnpgdeecnfpaaGreat

/- The row's reading of the arguments gives the reading of this proof; and what a law that returns true owes. -/
namespace Go.Proofs.YtmnnpgdeecnfpaaGreat
open Go Go.ChangeShapes Go.WideShapes Go.ChangeAt Go.RowKit

def heapS (W : World) : Store := fun b => W.heap[b]?
section
variable {H : Type} {enc : TypeId × Value → H} {P : Program} {W : World} {sp : Nat → Bool} {held : Bool}
theorem cell_spot {a : Addr} {v : Value} (h : W.cell? a = some v) : ∃ b o c E fz, a = ⟨b, o, none⟩ ∧ W.heap[b]? = some (.cells c E fz) ∧ c[o]? = some v := by
  obtain ⟨b, o, s⟩ := a
  simp only [World.cell?] at h
  split at h
  · rename_i c E fz hb
    cases s with
    | none => exact ⟨b, o, c, E, fz, rfl, hb, by simpa using h⟩
    | some s => simp at h
  · cases h
theorem cells_at {b o k : Nat} {cs : List Value} {c : Array Value} {E : TypeId} {fz : Nat × Nat} (hb : W.heap[b]? = some (.cells c E fz)) (h : W.cells? 0 ⟨b, o, none⟩ k = some cs) : cellsAt c o k = cs := by
  unfold World.cells? at h
  rw [if_pos (Nat.zero_le _)] at h
  have hl : cs.length = k := by simpa using mapM_some_length h
  apply List.ext_getElem?
  intro i
  rw [cellsAt, List.getElem?_take]
  by_cases hi : i < k
  · rw [if_pos hi, List.getElem?_drop]
    have := mapM_some_get h i i (by simp [hi])
    rw [← this, add_lit]
    simp [World.cell?, hb]
  · rw [if_neg hi, List.getElem?_eq_none (by omega)]
theorem exists_list {α : Type} (p : Nat → α → Prop) : ∀ n : Nat, (∀ i, i < n → ∃ t, p i t) → ∃ xs : List α, xs.length = n ∧ ∀ i (h : i < xs.length), p i xs[i]
  | 0, _ => ⟨[], rfl, fun i h => by simp at h⟩
  | n + 1, h => by
    obtain ⟨xs, hl, hx⟩ := exists_list p n fun i hi => h i (by omega)
    obtain ⟨t, ht⟩ := h n (by omega)
    refine ⟨xs ++ [t], by simp [hl], fun i hi => ?_⟩
    by_cases e : i < xs.length
    · rw [List.getElem_append_left e]
      exact hx i e
    · have : i = xs.length := by simp at hi; omega
      subst this
      simp only [List.getElem_append_right (Nat.le_refl _), Nat.sub_self, List.getElem_cons_zero]
      rw [hl]
      exact ht
theorem slice_parts {T e : TypeId} {k : Nat} (h : sliceOf P T = some (e, k)) : P.underlying T = some (.slice e) ∧ P.cellsOf e = k := by
  unfold sliceOf at h
  split at h
  · rename_i e' he
    rw [Option.map_eq_some_iff] at h
    obtain ⟨i, hi, hx⟩ := h
    simp only [Prod.mk.injEq] at hx
    obtain ⟨rfl, rfl⟩ := hx
    exact ⟨he, by simp [Program.cellsOf, hi]⟩
  · cases h
theorem trod_sl {α : Type} {R : List Value → α → Prop} {T e : TypeId} {k fuel : Nat} {v : Value} {x : DataW H × List MemPlace} (hu : sliceOf P T = some (e, k)) (hk0 : 0 < k)
    (h : DataW.trod enc P W 0 sp held fuel T [v] = some x) (hel : ∀ n cs y, fuel = n + 1 → DataW.trod enc P W 0 sp held n e cs = some y → ∃ t : α, R cs t) : ∃ xs, RdSl (heapS W) k R v xs := by
  obtain ⟨hu1, hk⟩ := slice_parts hu
  rcases DataW.trod_slice hu1 h with ⟨hcs, _⟩ | ⟨a, len, cap, elems, rest, n, hf, hcs, _, _, hl, hc, hlen, hE, _⟩
  · simp only [List.cons.injEq, and_true] at hcs
    subst hcs
    exact ⟨[], none, 0, rfl, Nat.le_refl _, Nat.zero_le _, .inl rfl⟩
  · simp only [List.cons.injEq, and_true] at hcs
    subst hcs
    have hE' : ∀ i, i < len → ∃ t : α, ∃ cs, W.cells? 0 (a.add (i * k)) k = some cs ∧ R cs t := by
      intro i hi
      have := hE i hi
      rw [hk, List.getElem?_eq_getElem (by omega), Option.bind_eq_some_iff] at this
      obtain ⟨cs, h1, h2⟩ := this
      obtain ⟨t, ht⟩ := hel n cs _ hf h2
      exact ⟨t, cs, h1, ht⟩
    obtain ⟨xs, hxl, hxs⟩ := exists_list _ len hE'
    subst hxl
    refine ⟨xs, some a, cap, rfl, hl, hc, ?_⟩
    by_cases h0 : xs.length = 0
    · exact .inl (List.eq_nil_of_length_eq_zero h0)
    · obtain ⟨cs0, h1, _⟩ := hxs 0 (by omega)
      have e0 : a.add (0 * k) = a := by rw [Nat.zero_mul]; simp [Addr.add]
      rw [e0] at h1
      have hc0 : ∃ u, W.cell? a = some u := by
        unfold World.cells? at h1
        rw [if_pos (Nat.zero_le _)] at h1
        have hl0 : cs0.length = k := by simpa using mapM_some_length h1
        have := mapM_some_get h1 0 0 (by simp [hk0])
        rw [List.getElem?_eq_getElem (by omega)] at this
        have e1 : a.add 0 = a := by simp [Addr.add]
        rw [e1] at this
        exact ⟨_, this⟩
      obtain ⟨u, hu0⟩ := hc0
      obtain ⟨b, o, c, E, fz, rfl, hb, _⟩ := cell_spot hu0
      refine .inr ⟨b, o, c, E, fz, rfl, hb, fun i hi => ?_⟩
      obtain ⟨cs, h2, hR⟩ := hxs i hi
      rw [add_lit] at h2
      rw [cells_at hb h2]
      exact hR
end

section
variable {H : Type} {enc : TypeId × Value → H} {W : World} {sp : Nat → Bool} {held : Bool}
end

theorem Inv.entry (W : World) : Inv W [] [] (heapS W) W := Inv.start (L := []) (by simp) (by simp [feet]) fun b o hb => ⟨hb, by simp [feet]⟩
theorem Inv.same {W W' : World} {L : List Item} {S : Store} (h : Inv W [] L S W') (b : Nat) (hb : b < W.heap.size) : W'.heap[b]? = W.heap[b]? := h.old b hb (by simp)
theorem same_kept {W W' : World} {may : MemPlace → Prop} (ho : W'.os = W.os) (hp : W'.output = W.output) (h : ∀ b, b < W.heap.size → W'.heap[b]? = W.heap[b]?) : W.keptBut W' may := by
  refine ⟨ho, hp, fun i hi => ?_⟩
  rw [h i hi]
  split
  · rename_i e1 e2
    rw [e1] at e2
    simp only [Option.some.injEq, Obj.cells.injEq] at e2
    obtain ⟨rfl, rfl, rfl⟩ := e2
    exact ⟨rfl, rfl, rfl, fun _ _ => rfl⟩
  · rename_i e1 e2
    rw [e1] at e2
    simp only [Option.some.injEq, Obj.map.injEq] at e2
    obtain ⟨rfl, rfl⟩ := e2
    exact .inr ⟨rfl, rfl⟩
  · rfl

end Go.Proofs.YtmnnpgdeecnfpaaGreat

/- The sizes: laws.szTerm and its kin. -/
namespace Go.Proofs.YtmnnpgdeecnfpaaGreat
open Go Go.RowKit
attribute [local irreducible] Run CondV GuardV LoadV


end Go.Proofs.YtmnnpgdeecnfpaaGreat

/- Equality of terms and clauses as the laws ask it. -/
namespace Go.Proofs.YtmnnpgdeecnfpaaGreat
open Go Go.RowKit
attribute [local irreducible] Run CondV GuardV LoadV

theorem sub4 {a b c d e : Value} : ∀ (j : Nat) (v : Value), ([a, b, c, d] : List Value)[j]? = some v → (#[a, b, c, d, e] : Array Value)[0 + j]? = some v
  | 0, _, h | 1, _, h | 2, _, h | 3, _, h => h
  | j + 4, _, h => by simp at h

end Go.Proofs.YtmnnpgdeecnfpaaGreat

/- The sizes of clauses and of programs, and what they bound. -/
namespace Go.Proofs.YtmnnpgdeecnfpaaGreat
open Go Go.RowKit
attribute [local irreducible] Run CondV GuardV LoadV

/- toClauseS, and what it made published -/
end Go.Proofs.YtmnnpgdeecnfpaaGreat

/- The laws' marks: laws.markText. -/
namespace Go.Proofs.YtmnnpgdeecnfpaaGreat
open Go Go.RowKit
section
variable {P : Program} {w w0 : World} {X : List Nat} {L : List Item} {S : Store} {K : Value → World → Prop}
attribute [local irreducible] Run CondV GuardV LoadV
end

section
attribute [local irreducible] Run CondV GuardV LoadV
end

end Go.Proofs.YtmnnpgdeecnfpaaGreat

/- The laws' marks, written into trees of the function's own. -/
namespace Go.Proofs.YtmnnpgdeecnfpaaGreat
open Go Go.RowKit

section
attribute [local irreducible] Run CondV GuardV LoadV
end

end Go.Proofs.YtmnnpgdeecnfpaaGreat

/- The laws' marks, written into clauses of the function's own. -/
namespace Go.Proofs.YtmnnpgdeecnfpaaGreat
open Go Go.RowKit

section
attribute [local irreducible] Run CondV GuardV LoadV
end

end Go.Proofs.YtmnnpgdeecnfpaaGreat

/- The laws' marks, read again. -/
namespace Go.Proofs.YtmnnpgdeecnfpaaGreat
open Go Go.RowKit

section
attribute [local irreducible] Run CondV GuardV LoadV
end

end Go.Proofs.YtmnnpgdeecnfpaaGreat

/- Names of goals with their numbers of arguments: built, compared; the clauses for one. -/
namespace Go.Proofs.YtmnnpgdeecnfpaaGreat
open Go Go.RowKit

theorem fields_iPred : Tryz.prog.underlying t_iPred = some (.struct (Tryz.prog.fieldsOf t_iPred)) := by kernel_rfl
theorem held_iPred : Tryz.prog.stoodInHeld t_iPred = false := by kernel_rfl
theorem guard_iPred : Tryz.prog.eqGuardType Tryz.prog.depth t_iPred = false := by kernel_rfl
theorem run_partSc {P : Program} {w : World} {T : TypeId} {cs : Array Value} {off : Nat} {v : Value} (h : isSc P T = true) (hx : cs[off]? = some v) : (part T cs off).run P w = .ok v w := by
  simp [part, (isSc_true (w := w) h).1, hx]
theorem eq_iPred {w : World} (s s' : ByteArray) (n n' : Int) :
    (Op.equalIn 10000 t_iPred (.agg #[.string s, .int .i64 n]) (.agg #[.string s', .int .i64 n'])).run Tryz.prog w = .ok (decide (s = s') && decide (n = n')) w := by
  rw [show (10000 : Nat) = 9999 + 1 from rfl, run_equalIn_struct w 9999 t_iPred _ _ fields_iPred held_iPred]
  have hf : (Tryz.prog.fieldsOf t_iPred).toList = [(Tryz.prog.fieldsOf t_iPred)[0]!, (Tryz.prog.fieldsOf t_iPred)[1]!] := by kernel_rfl
  have h0 : ((Tryz.prog.fieldsOf t_iPred)[0]!).type = t_string := by kernel_rfl
  have h1 : ((Tryz.prog.fieldsOf t_iPred)[1]!).type = t_int := by kernel_rfl
  have o0 : ((Tryz.prog.fieldsOf t_iPred)[0]!).offset = 0 := by kernel_rfl
  have o1 : ((Tryz.prog.fieldsOf t_iPred)[1]!).offset = 1 := by kernel_rfl
  have n0 : ((Tryz.prog.fieldsOf t_iPred)[0]!).name ≠ "_" := by decide +kernel
  have n1 : ((Tryz.prog.fieldsOf t_iPred)[1]!).name ≠ "_" := by decide +kernel
  rw [hf]
  have e0 : (Op.equalIn (9998 + 1) t_string (.string s) (.string s')).run Tryz.prog w = .ok (decide (s = s')) w := by
    rw [run_equalIn_string w 9998 t_string s s' un_string, bytes_eq]
  have e1 : (Op.equalIn (9998 + 1) t_int (.int .i64 n) (.int .i64 n')).run Tryz.prog w = .ok (decide (n = n')) w := by
    rw [run_equalIn_int w 9998 t_int .i64 .i64 n n' un_int]; rfl
  rw [show (9999 : Nat) = 9998 + 1 from rfl]
  generalize hg0 : (Tryz.prog.fieldsOf t_iPred)[0]! = g0 at *
  generalize hg1 : (Tryz.prog.fieldsOf t_iPred)[1]! = g1 at *
  simp only [Op.eqFields, n0, n1, ne_eq, not_false_eq_true, if_true, Sem.run_bind, h0, h1, o0, o1]
  rw [run_partSc sc_string (v := .string s) rfl, Result.andThen_ok, run_partSc sc_string (v := .string s') rfl, Result.andThen_ok, e0, Result.andThen_ok]
  cases decide (s = s') with
  | false => rfl
  | true =>
    simp only [Bool.not_true, Bool.false_eq_true, if_false, Sem.run_bind]
    rw [run_partSc sc_int (v := .int .i64 n) rfl, Result.andThen_ok, run_partSc sc_int (v := .int .i64 n') rfl, Result.andThen_ok, e1, Result.andThen_ok]
    cases decide (n = n') with
    | false => rfl
    | true => rfl
section
variable {w : World} {K : Value → World → Prop}
attribute [local irreducible] Run
theorem run_peql {cx cy : Bool} {s s' : ByteArray} {n n' : Int} :
    (sBin .eql t_iPred cx cy (.agg #[.string s, .int .i64 n]) (.agg #[.string s', .int .i64 n'])).run Tryz.prog w = .ok (.value (.bool (decide (s = s') && decide (n = n')))) w := by
  unfold sBin
  rw [Sem.run_bind, run_eqGuard_agg w .eql t_iPred _ _ _ _ guard_iPred, Result.andThen_ok, Sem.run_bind, run_eql_struct, eq_iPred, Result.andThen_ok, Result.andThen_ok]
  rfl
theorem run_buildPred {s : ByteArray} {n : Int} : (sBuild t_iPred [(0, .string s), (1, .int .i64 n)]).run Tryz.prog w = .ok (.value (.agg #[.string s, .int .i64 n])) w := by
  unfold sBuild
  rw [Sem.run_bind, run_build w t_iPred _ #[.string s, .int .i64 n] (by kernel_rfl), Result.andThen_ok]
  rfl
theorem r_peql {cx cy : Bool} {s s' : ByteArray} {n n' : Int} (hk : K (.bool (decide (s = s') && decide (n = n'))) w) : Run Tryz.prog (sBin .eql t_iPred cx cy (.agg #[.string s, .int .i64 n]) (.agg #[.string s', .int .i64 n'])) w K :=
  Run.of run_peql hk
theorem r_buildPred {s : ByteArray} {n : Int} (hk : K (.agg #[.string s, .int .i64 n]) w) : Run Tryz.prog (sBuild t_iPred [(0, .string s), (1, .int .i64 n)]) w K :=
  Run.of run_buildPred hk
end

attribute [local irreducible] Run CondV GuardV LoadV
structure Pd where
  name : ByteArray
  arity : Int
deriving DecidableEq
def Pd.cells (x : Pd) : List Value := [.string x.name, .int .i64 x.arity]
def RdPd (cs : List Value) (x : Pd) : Prop := cs = x.cells
def predT (t : T) : Pd := ⟨t.name, t.kids.length⟩
def eqPd (x y : Pd) : Bool := decide (x.name = y.name) && decide (x.arity = y.arity)
theorem eqPd_iff (x y : Pd) : eqPd x y = decide (x = y) := by
  obtain ⟨a, b⟩ := x
  obtain ⟨c, d⟩ := y
  rw [eqPd, Bool.eq_iff_iff]
  simp
theorem i_pred_calls {t : T} {S : Store} {cs : List Value} (h : RdT S cs t) : Pure Tryz.prog n_i_pred [.agg cs.toArray] S (.agg (predT t).cells.toArray) := by
  intro w hI
  obtain ⟨kv, rfl, _, _, hs, hks⟩ := RdT.iff.1 h
  obtain ⟨k, n, s, ks⟩ := t
  simp only [T.name, T.kids, T.kind, T.n] at hs hks ⊢
  refine calls_i_pred ?_
  unfold sh_i_pred
  refine r_box hI fun b1 w' hI => ?_
  refine r_alloc hI zo_iPred fun b2 w' hI => ?_
  refine r_fieldL hI 0 rfl fo_iTerm_2 sc_string rfl ?_
  refine r_fieldL hI 0 rfl fo_iTerm_3 sc_SiTerm rfl ?_
  refine r_lenSl hks sl_SiTerm ?_
  refine r_buildPred ?_
  refine r_storeW hI 1 rfl ag_iPred rfl rfl (by simp [Value.oneCell']) fun w' hI => ?_
  refine loadV_W hI 1 ag_iPred rfl rfl ?_
  exact done hI rfl
theorem s_l14Of_calls {t : T} {S : Store} {cs : List Value} (h : RdT S cs t) : Pure Tryz.prog n_s_l14Of [.agg cs.toArray] S (.agg (predT t).cells.toArray) := by
  intro w hI
  obtain ⟨kv, rfl, _, _, hs, hks⟩ := RdT.iff.1 h
  obtain ⟨k, n, s, ks⟩ := t
  simp only [T.name, T.kids, T.kind, T.n] at hs hks ⊢
  refine calls_s_l14Of ?_
  unfold sh_s_l14Of
  refine r_box hI fun b1 w' hI => ?_
  refine r_alloc hI zo_iPred fun b2 w' hI => ?_
  refine r_fieldL hI 0 rfl fo_iTerm_2 sc_string rfl ?_
  refine r_fieldL hI 0 rfl fo_iTerm_3 sc_SiTerm rfl ?_
  refine r_lenSl hks sl_SiTerm ?_
  refine r_buildPred ?_
  refine r_storeW hI 1 rfl ag_iPred rfl rfl (by simp [Value.oneCell']) fun w' hI => ?_
  refine loadV_W hI 1 ag_iPred rfl rfl ?_
  exact done hI rfl

def posOf (f : C → Bool) : List C → Nat → List Int
  | [], _ => []
  | c :: cs, k => if f c = true then (k : Int) :: posOf f cs (k + 1) else posOf f cs (k + 1)
theorem posOf_at (f : C → Bool) : ∀ (p : List C) (k : Nat) (n : Int), n ∈ posOf f p k → ∃ i : Nat, (k : Int) ≤ n ∧ n = k + i ∧ ∃ h : i < p.length, f p[i] = true
  | [], k, n, h => by simp [posOf] at h
  | c :: cs, k, n, h => by
    have hrec : n ∈ posOf f cs (k + 1) → ∃ i : Nat, (k : Int) ≤ n ∧ n = k + i ∧ ∃ h : i < (c :: cs).length, f (c :: cs)[i] = true := by
      intro h
      obtain ⟨i, h1, h2, h3, h4⟩ := posOf_at f cs (k + 1) n h
      exact ⟨i + 1, by omega, by omega, by simpa using h3, by simpa using h4⟩
    rw [posOf] at h
    split at h
    · rcases List.mem_cons.1 h with rfl | h
      · exact ⟨0, by omega, by omega, by simp, by simpa using ‹f c = true›⟩
      · exact hrec h
    · exact hrec h
theorem posOf_len (f : C → Bool) : ∀ (p : List C) (k : Nat), (posOf f p k).length ≤ p.length
  | [], k => by simp [posOf]
  | c :: cs, k => by
    have := posOf_len f cs (k + 1)
    rw [posOf]
    split <;> simp <;> omega

end Go.Proofs.YtmnnpgdeecnfpaaGreat

/- The clauses for a goal; which clauses can be unfolded: both sides. -/
namespace Go.Proofs.YtmnnpgdeecnfpaaGreat
open Go Go.RowKit
attribute [local irreducible] Run CondV GuardV LoadV

theorem posOf_step (f : C → Bool) (p : List C) (k : Nat) (h : k < p.length) (l : List Int) : (if f p[k] = true then l ++ [(k : Int)] else l) ++ posOf f (p.drop (k + 1)) (k + 1) = l ++ posOf f (p.drop k) k := by
  rw [List.drop_eq_getElem_cons h, posOf]
  split
  · rw [List.append_assoc]; rfl
  · rfl

theorem clausesFor_calls {p : List C} {S : Store} {v : Value} (x : Pd) (h : RdSl S 5 (RdC S) v p) (hp : p.length ≤ 2000000) : Tri Tryz.prog n_i_clausesFor [v, .agg x.cells.toArray] [] S (PostV S (posOf (fun c => eqPd (predT c.head) x) p 0)) := by
  intro w hI
  obtain ⟨xs, xn⟩ := x
  refine calls_i_clausesFor ?_
  unfold sh_i_clausesFor
  refine r_box hI fun b3 w' hI => ?_
  refine r_lenSl h sl_SiClause ?_
  refine ⟨fun i t w' => ∃ (k : Nat) (l : List Int), k ≤ p.length ∧ i = .int .i64 k ∧ l ++ posOf (fun c => eqPd (predT c.head) ⟨xs, xn⟩) (p.drop k) k = posOf (fun c => eqPd (predT c.head) ⟨xs, xn⟩) p 0 ∧ l.length ≤ k ∧
      Inv w [] [.blk b3 (.cells #[.string xs, .int .i64 xn] t_iPred), rowI t l] S w', fun i _ _ => p.length - (intOf i).toNat, ⟨0, [], Nat.zero_le _, rfl, rfl, Nat.le_refl _, hI.rowNil t_int 1⟩, ?_⟩
  intro t10 _ t5 _ _ _ _ t19 t18 t17 t16 t15 _ _ _ _ _ _ w'
  rintro ⟨k, l, hk, rfl, hrel, hl, hI⟩
  refine r_lss ?_
  refine condP (fun hki => ?_) (fun hki => ?_)
  · have hk' : k < p.length := by omega
    refine ⟨fun t w' => Inv w [] [.blk b3 (.cells #[.string xs, .int .i64 xn] t_iPred), rowI t (if eqPd (predT p[k].head) ⟨xs, xn⟩ = true then l ++ [(k : Int)] else l)] S w', ?_, ?_⟩
    · refine r_elem hI h sl_SiClause ag_iClause hk' (fun _ _ => RdC.length) fun cs hcs => ?_
      obtain ⟨hd, ks, rfl, h1, h2⟩ := hcs
      have h1' := h1
      obtain ⟨kv, rfl, _, _, hs, hks⟩ := RdT.iff.1 h1
      have hkv : kv.oneCell' = true ∧ ks.oneCell' = true := by
        obtain ⟨a, cap, rfl, _⟩ := hks
        obtain ⟨a, cap, rfl, _⟩ := h2
        exact ⟨rfl, rfl⟩
      refine r_alloc hI zo_iClause fun b7 w' hI => ?_
      refine r_storeW hI 2 rfl ag_iClause rfl rfl (by
        intro u hu
        have hu' : u ∈ ([.int .i64 p[k].head.kind, .int .i64 p[k].head.n, .string p[k].head.name, kv, ks] : List Value) := hu
        simp at hu'
        rcases hu' with rfl | rfl | rfl | rfl | rfl <;> first | rfl | exact hkv.1 | exact hkv.2) fun w' hI => ?_
      have hI : Inv w [] [.blk b3 (.cells #[.string xs, .int .i64 xn] t_iPred), rowI t5 l, .blk b7 (.cells #[.int .i64 p[k].head.kind, .int .i64 p[k].head.n, .string p[k].head.name, kv, ks] t_iClause)] S w' := hI
      refine ⟨fun D x19 x18 x17 x16 x15 w_ => (D 0 = true → x15 = .pointer (some ⟨b7, 0, none⟩)) ∧ (D 1 = true → x16 = .agg #[.int .i64 p[k].head.kind, .int .i64 p[k].head.n, .string p[k].head.name, kv]) ∧ (D 2 = true → x17 = .agg #[.string p[k].head.name, .int .i64 p[k].head.kids.length]) ∧ (D 3 = true → x18 = .agg #[.string xs, .int .i64 xn]) ∧ (D 4 = true → x19 = .bool (eqPd (predT p[k].head) ⟨xs, xn⟩)) ∧ Inv w [] [.blk b3 (.cells #[.string xs, .int .i64 xn] t_iPred), rowI t5 l, .blk b7 (.cells #[.int .i64 p[k].head.kind, .int .i64 p[k].head.n, .string p[k].head.name, kv, ks] t_iClause)] S w_, ⟨fun h => Bool.noConfusion h, fun h => Bool.noConfusion h, fun h => Bool.noConfusion h, fun h => Bool.noConfusion h, fun h => Bool.noConfusion h, hI.draw⟩, ⟨?_, ?_, ?_, ?_, ?_, trivial⟩, ?_⟩
      · intro D hD_  x19 x18 x17 x16 x15 w_
        rintro ⟨h0_, h1_, h2_, h3_, h4_, hI⟩
        refine r_field fo_iClause_0 ?_
        exact ⟨fun _ => rfl, h1_, h2_, h3_, h4_, hI⟩
      · intro D hD_ d0_0 x19 x18 x17 x16 x15 w_
        rintro ⟨h0_, h1_, h2_, h3_, h4_, hI⟩
        obtain rfl := h0_ d0_0
        refine r_loadLA hI 2 [.int .i64 p[k].head.kind, .int .i64 p[k].head.n, .string p[k].head.name, kv] ag_iTerm rfl rfl sub4 ?_
        exact ⟨h0_, fun _ => rfl, h2_, h3_, h4_, hI⟩
      · intro D hD_ d1_0 x19 x18 x17 x16 x15 w_
        rintro ⟨h0_, h1_, h2_, h3_, h4_, hI⟩
        obtain rfl := h1_ d1_0
        refine Run.callPure fn_i_pred nm_i_pred hI (i_pred_calls h1') fun w_ hI => ?_
        exact ⟨h0_, h1_, fun _ => rfl, h3_, h4_, hI⟩
      · intro D hD_  x19 x18 x17 x16 x15 w_
        rintro ⟨h0_, h1_, h2_, h3_, h4_, hI⟩
        refine r_loadW hI 0 ag_iPred rfl rfl ?_
        exact ⟨h0_, h1_, h2_, fun _ => rfl, h4_, hI⟩
      · intro D hD_ d2_0 d3_1 x19 x18 x17 x16 x15 w_
        rintro ⟨h0_, h1_, h2_, h3_, h4_, hI⟩
        obtain rfl := h2_ d2_0
        obtain rfl := h3_ d3_1
        refine r_peql ?_
        exact ⟨h0_, h1_, h2_, h3_, fun _ => rfl, hI⟩
      intro D d4_ d3_ d2_ d1_ d0_ x19 x18 x17 x16 x15 w_
      rintro ⟨h0_, h1_, h2_, h3_, h4_, hI⟩
      obtain rfl := h4_ d4_
      obtain rfl := h3_ d3_
      obtain rfl := h2_ d2_
      obtain rfl := h1_ d1_
      obtain rfl := h0_ d0_
      clear h0_ h1_ h2_ h3_ h4_
      refine condV (fun hb => ?_) (fun hb => ?_)
      · refine r_slice1 hI mk_Sint rfl (by omega) (by omega) fun b w' hI => ?_
        refine r_append hI 1 (k := 1) [.int .i64 k] mk_Sint (by omega) rfl rfl ?_ ?_ (by omega) (by omega) fun v' w' hI => ?_
        · intro j u hj
          rw [hI.cellL (i := 3) rfl]
          match j with
          | 0 => simpa [Value.cells] using hj
          | j + 1 => simp at hj
        · simp [Value.oneCell']
        · rw [ints_snoc] at hI
          have hI := hI.pick [true, true, false, false]
          rw [if_pos hb]
          have e : Item.row v' t_int 1 (l.length + 1) (ints (l ++ [(k : Int)])) = rowI v' (l ++ [(k : Int)]) := by simp [rowI]
          rw [show List.length l + 1 = l.length + 1 from rfl, e] at hI
          exact hI
      · rw [if_neg (by rw [hb]; decide)]
        exact hI.pick [true, true, false]
    intro t5 _ _ _ _ _ _ _ _ _ _ _ _ _ _ w' hI
    refine r_add (by omega) ?_
    refine ⟨⟨k + 1, _, hk', rfl, ?_, ?_, hI⟩, by simp [intOf]; omega⟩
    · rw [posOf_step (fun c => eqPd (predT c.head) ⟨xs, xn⟩) p k hk' l, hrel]
    · split
      · simp; omega
      · omega
  · have : k = p.length := by omega
    subst this
    rw [List.drop_length, posOf, List.append_nil] at hrel
    subst hrel
    exact ⟨_, _, _, rfl, hI.pick [false, true], Ext.refl _ _ _, rfl, rfl⟩

end Go.Proofs.YtmnnpgdeecnfpaaGreat

/- Lists of predicates: asked and grown, on both sides. -/
namespace Go.Proofs.YtmnnpgdeecnfpaaGreat
open Go Go.RowKit
attribute [local irreducible] Run CondV GuardV LoadV

def pds (l : List Pd) : List Value := l.flatMap Pd.cells
abbrev rowP (v : Value) (l : List Pd) : Item := .row v t_iPred 2 l.length (pds l)
theorem pds_snoc (l : List Pd) (x : Pd) : pds l ++ x.cells = pds (l ++ [x]) := by simp [pds]
theorem RowRd.preds {S : Store} {v : Value} {e : TypeId} {l : List Pd} (h : RowRd S v e 2 l.length (pds l)) : RdSl S 2 RdPd v l :=
  RowRd.rd (f := Pd.cells) (fun _ => rfl) (fun _ _ => rfl) h
def hasP (l : List Pd) (x : Pd) : Bool := l.any fun y => eqPd x y
def addP (l : List Pd) (x : Pd) : List Pd := if hasP l x = true then l else l ++ [x]
theorem eqPd_comm (x y : Pd) : eqPd x y = eqPd y x := by
  rw [eqPd_iff, eqPd_iff, Bool.eq_iff_iff]
  simp only [decide_eq_true_eq]
  exact ⟨Eq.symm, Eq.symm⟩

theorem l14Has_calls (x : Pd) {l : List Pd} {S : Store} {v : Value} (h : RdSl S 2 RdPd v l) : Pure Tryz.prog n_s_l14Has [v, .agg x.cells.toArray] S (.bool (hasP l x)) := by
  intro w hI
  have hlen := h.le
  simp only [maxLen] at hlen
  obtain ⟨xs, xn⟩ := x
  refine calls_s_l14Has ?_
  unfold sh_s_l14Has
  refine r_box hI fun b3 w' hI => ?_
  have hI : Inv w [] [.blk b3 (.cells #[.string xs, .int .i64 xn] t_iPred)] S w' := hI
  refine ⟨fun i w' => ∃ k : Nat, k ≤ l.length ∧ i = .int .i64 k ∧ hasP (l.drop k) ⟨xs, xn⟩ = hasP l ⟨xs, xn⟩ ∧ Inv w [] [.blk b3 (.cells #[.string xs, .int .i64 xn] t_iPred)] S w', fun i _ => l.length - (intOf i).toNat, ⟨0, Nat.zero_le _, rfl, rfl, hI⟩, ?_⟩
  intro t5 _ _ _ t17 t16 t15 t14 t13 t12 _ _ _ _ w'
  rintro ⟨k, hk, rfl, hrel, hI⟩
  refine r_lenSl h sl_SiPred ?_
  refine r_lss ?_
  refine condP (fun hki => ?_) (fun hki => ?_)
  · have hk' : k < l.length := by omega
    have hstep : hasP (l.drop k) ⟨xs, xn⟩ = (eqPd ⟨xs, xn⟩ l[k] || hasP (l.drop (k + 1)) ⟨xs, xn⟩) := any_drop _ l k hk'
    obtain ⟨b, o, cap, c, E, fz, rfl, hS, hR⟩ := h.at_ hk'
    have hR' : cellsAt c (o + k * 2) 2 = [.string l[k].name, .int .i64 l[k].arity] := hR
    refine ⟨fun D x17 x16 x15 x14 x13 x12 w_ => (D 0 = true → x12 = .slice (some ⟨b, o, none⟩) l.length cap) ∧ (D 1 = true → x13 = .int .i64 k) ∧ (D 2 = true → x14 = .pointer (some ⟨b, o + k * 2, none⟩)) ∧ (D 3 = true → x15 = .agg #[.string l[k].name, .int .i64 l[k].arity]) ∧ (D 4 = true → x16 = .agg #[.string xs, .int .i64 xn]) ∧ (D 5 = true → x17 = .bool (eqPd l[k] ⟨xs, xn⟩)) ∧ Inv w [] [.blk b3 (.cells #[.string xs, .int .i64 xn] t_iPred)] S w_, ⟨fun h => Bool.noConfusion h, fun h => Bool.noConfusion h, fun h => Bool.noConfusion h, fun h => Bool.noConfusion h, fun h => Bool.noConfusion h, fun h => Bool.noConfusion h, hI.draw⟩, ⟨?_, ?_, ?_, ?_, ?_, ?_, trivial⟩, ?_⟩
    · intro D hD_  x17 x16 x15 x14 x13 x12 w_
      rintro ⟨h0_, h1_, h2_, h3_, h4_, h5_, hI⟩
      exact ⟨fun _ => rfl, h1_, h2_, h3_, h4_, h5_, hI⟩
    · intro D hD_  x17 x16 x15 x14 x13 x12 w_
      rintro ⟨h0_, h1_, h2_, h3_, h4_, h5_, hI⟩
      exact ⟨h0_, fun _ => rfl, h2_, h3_, h4_, h5_, hI⟩
    · intro D hD_ d0_0 d1_1 x17 x16 x15 x14 x13 x12 w_
      rintro ⟨h0_, h1_, h2_, h3_, h4_, h5_, hI⟩
      obtain rfl := h0_ d0_0
      obtain rfl := h1_ d1_1
      refine r_indexAddr sl_SiPred hk' ?_
      exact ⟨h0_, h1_, fun _ => rfl, h3_, h4_, h5_, hI⟩
    · intro D hD_ d2_0 x17 x16 x15 x14 x13 x12 w_
      rintro ⟨h0_, h1_, h2_, h3_, h4_, h5_, hI⟩
      obtain rfl := h2_ d2_0
      refine r_loadA (cs := [.string l[k].name, .int .i64 l[k].arity]) ag_iPred rfl (fun j v hj => by rw [hI.cellS hS]; exact cellsAt_get hR' j v hj) ?_
      exact ⟨h0_, h1_, h2_, fun _ => rfl, h4_, h5_, hI⟩
    · intro D hD_  x17 x16 x15 x14 x13 x12 w_
      rintro ⟨h0_, h1_, h2_, h3_, h4_, h5_, hI⟩
      refine r_loadW hI 0 ag_iPred rfl rfl ?_
      exact ⟨h0_, h1_, h2_, h3_, fun _ => rfl, h5_, hI⟩
    · intro D hD_ d3_0 d4_1 x17 x16 x15 x14 x13 x12 w_
      rintro ⟨h0_, h1_, h2_, h3_, h4_, h5_, hI⟩
      obtain rfl := h3_ d3_0
      obtain rfl := h4_ d4_1
      refine r_peql ?_
      exact ⟨h0_, h1_, h2_, h3_, h4_, fun _ => rfl, hI⟩
    intro D d5_ d4_ d3_ d2_ d1_ d0_ x17 x16 x15 x14 x13 x12 w_
    rintro ⟨h0_, h1_, h2_, h3_, h4_, h5_, hI⟩
    obtain rfl := h5_ d5_
    obtain rfl := h4_ d4_
    obtain rfl := h3_ d3_
    obtain rfl := h2_ d2_
    obtain rfl := h1_ d1_
    obtain rfl := h0_ d0_
    clear h0_ h1_ h2_ h3_ h4_ h5_
    refine condV (fun hb => done hI ?_) (fun hb => ?_)
    · rw [← hrel, hstep, eqPd_comm, hb]; rfl
    · refine r_add (by omega) ?_
      exact ⟨⟨k + 1, hk', rfl, by rw [← hrel, hstep, eqPd_comm, hb]; rfl, hI⟩, by simp [intOf]; omega⟩
  · have : k = l.length := by omega
    subst this
    exact done hI (by rw [← hrel, List.drop_length]; rfl)
theorem Index_Pred_calls (x : Pd) {l : List Pd} {S : Store} {v : Value} (h : RdSl S 2 RdPd v l) :
    Pure Tryz.prog n_x_Index_Pred [v, .agg x.cells.toArray] S (.int .i64 (indexF (σ := Unit) (fun _ y => (eqPd x y, ())) () l 0).1) := by
  intro w hI
  have hlen := h.le
  simp only [maxLen] at hlen
  obtain ⟨xs, xn⟩ := x
  refine calls_x_Index_Pred ?_
  unfold sh_x_Index_Pred
  refine r_box hI fun b3 w' hI => ?_
  have hI : Inv w [] [.blk b3 (.cells #[.string xs, .int .i64 xn] t_iPred)] S w' := hI
  refine r_lenSl h sl_SiPred ?_
  refine ⟨fun i w' => ∃ k : Nat, k ≤ l.length ∧ i = .int .i64 k ∧ indexF (σ := Unit) (fun _ y => (eqPd ⟨xs, xn⟩ y, ())) () (l.drop k) k = indexF (σ := Unit) (fun _ y => (eqPd ⟨xs, xn⟩ y, ())) () l 0 ∧ Inv w [] [.blk b3 (.cells #[.string xs, .int .i64 xn] t_iPred)] S w',
    fun i _ => l.length - (intOf i).toNat, ⟨0, Nat.zero_le _, rfl, rfl, hI⟩, ?_⟩
  intro t8 _ _ _ t16 t15 t14 t13 t12 t11 _ _ _ w'
  rintro ⟨k, hk, rfl, hrel, hI⟩
  refine r_lss ?_
  refine condP (fun hki => ?_) (fun hki => ?_)
  · have hk' : k < l.length := by omega
    rw [List.drop_eq_getElem_cons hk', indexF] at hrel
    obtain ⟨b, o, cap, c, E, fz, rfl, hS, hR⟩ := h.at_ hk'
    have hR' : cellsAt c (o + k * 2) 2 = [.string l[k].name, .int .i64 l[k].arity] := hR
    refine ⟨fun D x16 x15 x14 x13 x12 x11 w_ => (D 0 = true → x11 = .agg #[.string xs, .int .i64 xn]) ∧ (D 1 = true → x12 = .slice (some ⟨b, o, none⟩) l.length cap) ∧ (D 2 = true → x13 = .int .i64 k) ∧ (D 3 = true → x14 = .pointer (some ⟨b, o + k * 2, none⟩)) ∧ (D 4 = true → x15 = .agg #[.string l[k].name, .int .i64 l[k].arity]) ∧ (D 5 = true → x16 = .bool (eqPd ⟨xs, xn⟩ l[k])) ∧ Inv w [] [.blk b3 (.cells #[.string xs, .int .i64 xn] t_iPred)] S w_, ⟨fun h => Bool.noConfusion h, fun h => Bool.noConfusion h, fun h => Bool.noConfusion h, fun h => Bool.noConfusion h, fun h => Bool.noConfusion h, fun h => Bool.noConfusion h, hI.draw⟩, ⟨?_, ?_, ?_, ?_, ?_, ?_, trivial⟩, ?_⟩
    · intro D hD_  x16 x15 x14 x13 x12 x11 w_
      rintro ⟨h0_, h1_, h2_, h3_, h4_, h5_, hI⟩
      refine r_loadW hI 0 ag_iPred rfl rfl ?_
      exact ⟨fun _ => rfl, h1_, h2_, h3_, h4_, h5_, hI⟩
    · intro D hD_  x16 x15 x14 x13 x12 x11 w_
      rintro ⟨h0_, h1_, h2_, h3_, h4_, h5_, hI⟩
      exact ⟨h0_, fun _ => rfl, h2_, h3_, h4_, h5_, hI⟩
    · intro D hD_  x16 x15 x14 x13 x12 x11 w_
      rintro ⟨h0_, h1_, h2_, h3_, h4_, h5_, hI⟩
      exact ⟨h0_, h1_, fun _ => rfl, h3_, h4_, h5_, hI⟩
    · intro D hD_ d1_0 d2_1 x16 x15 x14 x13 x12 x11 w_
      rintro ⟨h0_, h1_, h2_, h3_, h4_, h5_, hI⟩
      obtain rfl := h1_ d1_0
      obtain rfl := h2_ d2_1
      refine r_indexAddr sl_SiPred hk' ?_
      exact ⟨h0_, h1_, h2_, fun _ => rfl, h4_, h5_, hI⟩
    · intro D hD_ d3_0 x16 x15 x14 x13 x12 x11 w_
      rintro ⟨h0_, h1_, h2_, h3_, h4_, h5_, hI⟩
      obtain rfl := h3_ d3_0
      refine r_loadA (cs := [.string l[k].name, .int .i64 l[k].arity]) ag_iPred rfl (fun j v hj => by rw [hI.cellS hS]; exact cellsAt_get hR' j v hj) ?_
      exact ⟨h0_, h1_, h2_, h3_, fun _ => rfl, h5_, hI⟩
    · intro D hD_ d0_0 d4_1 x16 x15 x14 x13 x12 x11 w_
      rintro ⟨h0_, h1_, h2_, h3_, h4_, h5_, hI⟩
      obtain rfl := h0_ d0_0
      obtain rfl := h4_ d4_1
      refine r_peql ?_
      exact ⟨h0_, h1_, h2_, h3_, h4_, fun _ => rfl, hI⟩
    intro D d5_ d4_ d3_ d2_ d1_ d0_ x16 x15 x14 x13 x12 x11 w_
    rintro ⟨h0_, h1_, h2_, h3_, h4_, h5_, hI⟩
    obtain rfl := h5_ d5_
    obtain rfl := h4_ d4_
    obtain rfl := h3_ d3_
    obtain rfl := h2_ d2_
    obtain rfl := h1_ d1_
    obtain rfl := h0_ d0_
    clear h0_ h1_ h2_ h3_ h4_ h5_
    refine condV (fun he => done hI ?_) (fun he => ?_)
    · rw [← hrel, if_pos (by simpa using he)]
    · refine r_add (by omega) ?_
      rw [if_neg (by simpa using he)] at hrel
      exact ⟨⟨k + 1, hk', rfl, hrel, hI⟩, by simp [intOf]; omega⟩
  · have : k = l.length := by omega
    subst this
    rw [List.drop_length, indexF] at hrel
    exact done hI (by rw [← hrel])
theorem Contains_Pred_calls (x : Pd) {l : List Pd} {S : Store} {v : Value} (h : RdSl S 2 RdPd v l) : Pure Tryz.prog n_x_Contains_Pred [v, .agg x.cells.toArray] S (.bool (hasP l x)) := by
  intro w hI
  obtain ⟨xs, xn⟩ := x
  refine calls_x_Contains_Pred ?_
  unfold sh_x_Contains_Pred
  refine r_box hI fun b3 w' hI => ?_
  refine r_loadW hI 0 ag_iPred rfl rfl ?_
  refine Run.callPure fn_x_Index_Pred nm_x_Index_Pred hI (Index_Pred_calls ⟨xs, xn⟩ h) fun w' hI => ?_
  refine r_geq (done hI ?_)
  rw [(indexF_any _ l () 0).1, anyF_pure]; rfl
abbrev PostP (S : Store) (r : List Pd) : Value → List Item → Store → Prop := fun v I' S' => I' = [rowP v r] ∧ S' = S
theorem addPred_calls (x : Pd) (l : List Pd) (v : Value) (S : Store) (hl : l.length ≤ 1000000000) : Tri Tryz.prog n_i_addPred [v, .agg x.cells.toArray] [rowP v l] S (PostP S (addP l x)) := by
  intro w hI
  obtain ⟨xs, xn⟩ := x
  refine calls_i_addPred ?_
  unfold sh_i_addPred
  refine r_box hI fun b3 w' hI => ?_
  have hI := hI.perm (M := [.blk b3 (.cells #[.string xs, .int .i64 xn] t_iPred), rowP v l]) (List.Perm.swap _ _ _)
  refine r_loadW hI 0 ag_iPred rfl rfl ?_
  obtain ⟨S1, hle, hrd, hI, hback⟩ := Inv.lend (A := [_]) hI
  refine Run.callPure fn_x_Contains_Pred nm_x_Contains_Pred hI (Contains_Pred_calls ⟨xs, xn⟩ hrd.preds) fun w' hI => ?_
  have hI := hback _ _ hI
  refine condV (fun hb => ?_) (fun hb => ?_)
  · rw [addP, if_pos hb]
    exact ⟨_, _, _, rfl, Inv.pick hI [false, true], Ext.refl _ _ _, rfl, rfl⟩
  · rw [addP, if_neg (by rw [hb]; decide)]
    refine r_loadW hI 0 ag_iPred rfl rfl ?_
    refine r_slice1 hI mk_SiPred rfl (by omega) (by omega) fun b w' hI => ?_
    refine r_append hI 1 (k := 2) [.string xs, .int .i64 xn] mk_SiPred (by omega) rfl rfl ?_ ?_ (by omega) (by omega) fun v' w' hI => ?_
    · intro j u hj
      rw [hI.cellL (i := 2) rfl]
      match j with
      | 0 | 1 => simpa [Value.cells] using hj
      | j + 2 => simp at hj
    · simp [Value.oneCell']
    · have hI := hI.pick [false, true, false]
      have e : Item.row v' t_iPred 2 (l.length + 1) (pds l ++ [.string xs, .int .i64 xn]) = rowP v' (l ++ [⟨xs, xn⟩]) := by
        rw [show ([.string xs, .int .i64 xn] : List Value) = Pd.cells ⟨xs, xn⟩ from rfl, pds_snoc]; simp [rowP]
      refine ⟨_, _, _, rfl, hI, Ext.refl _ _ _, ?_, rfl⟩
      show [Item.row v' t_iPred 2 (l.length + 1) (pds l ++ [.string xs, .int .i64 xn])] = _
      rw [e]

end Go.Proofs.YtmnnpgdeecnfpaaGreat

/- Marks in rows of predicates; trees lent and taken back. -/
namespace Go.Proofs.YtmnnpgdeecnfpaaGreat
open Go Go.RowKit

/- a tree of the function's own, handed to readers, and taken back -/
/- a row seen as its block -/
theorem Inv.openRow {w0 w : World} {X : List Nat} {A : List Item} {S : Store} {v : Value} {e : TypeId} {k n : Nat} {xs : List Value} (h : Inv w0 X (A ++ [.row v e k n xs]) S w) :
    xs.length = n * k ∧ ((v = .slice none 0 0 ∧ n = 0) ∨ ∃ g cap cur, v = .slice (some ⟨g, 0, none⟩) n cap ∧ n ≤ cap ∧ cap ≤ maxLen ∧ cur.size = cap * k ∧ cur.toList.take (n * k) = xs ∧ Inv w0 X (A ++ [.blk g (.cells cur e)]) S w) := by
  have hm : w.ownsRow 0 e k v n xs := h.its (.row v e k n xs) (by simp)
  obtain ⟨hl, hm⟩ := hm
  refine ⟨hl, ?_⟩
  rcases hm with hn | ⟨g, cap, cur, rfl, _, hg, hnc, hcm, hcs, ht⟩
  · exact .inl hn
  · have hf : feet (A ++ [Item.blk g (.cells cur e)]) = feet (A ++ [Item.row (.slice (some ⟨g, 0, none⟩) n cap) e k n xs]) := by
      simp [feet, Item.foot, Value.ownBlock]
    refine .inr ⟨g, cap, cur, rfl, hnc, hcm, hcs, ht, h.size, h.os, h.tape, h.output, h.old, fun it hit => ?_, by rw [hf]; exact h.nd, by rw [hf]; exact h.new, by rw [hf]; exact h.pub⟩
    rcases List.mem_append.1 hit with hit | hit
    · exact h.its it (List.mem_append_left _ hit)
    · simp at hit
      subst hit
      exact hg
section
attribute [local irreducible] Run CondV GuardV LoadV
end

end Go.Proofs.YtmnnpgdeecnfpaaGreat

/- Trees grown by append; impl.own and its kin. -/
namespace Go.Proofs.YtmnnpgdeecnfpaaGreat
open Go Go.RowKit

structure Grown {α : Type} (k : Nat) (R : Heaplet → List Value → α → Prop) (Ls : List Heaplet) (css : List (List Value)) (ys : List α) : Prop where
  hL : Ls.length = ys.length
  hc : css.length = ys.length
  hk : ∀ cs ∈ css, cs.length = k
  hR : ∀ i (h : i < ys.length) (h1 : i < Ls.length) (h2 : i < css.length), R Ls[i] css[i] ys[i]
theorem Grown.nil {α : Type} (k : Nat) (R : Heaplet → List Value → α → Prop) : Grown k R [] [] ([] : List α) := ⟨rfl, rfl, by simp, fun i h => by simp at h⟩
theorem Grown.snoc {α : Type} {k : Nat} {R : Heaplet → List Value → α → Prop} {Ls : List Heaplet} {css : List (List Value)} {ys : List α} (h : Grown k R Ls css ys) {L : Heaplet} {cs : List Value} {y : α} (hR : R L cs y) (hl : cs.length = k) :
    Grown k R (Ls ++ [L]) (css ++ [cs]) (ys ++ [y]) := by
  refine ⟨by simp [h.hL], by simp [h.hc], fun c hc => ?_, fun i h0 h1 h2 => ?_⟩
  · rcases List.mem_append.1 hc with hc | hc
    · exact h.hk c hc
    · simp at hc; subst hc; exact hl
  · have e1 := h.hL
    have e2 := h.hc
    by_cases hi : i < ys.length
    · rw [List.getElem_append_left (by omega), List.getElem_append_left (by omega), List.getElem_append_left hi]
      exact h.hR i hi (by omega) (by omega)
    · have : i = ys.length := by simp at h0; omega
      subst this
      rw [List.getElem_append_right (by omega), List.getElem_append_right (by omega), List.getElem_append_right (by omega)]
      simp only [e1, e2, Nat.sub_self, List.getElem_cons_zero]
      exact hR
theorem flatten_at (k : Nat) : ∀ (css : List (List Value)) (i : Nat) (_ : ∀ cs ∈ css, cs.length = k) (h : i < css.length), (css.flatten.drop (i * k)).take k = css[i]
  | [], i, _, h => by simp at h
  | c :: css, 0, hk, _ => by
    have := hk c (List.mem_cons_self ..)
    rw [List.flatten_cons, Nat.zero_mul, List.drop_zero, List.take_append_of_le_length (by omega), List.take_of_length_le (by omega)]
    rfl
  | c :: css, i + 1, hk, h => by
    have := hk c (List.mem_cons_self ..)
    rw [List.flatten_cons, Nat.succ_mul, Nat.add_comm, ← List.drop_drop, List.drop_left' this]
    exact flatten_at k css i (fun cs hc => hk cs (List.mem_cons_of_mem _ hc)) (by simpa using h)
abbrev rowG (v : Value) (e : TypeId) (k : Nat) (css : List (List Value)) : Item := .row v e k css.length css.flatten
theorem Inv.rowTree {α : Type} {w0 w : World} {X : List Nat} {A : List Item} {S : Store} {v : Value} {e : TypeId} {k : Nat} {R : Heaplet → List Value → α → Prop} {Ls : List Heaplet} {css : List (List Value)} {ys : List α}
    (h : Inv w0 X (A ++ (rowG v e k css :: blks Ls.flatten)) S w) (hg : Grown k R Ls css ys) : ∃ L, TrSl k R L v ys ∧ Inv w0 X (A ++ blks L) S w := by
  have hp : List.Perm ((A ++ blks Ls.flatten) ++ [rowG v e k css]) (A ++ (rowG v e k css :: blks Ls.flatten)) := by
    rw [List.append_assoc]
    exact List.Perm.append_left _ List.perm_append_comm
  obtain ⟨hl, ho⟩ := (h.perm hp).openRow
  have hcy := hg.hc
  have hLy := hg.hL
  rcases ho with ⟨rfl, h0⟩ | ⟨g, cap, cur, rfl, hnc, hcm, hcs, ht, hI⟩
  · have : ys = [] := List.eq_nil_of_length_eq_zero (by omega)
    subst this
    refine ⟨[], TrSl.nil (by simp [maxLen]), ?_⟩
    simpa [blks] using h.sub (List.sublist_append_left _ _)
  · by_cases hy : ys = []
    · subst hy
      have : css = [] := List.eq_nil_of_length_eq_zero (by simpa using hcy)
      subst this
      refine ⟨[], TrSl.nil hcm, ?_⟩
      simpa [blks] using h.sub (List.sublist_append_left _ _)
    · refine ⟨(g, .cells cur e) :: Ls.flatten, ⟨_, cap, by rw [hcy], by omega, hcm, .inr ⟨g, cur, e, Ls, rfl, rfl, hLy, by omega, fun i h1 h2 => ?_⟩⟩, ?_⟩
      · have hik : i * k + k ≤ css.length * k := by rw [← Nat.succ_mul]; exact Nat.mul_le_mul_right k (by omega)
        have := flatten_at k css i hg.hk (by omega)
        rw [← ht, List.drop_take, List.take_take, Nat.min_eq_left (by omega)] at this
        rw [cellsAt, this]
        exact hg.hR i h1 h2 (by omega)
      · refine hI.perm ?_
        rw [List.append_assoc]
        exact List.Perm.append_left _ (List.perm_append_comm (l₁ := [Item.blk g (.cells cur e)]))
theorem rowG_snoc (v : Value) (e : TypeId) (k : Nat) (css : List (List Value)) (cs : List Value) : Item.row v e k (css.length + 1) (css.flatten ++ cs) = rowG v e k (css ++ [cs]) := by
  simp [rowG]
section
variable {P : Program} {w w0 : World} {X : List Nat} {L : List Item} {S : Store} {K : Value → World → Prop}
attribute [local irreducible] Run CondV GuardV LoadV
/- append(row, x): x is put into a block of its own first -/
theorem r_append1 (h : Inv w0 X L S w) {T ty e : TypeId} {k by_ : Nat} {z v : Value} {cs : List Bool} {css : List (List Value)} (i : Nat) (xs : List Value)
    (hT : mkOf P T = some (e, k, by_, z)) (hk0 : 0 < k) (hk24 : k ≤ 65536) (hi : L[i]? = some (rowG v e k css)) (hl : xs.length = k) (h1 : ∀ u ∈ xs, u.oneCell' = true) (hfit : css.length + 1 ≤ 4294967296) (hby : by_ ≤ 32768)
    (hk : ∀ v' w', Inv w0 X (L.set i (rowG v' e k (css ++ [xs]))) S w' → K v' w') :
    Run P (sBuildSlice T 1 [(0, .agg xs.toArray)]) w fun u w' => Run P (sBuiltin .append #[T, T] ty cs [v, u]) w' K := by
  refine r_slice1 h hT (by simp [Value.cells, hl]) hk24 hk0 fun b w' hI => ?_
  have hil : i < L.length := (List.getElem?_eq_some_iff.1 hi).1
  refine r_append hI i xs hT hk0 (by rw [List.getElem?_append_left hil]; exact hi) (by omega) (m := 1) (o := 0) ?_ h1 hfit hby fun v' w' hI => ?_
  · intro j u hj
    rw [hI.cellL (i := L.length) (by rw [List.getElem?_append_right (Nat.le_refl _), Nat.sub_self]; rfl)]
    rw [Nat.zero_add]
    simpa [Value.cells] using hj
  · refine hk _ _ ?_
    rw [← rowG_snoc]
    rw [List.set_append_left _ _ hil] at hI
    exact hI.sub (List.sublist_append_left _ _)
end

section
attribute [local irreducible] Run CondV GuardV LoadV
end

end Go.Proofs.YtmnnpgdeecnfpaaGreat

/- impl.ownClause, impl.ownProgram. -/
namespace Go.Proofs.YtmnnpgdeecnfpaaGreat
open Go Go.RowKit
section
variable {w : World} {K : Value → World → Prop}
attribute [local irreducible] Run
theorem r_buildHead {a b : Int} {s : ByteArray} {k : Value} (hk : K (.agg #[.int .i64 a, .int .i64 b, .string s, k, .slice none 0 0]) w) : Run Tryz.prog (sBuild t_iClause [(0, .agg #[.int .i64 a, .int .i64 b, .string s, k])]) w K := by
  refine Run.of (v := .agg #[.int .i64 a, .int .i64 b, .string s, k, .slice none 0 0]) (w' := w) ?_ hk
  unfold sBuild
  rw [Sem.run_bind, run_build w t_iClause _ #[.int .i64 a, .int .i64 b, .string s, k, .slice none 0 0] (by kernel_rfl), Result.andThen_ok]
  rfl
theorem r_buildTerm {a b : Int} {s : ByteArray} (hk : K (.agg #[.int .i64 a, .int .i64 b, .string s, .slice none 0 0]) w) : Run Tryz.prog (sBuild t_iTerm [(0, .int .i64 a), (1, .int .i64 b), (2, .string s)]) w K := by
  refine Run.of (v := .agg #[.int .i64 a, .int .i64 b, .string s, .slice none 0 0]) (w' := w) ?_ hk
  unfold sBuild
  rw [Sem.run_bind, run_build w t_iTerm _ #[.int .i64 a, .int .i64 b, .string s, .slice none 0 0] (by kernel_rfl), Result.andThen_ok]
  rfl
end
section
attribute [local irreducible] Run CondV GuardV LoadV
end

end Go.Proofs.YtmnnpgdeecnfpaaGreat

/- Which terms are valid: the two ways of saying it, and that they agree. No program in sight. -/
import Derived.Test.YtnoieadimkgjcaaData
namespace Go.Proofs.Ytnoieadimkgjcaa
open Go

def signs : List ByteArray := [⟨#[43]⟩, ⟨#[45]⟩, ⟨#[42]⟩, ⟨#[47, 47]⟩, ⟨#[61]⟩, ⟨#[92, 61]⟩, ⟨#[61, 61]⟩, ⟨#[60]⟩, ⟨#[62]⟩, ⟨#[61, 60]⟩, ⟨#[62, 61]⟩, ⟨#[61, 58, 61]⟩, ⟨#[46]⟩, ⟨#[91, 93]⟩, ⟨#[33]⟩]
def lower (b : UInt8) : Bool := decide (97 ≤ b.toNat) && decide (b.toNat ≤ 122)
def lettersB (s : ByteArray) : Bool := s.data.toList.all lower
def wordB (s : ByteArray) : Bool := lettersB s && (decide (1 ≤ s.size) && decide (s.size ≤ 6))
def nameB (s : ByteArray) : Bool := wordB s || signs.any fun x => decide (x = s)
def emptyB : ByteArray := ⟨#[]⟩
def ownB (t : T) : Bool :=
  if t.kind = 1 then decide (0 ≤ t.n) && (decide (t.n ≤ 25) && (decide (t.name = emptyB) && decide (t.kids.length = 0)))
  else if t.kind = 2 then decide (-999 ≤ t.n) && (decide (t.n ≤ 999) && (decide (t.name = emptyB) && decide (t.kids.length = 0)))
  else if t.kind = 3 then decide (t.n = 0) && (nameB t.name && decide (t.kids.length ≤ 4))
  else false
mutual
def shapeT : T → Int → Bool
  | .mk k n s ks, d => if d < 1 then false else ownB (.mk k n s ks) && shapeL ks (d - 1)
def shapeL : List T → Int → Bool
  | [], _ => true
  | t :: ts, d => shapeT t d && shapeL ts d
end
mutual
def cntT : T → Int
  | .mk _ _ _ ks => 1 + cntL ks
def cntL : List T → Int
  | [] => 0
  | t :: ts => cntT t + cntL ts
end
/- the count that stops -/
mutual
def countT : T → Int → Int
  | .mk _ _ _ ks, most => countL ks 1 most
def countL : List T → Int → Int → Int
  | [], n, _ => n
  | t :: ts, n, most => if n ≤ most then countL ts (n + countT t (most - n)) most else n
end
def validB (t : T) : Bool := shapeT t 30 && decide (cntT t ≤ 120)

mutual
theorem cntT_pos : ∀ t : T, 1 ≤ cntT t
  | .mk _ _ _ ks => by simp only [cntT]; have := cntL_pos ks; omega
theorem cntL_pos : ∀ ts : List T, 0 ≤ cntL ts
  | [] => by simp [cntL]
  | t :: ts => by simp only [cntL]; have := cntT_pos t; have := cntL_pos ts; omega
end
mutual
theorem countT_eq : ∀ (t : T) (most : Int), 0 ≤ most → (cntT t ≤ most → countT t most = cntT t) ∧ (most < cntT t → most < countT t most ∧ countT t most ≤ cntT t)
  | .mk _ _ _ ks, most, h => by
    simp only [cntT, countT]
    have := countL_eq ks 1 most h (by omega)
    exact this
theorem countL_eq : ∀ (ts : List T) (n most : Int), 0 ≤ most → 1 ≤ n → (n + cntL ts ≤ most → countL ts n most = n + cntL ts) ∧ (most < n + cntL ts → most < countL ts n most ∧ countL ts n most ≤ n + cntL ts)
  | [], n, most, h, h1 => by
    simp only [cntL, countL]
    exact ⟨fun _ => by omega, fun _ => by omega⟩
  | t :: ts, n, most, h, h1 => by
    simp only [cntL, countL]
    have hp := cntT_pos t
    have hl := cntL_pos ts
    by_cases hn : n ≤ most
    · rw [if_pos hn]
      have ht := countT_eq t (most - n) (by omega)
      by_cases hc : cntT t ≤ most - n
      · rw [ht.1 hc]
        have hr := countL_eq ts (n + cntT t) most h (by omega)
        exact ⟨fun h2 => by rw [hr.1 (by omega)]; omega, fun h2 => by have := hr.2 (by omega); omega⟩
      · have h3 := ht.2 (by omega)
        have h4 : countL ts (n + countT t (most - n)) most = n + countT t (most - n) := by
          cases ts with
          | nil => rfl
          | cons u us => rw [countL, if_neg (by omega)]
        rw [h4]
        exact ⟨fun h2 => by omega, fun h2 => by omega⟩
    · rw [if_neg hn]
      exact ⟨fun h2 => by omega, fun h2 => by omega⟩
end
theorem countT_le (t : T) : decide (countT t 120 ≤ 120) = decide (cntT t ≤ 120) := by
  have h := countT_eq t 120 (by omega)
  by_cases hc : cntT t ≤ 120
  · rw [h.1 hc]
  · have := h.2 (by omega)
    rw [decide_eq_false (by omega), decide_eq_false hc]

/- the scan: it counts as it goes -/
mutual
def scanT : T → Int → Int → Bool × Int
  | .mk k n s ks, deep, c =>
    if 120 < c + 1 ∨ 30 < deep then (false, c + 1)
    else if k = 1 ∨ k = 2 then (ownB (.mk k n s ks), c + 1)
    else if k = 3 then (if ownB (.mk k n s ks) then scanL ks (deep + 1) (c + 1) else (false, c + 1))
    else (false, c + 1)
def scanL : List T → Int → Int → Bool × Int
  | [], _, c => (true, c)
  | t :: ts, deep, c => if (scanT t deep c).1 then scanL ts deep (scanT t deep c).2 else (false, (scanT t deep c).2)
end
theorem own_kids {k n : Int} {s : ByteArray} {ks : List T} (h : ownB (.mk k n s ks) = true) (hk : k = 1 ∨ k = 2) : ks = [] := by
  unfold ownB at h
  simp only [T.kind, T.n, T.name, T.kids] at h
  rcases hk with rfl | rfl <;> simp at h <;> exact h.2.2.2
theorem own_kind {k n : Int} {s : ByteArray} {ks : List T} (h : ownB (.mk k n s ks) = true) : k = 1 ∨ k = 2 ∨ k = 3 := by
  unfold ownB at h
  simp only [T.kind, T.n, T.name, T.kids] at h
  by_cases h1 : k = 1
  · exact .inl h1
  · by_cases h2 : k = 2
    · exact .inr (.inl h2)
    · by_cases h3 : k = 3
      · exact .inr (.inr h3)
      · simp [h1, h2, h3] at h
mutual
theorem scanT_eq : ∀ (t : T) (deep c : Int), (scanT t deep c).1 = (shapeT t (31 - deep) && decide (c + cntT t ≤ 120)) ∧ ((scanT t deep c).1 = true → (scanT t deep c).2 = c + cntT t)
  | .mk k n s ks, deep, c => by
    have hl := cntL_pos ks
    rw [show cntT (T.mk k n s ks) = 1 + cntL ks from rfl]
    simp only [scanT, shapeT]
    by_cases h1 : 120 < c + 1 ∨ 30 < deep
    · rw [if_pos h1]
      refine ⟨?_, fun h => by cases h⟩
      rcases h1 with h1 | h1
      · rw [decide_eq_false (show ¬ (c + (1 + cntL ks) ≤ 120) by omega), Bool.and_false]
      · rw [if_pos (show 31 - deep < 1 by omega)]; rfl
    · rw [if_neg h1, if_neg (show ¬ (31 - deep < 1) by omega)]
      by_cases h2 : k = 1 ∨ k = 2
      · rw [if_pos h2]
        cases ho : ownB (.mk k n s ks) with
        | false => exact ⟨rfl, fun h => by cases h⟩
        | true =>
          have := own_kids ho h2
          subst this
          rw [show cntL [] = 0 from rfl]
          simp only [shapeL, Bool.true_and]
          exact ⟨by rw [decide_eq_true (show c + (1 + 0) ≤ 120 by omega)], fun _ => by omega⟩
      · rw [if_neg h2]
        by_cases h3 : k = 3
        · rw [if_pos h3]
          cases ho : ownB (.mk k n s ks) with
          | false => exact ⟨rfl, fun h => by cases h⟩
          | true =>
            simp only [if_true, Bool.true_and]
            have := scanL_eq ks (deep + 1) (c + 1)
            rw [show 31 - (deep + 1) = 31 - deep - 1 by omega] at this
            rw [show c + (1 + cntL ks) = c + 1 + cntL ks by omega]
            refine ⟨?_, this.2⟩
            rw [this.1]
            cases ks with
            | nil => rw [show cntL [] = 0 from rfl, decide_eq_true (show c + 1 + 0 ≤ 120 by omega)]; rfl
            | cons t ts => simp
        · rw [if_neg h3]
          have ho : ownB (.mk k n s ks) = false := by
            rw [← Bool.not_eq_true]
            intro h
            rcases own_kind h with e | e | e
            · exact h2 (.inl e)
            · exact h2 (.inr e)
            · exact h3 e
          rw [ho]
          exact ⟨rfl, fun h => by cases h⟩
theorem scanL_eq : ∀ (ts : List T) (deep c : Int), (scanL ts deep c).1 = (shapeL ts (31 - deep) && (ts.isEmpty || decide (c + cntL ts ≤ 120))) ∧ ((scanL ts deep c).1 = true → (scanL ts deep c).2 = c + cntL ts)
  | [], deep, c => by simp [scanL, shapeL, cntL]
  | t :: ts, deep, c => by
    have ht := scanT_eq t deep c
    have hp := cntL_pos ts
    rw [show cntL (t :: ts) = cntT t + cntL ts from rfl]
    simp only [scanL, shapeL, List.isEmpty_cons, Bool.false_or]
    cases h1 : (scanT t deep c).1 with
    | false =>
      rw [h1] at ht
      have h2 := ht.1
      refine ⟨?_, fun h => by cases h⟩
      simp only [Bool.false_eq_true, if_false]
      cases hs : shapeT t (31 - deep) with
      | false => rfl
      | true =>
        rw [hs, Bool.true_and] at h2
        have : ¬ (c + cntT t ≤ 120) := of_decide_eq_false h2.symm
        rw [decide_eq_false (show ¬ (c + (cntT t + cntL ts) ≤ 120) by omega), Bool.and_false]
    | true =>
      rw [h1] at ht
      have h2 := ht.1
      have h3 := ht.2 rfl
      simp only [if_true]
      rw [h3]
      have hs : shapeT t (31 - deep) = true ∧ c + cntT t ≤ 120 := by
        have := h2.symm
        simpa using this
      have hl := scanL_eq ts deep (c + cntT t)
      rw [show c + (cntT t + cntL ts) = c + cntT t + cntL ts by omega]
      refine ⟨?_, hl.2⟩
      rw [hl.1, hs.1, Bool.true_and]
      cases ts with
      | nil => rw [show cntL [] = 0 from rfl, decide_eq_true (show c + cntT t + 0 ≤ 120 by omega)]; rfl
      | cons u us => simp
end
theorem scan_valid (t : T) : (scanT t 1 0).1 = validB t := by
  rw [(scanT_eq t 1 0).1, validB]
  simp

end Go.Proofs.Ytnoieadimkgjcaa

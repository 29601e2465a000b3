/- Plain laws on lists of predicates: who is in, nobody twice, reach is closed and least. No program in sight. -/
import Derived.Test.YtmnnpgdeecnfpaaGreatZPd7
import Derived.Test.YtmnnpgdeecnfpaaGreatZPd1
namespace Go.Proofs.YtmnnpgdeecnfpaaGreat
open Go Go.RowKit

theorem hasP_mem {l : List Pd} {x : Pd} : hasP l x = true ↔ x ∈ l := by
  simp [hasP, eqPd_iff]
theorem mem_addP {l : List Pd} {x y : Pd} : y ∈ addP l x ↔ y ∈ l ∨ y = x := by
  unfold addP
  split
  · rename_i h
    rw [hasP_mem] at h
    exact ⟨.inl, fun h' => h'.elim id fun e => e ▸ h⟩
  · simp
theorem nd_addP {l : List Pd} {x : Pd} (h : l.Nodup) : (addP l x).Nodup := by
  unfold addP
  split
  · exact h
  · rename_i hx
    rw [hasP_mem] at hx
    rw [List.nodup_append]
    refine ⟨h, by simp, fun a ha b hb e => ?_⟩
    simp at hb
    subst hb
    subst e
    exact hx ha
theorem addP_pre (l : List Pd) (x : Pd) : ∃ s, addP l x = l ++ s := by
  unfold addP
  split
  · exact ⟨[], by simp⟩
  · exact ⟨[x], rfl⟩
theorem mem_goalsP : ∀ (ts : List T) (l : List Pd) (y : Pd), y ∈ goalsP l ts ↔ y ∈ l ∨ ∃ t ∈ ts, plainB t = true ∧ predT t = y
  | [], l, y => by simp [goalsP]
  | t :: ts, l, y => by
    have e : goalsP l (t :: ts) = goalsP (if plainB t = true then addP l (predT t) else l) ts := rfl
    rw [e, mem_goalsP ts]
    split
    · rename_i h
      rw [mem_addP]
      constructor
      · rintro ((h1 | h1) | ⟨u, h1, h2⟩)
        · exact .inl h1
        · exact .inr ⟨t, List.mem_cons_self .., h, h1.symm⟩
        · exact .inr ⟨u, List.mem_cons_of_mem _ h1, h2⟩
      · rintro (h1 | ⟨u, h1, h2, h3⟩)
        · exact .inl (.inl h1)
        · rcases List.mem_cons.1 h1 with rfl | h1
          · exact .inl (.inr h3.symm)
          · exact .inr ⟨u, h1, h2, h3⟩
    · rename_i h
      constructor
      · rintro (h1 | ⟨u, h1, h2⟩)
        · exact .inl h1
        · exact .inr ⟨u, List.mem_cons_of_mem _ h1, h2⟩
      · rintro (h1 | ⟨u, h1, h2, h3⟩)
        · exact .inl h1
        · rcases List.mem_cons.1 h1 with rfl | h1
          · exact absurd h2 h
          · exact .inr ⟨u, h1, h2, h3⟩
theorem nd_goalsP : ∀ (ts : List T) (l : List Pd), l.Nodup → (goalsP l ts).Nodup
  | [], l, h => h
  | t :: ts, l, h => by
    have e : goalsP l (t :: ts) = goalsP (if plainB t = true then addP l (predT t) else l) ts := rfl
    rw [e]
    refine nd_goalsP ts _ ?_
    split
    · exact nd_addP h
    · exact h
theorem mem_callsFrom (x : Pd) : ∀ (p : List C) (l : List Pd) (y : Pd), y ∈ callsFrom l p x ↔ y ∈ l ∨ ∃ c ∈ p, predT c.head = x ∧ ∃ t ∈ c.body, plainB t = true ∧ predT t = y
  | [], l, y => by simp [callsFrom]
  | c :: p, l, y => by
    have e : callsFrom l (c :: p) x = callsFrom (if eqPd (predT c.head) x = true then goalsP l c.body else l) p x := rfl
    rw [e, mem_callsFrom x p]
    split
    · rename_i h
      rw [eqPd_iff, decide_eq_true_eq] at h
      rw [mem_goalsP]
      constructor
      · rintro ((h1 | h1) | ⟨u, h1, h2⟩)
        · exact .inl h1
        · exact .inr ⟨c, List.mem_cons_self .., h, h1⟩
        · exact .inr ⟨u, List.mem_cons_of_mem _ h1, h2⟩
      · rintro (h1 | ⟨u, h1, h2, h3⟩)
        · exact .inl (.inl h1)
        · rcases List.mem_cons.1 h1 with rfl | h1
          · exact .inl (.inr h3)
          · exact .inr ⟨u, h1, h2, h3⟩
    · rename_i h
      rw [eqPd_iff, decide_eq_true_eq] at h
      constructor
      · rintro (h1 | ⟨u, h1, h2⟩)
        · exact .inl h1
        · exact .inr ⟨u, List.mem_cons_of_mem _ h1, h2⟩
      · rintro (h1 | ⟨u, h1, h2, h3⟩)
        · exact .inl h1
        · rcases List.mem_cons.1 h1 with rfl | h1
          · exact absurd h2 h
          · exact .inr ⟨u, h1, h2, h3⟩
theorem nd_callsFrom (x : Pd) : ∀ (p : List C) (l : List Pd), l.Nodup → (callsFrom l p x).Nodup
  | [], l, h => h
  | c :: p, l, h => by
    have e : callsFrom l (c :: p) x = callsFrom (if eqPd (predT c.head) x = true then goalsP l c.body else l) p x := rfl
    rw [e]
    refine nd_callsFrom x p _ ?_
    split
    · exact nd_goalsP _ _ h
    · exact h
theorem mem_callsP {p : List C} {x y : Pd} : y ∈ callsP p x ↔ ∃ c ∈ p, predT c.head = x ∧ ∃ t ∈ c.body, plainB t = true ∧ predT t = y := by
  rw [callsP, mem_callsFrom]
  simp
theorem nd_callsP (p : List C) (x : Pd) : (callsP p x).Nodup := nd_callsFrom x p [] List.nodup_nil
/- reach -/
inductive Star (p : List C) (x : Pd) : Pd → Prop
  | refl : Star p x x
  | step {y z : Pd} : Star p x y → z ∈ callsP p y → Star p x z
theorem Star.trans {p : List C} {x y z : Pd} (h : Star p x y) (h' : Star p y z) : Star p x z := by
  induction h' with
  | refl => exact h
  | step _ hz ih => exact .step ih hz
theorem mem_addAll : ∀ (m l : List Pd) (y : Pd), y ∈ addAll l m ↔ y ∈ l ∨ y ∈ m
  | [], l, y => by simp [addAll]
  | x :: m, l, y => by
    have e : addAll l (x :: m) = addAll (addP l x) m := rfl
    rw [e, mem_addAll m, mem_addP, List.mem_cons]
    constructor
    · rintro ((h | h) | h)
      · exact .inl h
      · exact .inr (.inl h)
      · exact .inr (.inr h)
    · rintro (h | h | h)
      · exact .inl (.inl h)
      · exact .inl (.inr h)
      · exact .inr h
theorem nd_addAll : ∀ (m l : List Pd), l.Nodup → (addAll l m).Nodup
  | [], _, h => h
  | _ :: m, _, h => nd_addAll m _ (nd_addP h)
theorem pre_addAll : ∀ (m l : List Pd), ∃ s, addAll l m = l ++ s
  | [], l => ⟨[], by simp [addAll]⟩
  | x :: m, l => by
    obtain ⟨s, hs⟩ := addP_pre l x
    obtain ⟨s', hs'⟩ := pre_addAll m (addP l x)
    have e : addAll l (x :: m) = addAll (addP l x) m := rfl
    exact ⟨s ++ s', by rw [e, hs', hs, List.append_assoc]⟩
theorem pot_addAll {G : List Pd} : ∀ (m l : List Pd), (∀ x ∈ m, x ∈ G) → (addAll l m).length + pot G (addAll l m) ≤ l.length + pot G l
  | [], l, _ => Nat.le_refl _
  | x :: m, l, h => by
    have e : addAll l (x :: m) = addAll (addP l x) m := rfl
    have h1 := pot_addAll m (addP l x) fun y hy => h y (List.mem_cons_of_mem _ hy)
    have h2 := addP_pot (l := l) (h x (List.mem_cons_self ..))
    rw [e]
    omega
theorem reachF_spec (p : List C) : ∀ (n : Nat) (l : List Pd) (i : Nat), l.length + pot (gPs p) l ≤ n + i → (∀ j (h : j < l.length), j < i → ∀ z ∈ callsP p l[j], z ∈ l) → l.Nodup →
    (reachF n p l i).Nodup ∧ (∀ y ∈ reachF n p l i, ∃ x ∈ l, Star p x y) ∧ (∀ x ∈ l, x ∈ reachF n p l i) ∧ ∀ y ∈ reachF n p l i, ∀ z ∈ callsP p y, z ∈ reachF n p l i
  | 0, l, i, hn, hc, hd => by
    simp only [reachF]
    refine ⟨hd, fun y hy => ⟨y, hy, .refl⟩, fun x hx => hx, fun y hy z hz => ?_⟩
    obtain ⟨j, hj, rfl⟩ := List.mem_iff_getElem.1 hy
    exact hc j hj (by omega) z hz
  | n + 1, l, i, hn, hc, hd => by
    rw [reachF]
    split
    · rename_i hi
      have hp := pot_addAll (G := gPs p) (callsP p l[i]) l fun x hx => callsP_mem hx
      obtain ⟨s, hs⟩ := pre_addAll (callsP p l[i]) l
      obtain ⟨h1, h2, h3, h4⟩ := reachF_spec p n (addAll l (callsP p l[i])) (i + 1) (by omega) (fun j hj hji z hz => by
        rw [mem_addAll]
        have hjl : j < l.length := by omega
        have ej : (addAll l (callsP p l[i]))[j] = l[j] := by
          have : (addAll l (callsP p l[i]))[j]? = l[j]? := by rw [hs, List.getElem?_append_left hjl]
          rw [List.getElem?_eq_getElem hj, List.getElem?_eq_getElem hjl] at this
          exact Option.some.inj this
        rw [ej] at hz
        by_cases e : j = i
        · subst e; exact .inr hz
        · exact .inl (hc j hjl (by omega) z hz)) (nd_addAll _ _ hd)
      refine ⟨h1, fun y hy => ?_, fun x hx => h3 x ((mem_addAll _ _ _).2 (.inl hx)), h4⟩
      obtain ⟨x, hx, hxy⟩ := h2 y hy
      rcases (mem_addAll _ _ _).1 hx with hx | hx
      · exact ⟨x, hx, hxy⟩
      · exact ⟨l[i], List.getElem_mem hi, Star.trans (.step .refl hx) hxy⟩
    · refine ⟨hd, fun y hy => ⟨y, hy, .refl⟩, fun x hx => hx, fun y hy z hz => ?_⟩
      obtain ⟨j, hj, rfl⟩ := List.mem_iff_getElem.1 hy
      exact hc j hj (by omega) z hz
theorem reachP_spec (p : List C) {l : List Pd} (hd : l.Nodup) : (reachP p l).Nodup ∧ (∀ y, y ∈ reachP p l ↔ ∃ x ∈ l, Star p x y) ∧ ∀ y ∈ reachP p l, ∀ z ∈ callsP p y, z ∈ reachP p l := by
  obtain ⟨h1, h2, h3, h4⟩ := reachF_spec p (l.length + (gPs p).length) l 0 (by have := pot_le (gPs p) l; omega) (fun j _ h => by omega) hd
  refine ⟨h1, fun y => ⟨h2 y, ?_⟩, h4⟩
  rintro ⟨x, hx, hs⟩
  induction hs with
  | refl => exact h3 x hx
  | step _ hz ih => exact h4 _ ih _ hz
theorem mem_reachP {p : List C} {l : List Pd} (hd : l.Nodup) {y : Pd} : y ∈ reachP p l ↔ ∃ x ∈ l, Star p x y := (reachP_spec p hd).2.1 y

/- the laws -/
/- a goal for a predicate that a valid program calls -/
def zeroT : T := .mk 2 0 emptyB []
def goalOf (y : Pd) : T := .mk 3 0 y.name (List.replicate y.arity.toNat zeroT)
theorem shape_own {k n : Int} {s : ByteArray} {ks : List T} {d : Int} (h : shapeT (.mk k n s ks) d = true) : ownB (.mk k n s ks) = true := by
  rw [shapeT] at h
  split at h
  · cases h
  · rw [Bool.and_eq_true] at h; exact h.1
theorem ownB3 {t : T} (h : t.kind = 3) : ownB t = (decide (t.n = 0) && (nameB t.name && decide (t.kids.length ≤ 4))) := by
  rw [ownB, if_neg (by rw [h]; decide), if_neg (by rw [h]; decide), if_pos h]
theorem shape_zeros (d : Int) (hd : 1 ≤ d) : ∀ n, shapeL (List.replicate n zeroT) d = true
  | 0 => rfl
  | n + 1 => by
    rw [List.replicate_succ, shapeL, shape_zeros d hd n, Bool.and_true, zeroT, shapeT, if_neg (by omega)]
    have h1 : ownB (.mk 2 0 emptyB []) = true := by decide
    rw [h1]; rfl
theorem cnt_zeros : ∀ n, cntL (List.replicate n zeroT) = n
  | 0 => rfl
  | n + 1 => by
    rw [List.replicate_succ, cntL, cnt_zeros n, zeroT, cntT, cntL]
    omega
theorem goalOf_ok {p : List C} (hv : progB p = true) {x y : Pd} (h : y ∈ callsP p x) : plainB (goalOf y) = true ∧ predT (goalOf y) = y ∧ queryB [goalOf y] = true ∧ 0 ≤ y.arity ∧ y.arity ≤ 4 := by
  obtain ⟨c, hc, _, t, ht, hp, rfl⟩ := mem_callsP.1 h
  have hv' := hv
  rw [progB, Bool.and_eq_true, List.all_eq_true] at hv'
  have hcl := hv'.2 c hc
  rw [clauseB] at hcl
  simp only [Bool.and_eq_true, List.all_eq_true] at hcl
  have hg := hcl.2.1 t ht
  rw [goalB, Bool.and_eq_true] at hg
  obtain ⟨k, n, s, ks⟩ := t
  have hval := hg.1
  rw [validB, Bool.and_eq_true] at hval
  have hown := shape_own hval.1
  have hp' := hp
  simp only [plainB, Bool.and_eq_true, T.kind, T.name, T.kids] at hp'
  obtain ⟨hk3, hw, hb, hl⟩ := hp'
  have hk3 : k = 3 := of_decide_eq_true hk3
  subst hk3
  have ho : n = 0 ∧ nameB s = true ∧ ks.length ≤ 4 := by
    rw [ownB3 rfl, Bool.and_eq_true, Bool.and_eq_true] at hown
    exact ⟨of_decide_eq_true hown.1, hown.2.1, of_decide_eq_true hown.2.2⟩
  have har : (predT (.mk 3 n s ks)).arity = ks.length := rfl
  have hpr : predT (goalOf (predT (.mk 3 n s ks))) = predT (.mk 3 n s ks) := by
    simp [goalOf, predT, T.name, T.kids]
  have hpl : plainB (goalOf (predT (.mk 3 n s ks))) = true := by
    simp only [plainB, goalOf, predT, T.kind, T.name, T.kids, List.length_replicate, Int.toNat_natCast, Bool.and_eq_true]
    exact ⟨rfl, hw, hb, hl⟩
  refine ⟨hpl, hpr, ?_, by rw [har]; omega, by rw [har]; omega⟩
  have hval' : validB (goalOf (predT (.mk 3 n s ks))) = true := by
    rw [validB, Bool.and_eq_true, decide_eq_true_eq]
    constructor
    · rw [goalOf, shapeT, if_neg (by omega), shape_zeros _ (by omega), Bool.and_true, ownB]
      simp only [T.kind, T.name, T.kids, T.n, predT, List.length_replicate, Int.toNat_natCast]
      simp [ho.2.1, ho.2.2]
    · rw [goalOf, cntT, cnt_zeros, har]
      simp only [Int.toNat_natCast]
      omega
  rw [queryB, Bool.and_eq_true, List.all_eq_true]
  refine ⟨by simp, fun u hu => ?_⟩
  simp only [List.mem_singleton] at hu
  subst hu
  rw [goalB, hval', hpl]
  simp
theorem reachOf_goal {p : List C} (hv : progB p = true) {x y z : Pd} (h : y ∈ callsP p x) : z ∈ reachOf p [goalOf y] ↔ Star p y z := by
  obtain ⟨h1, h2, h3, _⟩ := goalOf_ok hv h
  rw [reachOf, if_pos (by rw [hv, h3]; rfl), mem_reachP (nd_goalsP _ _ List.nodup_nil)]
  constructor
  · rintro ⟨u, hu, hs⟩
    rw [mem_goalsP] at hu
    rcases hu with hu | ⟨t, ht, _, rfl⟩
    · simp at hu
    · simp at ht
      subst ht
      rwa [h2] at hs
  · intro hs
    refine ⟨y, ?_, hs⟩
    rw [mem_goalsP]
    exact .inr ⟨_, by simp, h1, h2⟩
theorem recurB_some {p : List C} (hv : progB p = true) (x : Pd) : recurB p x = (callsOf p x).any fun y => hasP (reachOf p [goalOf y]) x := by
  rw [recurB, hv, Bool.true_and, callsOf, if_pos hv, Bool.eq_iff_iff, hasP_mem, mem_reachP (nd_callsP p x), List.any_eq_true]
  constructor
  · rintro ⟨y, hy, hs⟩
    exact ⟨y, hy, by rw [hasP_mem, reachOf_goal hv hy]; exact hs⟩
  · rintro ⟨y, hy, hs⟩
    rw [hasP_mem, reachOf_goal hv hy] at hs
    exact ⟨y, hy, hs⟩
/- moving -/
end Go.Proofs.YtmnnpgdeecnfpaaGreat

/- Steps that the laws' walks share: copies lent and marked, results compared, marked and read again. -/
namespace Go.Proofs.YtmnnpgdeecnfpaaGreat
open Go Go.RowKit
section
variable {w w0 : World} {X : List Nat} {L A : List Item} {S : Store} {K : Value → World → Prop}
attribute [local irreducible] Run CondV GuardV LoadV
/- copies that will be marked: their blocks are known -/
/- they are marked, and nobody looks at them again -/
/- rows of predicates -/
theorem Run.pubRow {f : FuncId} {fn : Func} {args : List Value} {l : List Pd} (hf : Tryz.prog.funcs[f]? = some fn) (hn : (fn.name == "runtime.NumGoroutine" || fn.body.isNone) = false) (hI : Inv w0 X L S w)
    (hc : Tri Tryz.prog f args [] S (PostP S l)) (hk : ∀ v' S' w', Sle S S' → RdSl S' 2 RdPd v' l → Inv w0 X L S' w' → K v' w') : Run Tryz.prog (sCall (.func (.func f) #[] #[]) args) w K := by
  refine Run.call0 hf hn hI hc fun v' I' S' w' => ?_
  rintro ⟨rfl, rfl⟩ _ hI
  obtain ⟨S1, hle, hrd, hI, _⟩ := hI.lend
  exact hk _ _ _ hle hrd.preds hI
end

end Go.Proofs.YtmnnpgdeecnfpaaGreat

/- FnPredsOf and FnMoveTwice return true, whatever bytes come in: the walks. -/
namespace Go.Proofs.YtmnnpgdeecnfpaaGreat
open Go Go.RowKit
section
variable {w0 w : World} {X : List Nat} {L : List Item} {S : Store} {K : Value → World → Prop} {ys : List Nat} {v : Value}
attribute [local irreducible] Run CondV GuardV LoadV
theorem Light.fit {q : List C} (h : Light 30 900 q) : q.length + wP q ≤ 1048576 := by
  have := h.le; omega
/- two results of a call that makes clauses: published -/
end
end Go.Proofs.YtmnnpgdeecnfpaaGreat

/- Which clauses can be unfolded: both sides. -/
namespace Go.Proofs.YtmnnpgdeecnfpaaGreat
open Go Go.RowKit
attribute [local irreducible] Run CondV GuardV LoadV

end Go.Proofs.YtmnnpgdeecnfpaaGreat

/- impl.UnknownGoals. -/
namespace Go.Proofs.YtmnnpgdeecnfpaaGreat
open Go Go.RowKit
section
variable {S : Store}
attribute [local irreducible] Run CondV GuardV LoadV
end
end Go.Proofs.YtmnnpgdeecnfpaaGreat

/- FnCallsOf returns true, whatever bytes come in: the walk. (the region's rows printed by program) -/
namespace Go.Proofs.YtmnnpgdeecnfpaaGreat
open Go Go.RowKit
theorem any_take {α : Type} (f : α → Bool) (l : List α) (k : Nat) (h : k < l.length) : (l.take (k + 1)).any f = ((l.take k).any f || f l[k]) := by
  rw [List.take_succ_eq_append_getElem h, List.any_append]
  simp
section
variable {S : Store} {ys : List Nat} {v : Value}
attribute [local irreducible] Run CondV GuardV LoadV
end
end Go.Proofs.YtmnnpgdeecnfpaaGreat

/- FnRecursivePred returns true, whatever bytes come in: the walk. -/
namespace Go.Proofs.YtmnnpgdeecnfpaaGreat
open Go Go.RowKit
def rgI (B Z Y : Item) (a b : Bool) : List Item := B :: ((match a with | true => [Z] | false => []) ++ (match b with | true => [Y] | false => []))
def ycB (d : Bool) (u v : Array Value) : Array Value := match d with
  | true => u
  | false => v
abbrev zeroV : List Value := [.int .i64 2, .int .i64 0, .string ⟨#[]⟩, .slice none 0 0]
theorem rd_zeros {S : Store} {b n : Nat} {c : Array Value} {E : TypeId} (hS : S b = some (.cells c E)) (hn : n ≤ 1000) (h : ∀ i, i < n → cellsAt c (i * 4) 4 = zeroV) : RdSl S 4 (RdT S) (.slice (some ⟨b, 0, none⟩) n n) (List.replicate n zeroT) := by
  have hl : (List.replicate n zeroT).length = n := List.length_replicate
  refine ⟨some ⟨b, 0, none⟩, n, by rw [hl], by rw [hl]; exact Nat.le_refl _, by simp only [maxLen]; omega, .inr ⟨b, 0, c, E, (0, 0), rfl, hS, fun i hi => ?_⟩⟩
  rw [Nat.zero_add, h i (by omega), List.getElem_replicate]
  exact rdT_leaf (by simp [inI]) (by simp [inI])
theorem callsOf_mem {p : List C} {x y : Pd} (h : y ∈ callsOf p x) : progB p = true ∧ y ∈ callsP p x := by
  rw [callsOf] at h
  split at h
  · exact ⟨‹_›, h⟩
  · simp at h
section
variable {w : World} {K : Value → World → Prop}
attribute [local irreducible] Run
theorem r_buildKind2 (hk : K (.agg zeroV.toArray) w) : Run Tryz.prog (sBuild t_iTerm [(0, .int .i64 2)]) w K := by
  refine Run.of (v := .agg zeroV.toArray) (w' := w) ?_ hk
  unfold sBuild
  rw [Sem.run_bind, run_build w t_iTerm _ #[.int .i64 2, .int .i64 0, .string ⟨#[]⟩, .slice none 0 0] (by kernel_rfl), Result.andThen_ok]
  rfl
end
section
variable {S : Store} {ys : List Nat} {v : Value}
attribute [local irreducible] Run CondV GuardV LoadV
theorem lawPRecur_calls (h : RdSl S 1 RdU8 v ys) : Pure Tryz.prog n_l_FnRecursivePred [v] S (.bool true) := by
  intro w hI
  refine calls_l_FnRecursivePred ?_
  unfold sh_l_FnRecursivePred
  refine r_lenSl h sl_Suint8 ?_
  refine r_gtr ?_
  refine condP (fun _ => done hI rfl) (fun _ => ?_)
  refine Run.call0E fn_s_DrawRecursivePred nm_s_DrawRecursivePred hI (DrawRecursivePred_calls h) fun t10 I' S1 w' => ?_
  rintro ⟨rfl, p, q, x, rfl, hq, hl⟩ hE1 hI
  have hw := hl.fit
  refine r_extract (v := p) rfl ?_
  refine r_extract (v := .agg x.cells.toArray) rfl ?_
  refine r_alloc hI zo_iPred fun b4 w' hI => ?_
  have hI : Inv w [] [.blk b4 (.cells #[.string ⟨#[]⟩, .int .i64 0] t_iPred)] S1 w' := hI
  refine r_storeW hI 0 rfl ag_iPred rfl rfl (Pd.one _) fun w' hI => ?_
  have hI : Inv w [] [.blk b4 (.cells x.cells.toArray t_iPred)] S1 w' := hI
  refine r_loadW hI 0 ag_iPred rfl rfl ?_
  refine Run.callPure fn_i_RecursivePred nm_i_RecursivePred hI (i_RecursivePred_calls x hq hw) fun w' hI => ?_
  refine ⟨fun t w' => t = .bool (!progB q) ∧ Inv w [] [.blk b4 (.cells x.cells.toArray t_iPred)] S1 w', ?_, ?_⟩
  · refine r_loadW hI 0 ag_iPred rfl rfl ?_
    refine Run.callPure fn_s_RecursivePred nm_s_RecursivePred hI (s_RecursivePred_calls x hq hw) fun w' hI => ?_
    refine r_bneq un_bool ?_
    rw [beq_self_eq_true]
    repeat (first | refine guard_true ?_ | refine guard_ne (by decide) ?_ | refine guard_undef ?_ | refine r_pickT ?_ | refine r_pickF ?_)
    refine Run.callPure fn_i_ProgramValid nm_i_ProgramValid hI (iProgramValid_calls hq) fun w' hI => ?_
    refine r_not ?_
    repeat (first | refine guard_true ?_ | refine guard_ne (by decide) ?_ | refine guard_undef ?_ | refine r_pickT ?_ | refine r_pickF ?_)
    exact ⟨rfl, hI⟩
  intro t31 _ _ _ _ _ _ _ _ _ w'
  rintro ⟨rfl, hI⟩
  refine condV (fun hb => ?_) (fun hb => ?_)
  · refine r_loadW hI 0 ag_iPred rfl rfl ?_
    refine Run.callPure fn_s_RecursivePred nm_s_RecursivePred hI (s_RecursivePred_calls x hq hw) fun w' hI => ?_
    refine r_beqB un_bool ?_
    rw [beq_self_eq_true]
    exact doneS hI hE1.1 rfl
  have hpv : progB q = true := by simpa using hb
  refine r_loadW hI 0 ag_iPred rfl rfl ?_
  refine Run.pubRow (l := callsOf q x) fn_i_CallsOf nm_i_CallsOf hI (i_CallsOf_calls x hq hw) fun t39 S2 w' hle2 h2 hI => ?_
  have hq := hq.monoC hle2
  have hle := hE1.1.trans hle2
  have hll := h2.le
  simp only [maxLen] at hll
  refine ⟨fun i f w' => ∃ (k : Nat) (S3 : Store), k ≤ (callsOf q x).length ∧ i = .int .i64 k ∧ Sle S2 S3 ∧ f = .bool (((callsOf q x).take k).any fun y => hasP (reachOf q [goalOf y]) x) ∧ Inv w [] [.blk b4 (.cells x.cells.toArray t_iPred)] S3 w', fun i _ _ => (callsOf q x).length - (intOf i).toNat,
    ⟨0, S2, Nat.zero_le _, rfl, Sle.refl _, by simp, hI⟩, ?_⟩
  intro t8 _ _ t7 _ _ _ _ _ _ _ _ _ _ _ _ _ _ _ _ _ _ _ _ _ _ _ _ _ _ _ _ _ _ _ _ _ _ _ _ _ _ _ w'
  rintro ⟨k, S3, hk, rfl, hle3, rfl, hI⟩
  have hle := hle.trans hle3
  have h2 := h2.monoP hle3
  have hq := hq.monoC hle3
  refine r_lenSl h2 sl_SiPred ?_
  refine r_lss ?_
  refine condP (fun hki => ?_) (fun hki => ?_)
  · have hk' : k < (callsOf q x).length := by omega
    obtain ⟨_, hmem⟩ := callsOf_mem (List.getElem_mem hk')
    obtain ⟨hg1, hg2, hg3, hg4, hg5⟩ := goalOf_ok hpv hmem
    have hnext := any_take (fun y => hasP (reachOf q [goalOf y]) x) (callsOf q x) k hk'
    obtain ⟨y, hy⟩ : ∃ y, y = (callsOf q x)[k] := ⟨_, rfl⟩
    rw [← hy] at hg1 hg2 hg3 hg4 hg5 hnext
    obtain ⟨c0, hc0, _, t0, ht0, _, he0⟩ := mem_callsP.1 hmem
    rw [← hy] at he0
    have hnm : y.name.size ≤ 900 := by
      have h1 := hl.2 c0 hc0
      have h2 := wL_mem ht0
      have h3 : wC c0 = wT c0.head + c0.body.length + wL c0.body := rfl
      have h4 : wT t0 = t0.name.size + t0.kids.length + wL t0.kids := by cases t0; rw [wT]; rfl
      have h5 : t0.name = y.name := congrArg Pd.name he0
      rw [h5] at h4
      omega
    clear he0
    obtain ⟨nm, ar⟩ := y
    simp only [] at hnm
    simp only [] at hg4 hg5
    obtain ⟨n, rfl⟩ : ∃ n : Nat, ar = n := ⟨ar.toNat, by rw [Int.toNat_of_nonneg hg4]⟩
    obtain ⟨B4, hB4⟩ : ∃ B4, B4 = Item.blk b4 (.cells x.cells.toArray t_iPred) := ⟨_, rfl⟩
    rw [← hB4] at hI
    have hJ := hI
    obtain ⟨b, o, cap, c1, E, fz, rfl, hS, hR⟩ := h2.at_ hk'
    rw [← hy] at hR
    have hR1 : cellsAt c1 (o + k * 2) 2 = [.string nm, .int .i64 n] := hR
    have hI := hJ
    refine ⟨fun D x9 x57 x56 x55 x54 x53 x52 x51 x50 x49 x48 x47 x46 w_ => (D 0 = true → x46 = .slice (some ⟨b, o, none⟩) (callsOf q x).length cap) ∧ (D 1 = true → x47 = .int .i64 k) ∧ (D 2 = true → x48 = .pointer (some ⟨b, o + k * 2, none⟩)) ∧ (D 3 = true → x49 = .pointer (some ⟨b, o + k * 2 + 0, none⟩)) ∧ (D 4 = true → x50 = .string nm) ∧ (D 5 = true → x51 = .slice (some ⟨b, o, none⟩) (callsOf q x).length cap) ∧ (D 6 = true → x52 = .int .i64 k) ∧ (D 7 = true → x53 = .pointer (some ⟨b, o + k * 2, none⟩)) ∧ (D 8 = true → x54 = .pointer (some ⟨b, o + k * 2 + 1, none⟩)) ∧ (D 9 = true → x55 = .int .i64 n) ∧ (D 10 = true → True) ∧ (D 11 = true → True) ∧ (D 12 = true → True) ∧ (D 13 = true → True) ∧ ∃ b10 c10 b12, (D 10 = true → x56 = .slice (some ⟨b10, 0, none⟩) n n ∧ c10.size = n * 4) ∧ (D 11 = true → x57 = .agg #[.int .i64 3, .int .i64 0, .string nm, x56]) ∧ (D 12 = true → x9 = .pointer (some ⟨b12, 0, none⟩)) ∧ (D 13 = true → D 10 = true) ∧ (D 13 = true → D 12 = true) ∧ (D 11 = true → D 10 = true) ∧ Inv w [] (rgI B4 (.blk b10 (.cells c10 t_iTerm)) (.blk b12 (.cells (ycB (D 13) #[.int .i64 3, .int .i64 0, .string nm, .slice (some ⟨b10, 0, none⟩) n n] #[.int .i64 0, .int .i64 0, .string ⟨#[]⟩, .slice none 0 0]) t_iTerm)) (D 10) (D 12)) S3 w_, ⟨fun h => Bool.noConfusion h, fun h => Bool.noConfusion h, fun h => Bool.noConfusion h, fun h => Bool.noConfusion h, fun h => Bool.noConfusion h, fun h => Bool.noConfusion h, fun h => Bool.noConfusion h, fun h => Bool.noConfusion h, fun h => Bool.noConfusion h, fun h => Bool.noConfusion h, fun h => Bool.noConfusion h, fun h => Bool.noConfusion h, fun h => Bool.noConfusion h, fun h => Bool.noConfusion h, ⟨0, #[], 0, fun h => Bool.noConfusion h, fun h => Bool.noConfusion h, fun h => Bool.noConfusion h, fun h => Bool.noConfusion h, fun h => Bool.noConfusion h, fun h => Bool.noConfusion h, hI.draw⟩⟩, ⟨?_, ?_, ?_, ?_, ?_, ?_, ?_, ?_, ?_, ?_, ?_, ?_, ?_, ?_, trivial⟩, ?_⟩
    · intro D hD_  x9 x57 x56 x55 x54 x53 x52 x51 x50 x49 x48 x47 x46 w_
      rintro ⟨h0_, h1_, h2_, h3_, h4_, h5_, h6_, h7_, h8_, h9_, h10_, h11_, h12_, h13_, ⟨b10, c10, b12, e10, e11, e12, k10, k12, k11, hI⟩⟩
      exact ⟨fun _ => rfl, h1_, h2_, h3_, h4_, h5_, h6_, h7_, h8_, h9_, h10_, h11_, h12_, h13_, ⟨b10, c10, b12, e10, e11, e12, k10, k12, k11, hI⟩⟩
    · intro D hD_  x9 x57 x56 x55 x54 x53 x52 x51 x50 x49 x48 x47 x46 w_
      rintro ⟨h0_, h1_, h2_, h3_, h4_, h5_, h6_, h7_, h8_, h9_, h10_, h11_, h12_, h13_, ⟨b10, c10, b12, e10, e11, e12, k10, k12, k11, hI⟩⟩
      exact ⟨h0_, fun _ => rfl, h2_, h3_, h4_, h5_, h6_, h7_, h8_, h9_, h10_, h11_, h12_, h13_, ⟨b10, c10, b12, e10, e11, e12, k10, k12, k11, hI⟩⟩
    · intro D hD_ d0_0 d1_1 x9 x57 x56 x55 x54 x53 x52 x51 x50 x49 x48 x47 x46 w_
      rintro ⟨h0_, h1_, h2_, h3_, h4_, h5_, h6_, h7_, h8_, h9_, h10_, h11_, h12_, h13_, ⟨b10, c10, b12, e10, e11, e12, k10, k12, k11, hI⟩⟩
      obtain rfl := h0_ d0_0
      obtain rfl := h1_ d1_1
      refine r_indexAddr sl_SiPred hk' ?_
      exact ⟨h0_, h1_, fun _ => rfl, h3_, h4_, h5_, h6_, h7_, h8_, h9_, h10_, h11_, h12_, h13_, ⟨b10, c10, b12, e10, e11, e12, k10, k12, k11, hI⟩⟩
    · intro D hD_ d2_0 x9 x57 x56 x55 x54 x53 x52 x51 x50 x49 x48 x47 x46 w_
      rintro ⟨h0_, h1_, h2_, h3_, h4_, h5_, h6_, h7_, h8_, h9_, h10_, h11_, h12_, h13_, ⟨b10, c10, b12, e10, e11, e12, k10, k12, k11, hI⟩⟩
      obtain rfl := h2_ d2_0
      refine r_field fo_iPred_0 ?_
      exact ⟨h0_, h1_, h2_, fun _ => rfl, h4_, h5_, h6_, h7_, h8_, h9_, h10_, h11_, h12_, h13_, ⟨b10, c10, b12, e10, e11, e12, k10, k12, k11, hI⟩⟩
    · intro D hD_ d3_0 x9 x57 x56 x55 x54 x53 x52 x51 x50 x49 x48 x47 x46 w_
      rintro ⟨h0_, h1_, h2_, h3_, h4_, h5_, h6_, h7_, h8_, h9_, h10_, h11_, h12_, h13_, ⟨b10, c10, b12, e10, e11, e12, k10, k12, k11, hI⟩⟩
      obtain rfl := h3_ d3_0
      refine r_load sc_string (by rw [hI.cellS hS]; exact cellsAt_get hR1 0 _ rfl) ?_
      exact ⟨h0_, h1_, h2_, h3_, fun _ => rfl, h5_, h6_, h7_, h8_, h9_, h10_, h11_, h12_, h13_, ⟨b10, c10, b12, e10, e11, e12, k10, k12, k11, hI⟩⟩
    · intro D hD_  x9 x57 x56 x55 x54 x53 x52 x51 x50 x49 x48 x47 x46 w_
      rintro ⟨h0_, h1_, h2_, h3_, h4_, h5_, h6_, h7_, h8_, h9_, h10_, h11_, h12_, h13_, ⟨b10, c10, b12, e10, e11, e12, k10, k12, k11, hI⟩⟩
      exact ⟨h0_, h1_, h2_, h3_, h4_, fun _ => rfl, h6_, h7_, h8_, h9_, h10_, h11_, h12_, h13_, ⟨b10, c10, b12, e10, e11, e12, k10, k12, k11, hI⟩⟩
    · intro D hD_  x9 x57 x56 x55 x54 x53 x52 x51 x50 x49 x48 x47 x46 w_
      rintro ⟨h0_, h1_, h2_, h3_, h4_, h5_, h6_, h7_, h8_, h9_, h10_, h11_, h12_, h13_, ⟨b10, c10, b12, e10, e11, e12, k10, k12, k11, hI⟩⟩
      exact ⟨h0_, h1_, h2_, h3_, h4_, h5_, fun _ => rfl, h7_, h8_, h9_, h10_, h11_, h12_, h13_, ⟨b10, c10, b12, e10, e11, e12, k10, k12, k11, hI⟩⟩
    · intro D hD_ d5_0 d6_1 x9 x57 x56 x55 x54 x53 x52 x51 x50 x49 x48 x47 x46 w_
      rintro ⟨h0_, h1_, h2_, h3_, h4_, h5_, h6_, h7_, h8_, h9_, h10_, h11_, h12_, h13_, ⟨b10, c10, b12, e10, e11, e12, k10, k12, k11, hI⟩⟩
      obtain rfl := h5_ d5_0
      obtain rfl := h6_ d6_1
      refine r_indexAddr sl_SiPred hk' ?_
      exact ⟨h0_, h1_, h2_, h3_, h4_, h5_, h6_, fun _ => rfl, h8_, h9_, h10_, h11_, h12_, h13_, ⟨b10, c10, b12, e10, e11, e12, k10, k12, k11, hI⟩⟩
    · intro D hD_ d7_0 x9 x57 x56 x55 x54 x53 x52 x51 x50 x49 x48 x47 x46 w_
      rintro ⟨h0_, h1_, h2_, h3_, h4_, h5_, h6_, h7_, h8_, h9_, h10_, h11_, h12_, h13_, ⟨b10, c10, b12, e10, e11, e12, k10, k12, k11, hI⟩⟩
      obtain rfl := h7_ d7_0
      refine r_field fo_iPred_1 ?_
      exact ⟨h0_, h1_, h2_, h3_, h4_, h5_, h6_, h7_, fun _ => rfl, h9_, h10_, h11_, h12_, h13_, ⟨b10, c10, b12, e10, e11, e12, k10, k12, k11, hI⟩⟩
    · intro D hD_ d8_0 x9 x57 x56 x55 x54 x53 x52 x51 x50 x49 x48 x47 x46 w_
      rintro ⟨h0_, h1_, h2_, h3_, h4_, h5_, h6_, h7_, h8_, h9_, h10_, h11_, h12_, h13_, ⟨b10, c10, b12, e10, e11, e12, k10, k12, k11, hI⟩⟩
      obtain rfl := h8_ d8_0
      refine r_load sc_int (by rw [hI.cellS hS]; exact cellsAt_get hR1 1 _ rfl) ?_
      exact ⟨h0_, h1_, h2_, h3_, h4_, h5_, h6_, h7_, h8_, fun _ => rfl, h10_, h11_, h12_, h13_, ⟨b10, c10, b12, e10, e11, e12, k10, k12, k11, hI⟩⟩
    · intro D hD_ d9_0 d9_1 x9 x57 x56 x55 x54 x53 x52 x51 x50 x49 x48 x47 x46 w_
      rintro ⟨h0_, h1_, h2_, h3_, h4_, h5_, h6_, h7_, h8_, h9_, h10_, h11_, h12_, h13_, ⟨b10, c10, b12, e10, e11, e12, k10, k12, k11, hI⟩⟩
      obtain rfl := h9_ d9_0
      have f13 : D 13 = false := Bool.eq_false_iff.2 fun h => by rw [k10 h] at hD_; cases hD_
      have f11 : D 11 = false := Bool.eq_false_iff.2 fun h => by rw [k11 h] at hD_; cases hD_
      refine r_makeSlice hI mk_SiTerm (n := n) (by omega) (by omega) fun b10 c10 w_ hc10 hI => ?_
      have hI : Inv w [] (rgI B4 (.blk b10 (.cells c10 t_iTerm)) (.blk b12 (.cells (ycB (D 13) #[.int .i64 3, .int .i64 0, .string nm, .slice (some ⟨b10, 0, none⟩) n n] #[.int .i64 0, .int .i64 0, .string ⟨#[]⟩, .slice none 0 0]) t_iTerm)) true (D 12)) S3 w_ := by
        rw [f13] at hI ⊢
        rw [hD_] at hI
        cases h12 : D 12
        · rw [h12] at hI; exact hI
        · rw [h12] at hI; exact hI.perm (List.Perm.cons _ (List.Perm.swap _ _ _))
      have e10 : setD D 10 10 = true → Value.slice (some ⟨b10, 0, none⟩) n n = .slice (some ⟨b10, 0, none⟩) n n ∧ c10.size = n * 4 := fun _ => ⟨rfl, hc10⟩
      have e11 : setD D 10 11 = true → x57 = .agg #[.int .i64 3, .int .i64 0, .string nm, Value.slice (some ⟨b10, 0, none⟩) n n] := fun h => by have h : D 11 = true := h; rw [f11] at h; cases h
      have k10 := fun (_ : setD D 10 13 = true) => (rfl : setD D 10 10 = true)
      have k11 := fun (_ : setD D 10 11 = true) => (rfl : setD D 10 10 = true)
      exact ⟨h0_, h1_, h2_, h3_, h4_, h5_, h6_, h7_, h8_, h9_, fun _ => by first | assumption | trivial, h11_, h12_, h13_, ⟨b10, c10, b12, e10, e11, e12, k10, k12, k11, hI⟩⟩
    · intro D hD_ d4_0 d10_1 x9 x57 x56 x55 x54 x53 x52 x51 x50 x49 x48 x47 x46 w_
      rintro ⟨h0_, h1_, h2_, h3_, h4_, h5_, h6_, h7_, h8_, h9_, h10_, h11_, h12_, h13_, ⟨b10, c10, b12, e10, e11, e12, k10, k12, k11, hI⟩⟩
      obtain rfl := h4_ d4_0
      have g10_ := h10_ d10_1
      obtain ⟨q10, hc10⟩ := e10 d10_1
      subst q10
      refine r_buildStruct ⟨_, _, _, rfl⟩ ?_
      have e11 := fun (_ : setD D 11 11 = true) => (rfl : Value.agg #[.int .i64 3, .int .i64 0, .string nm, Value.slice (some ⟨b10, 0, none⟩) n n] = _)
      have k11 := fun (_ : setD D 11 11 = true) => d10_1
      exact ⟨h0_, h1_, h2_, h3_, h4_, h5_, h6_, h7_, h8_, h9_, h10_, fun _ => by first | assumption | trivial, h12_, h13_, ⟨b10, c10, b12, e10, e11, e12, k10, k12, k11, hI⟩⟩
    · intro D hD_  x9 x57 x56 x55 x54 x53 x52 x51 x50 x49 x48 x47 x46 w_
      rintro ⟨h0_, h1_, h2_, h3_, h4_, h5_, h6_, h7_, h8_, h9_, h10_, h11_, h12_, h13_, ⟨b10, c10, b12, e10, e11, e12, k10, k12, k11, hI⟩⟩
      have f13 : D 13 = false := Bool.eq_false_iff.2 fun h => by rw [k12 h] at hD_; cases hD_
      refine r_alloc hI zo_iTerm fun b12 w_ hI => ?_
      have hI : Inv w [] (rgI B4 (.blk b10 (.cells c10 t_iTerm)) (.blk b12 (.cells (ycB (D 13) #[.int .i64 3, .int .i64 0, .string nm, .slice (some ⟨b10, 0, none⟩) n n] #[.int .i64 0, .int .i64 0, .string ⟨#[]⟩, .slice none 0 0]) t_iTerm)) (D 10) true) S3 w_ := by
        rw [f13] at hI ⊢
        rw [hD_] at hI
        cases h10 : D 10
        · rw [h10] at hI; exact hI
        · rw [h10] at hI; exact hI
      have e12 := fun (_ : setD D 12 12 = true) => (rfl : Value.pointer (some ⟨b12, 0, none⟩) = _)
      have k12 := fun (_ : setD D 12 13 = true) => (rfl : setD D 12 12 = true)
      exact ⟨h0_, h1_, h2_, h3_, h4_, h5_, h6_, h7_, h8_, h9_, h10_, h11_, fun _ => by first | assumption | trivial, h13_, ⟨b10, c10, b12, e10, e11, e12, k10, k12, k11, hI⟩⟩
    · intro D hD_ d12_0 d11_1 d0_2 d1_3 d2_4 d3_5 d4_6 d5_7 d6_8 d7_9 d8_10 d9_11 d10_12 d11_13 d12_14 x9 x57 x56 x55 x54 x53 x52 x51 x50 x49 x48 x47 x46 w_
      rintro ⟨h0_, h1_, h2_, h3_, h4_, h5_, h6_, h7_, h8_, h9_, h10_, h11_, h12_, h13_, ⟨b10, c10, b12, e10, e11, e12, k10, k12, k11, hI⟩⟩
      have g12_ := h12_ d12_0
      have g11_ := h11_ d11_1
      obtain ⟨q10, hc10⟩ := e10 d10_12
      obtain rfl := e11 d11_1
      obtain rfl := e12 d12_0
      subst q10
      rw [d10_12, d12_0, hD_] at hI
      refine r_storeW hI 2 rfl ag_iTerm rfl rfl (by simp [Value.oneCell']) fun w_ hI => ?_
      have hI : Inv w [] (rgI B4 (.blk b10 (.cells c10 t_iTerm)) (.blk b12 (.cells (ycB true #[.int .i64 3, .int .i64 0, .string nm, .slice (some ⟨b10, 0, none⟩) n n] #[.int .i64 0, .int .i64 0, .string ⟨#[]⟩, .slice none 0 0]) t_iTerm)) (D 10) (D 12)) S3 w_ := by
        rw [d10_12, d12_0]
        exact hI
      have k10 := fun (_ : setD D 13 13 = true) => d10_12
      have k12 := fun (_ : setD D 13 13 = true) => d12_0
      exact ⟨h0_, h1_, h2_, h3_, h4_, h5_, h6_, h7_, h8_, h9_, h10_, h11_, h12_, fun _ => trivial, ⟨b10, c10, b12, e10, e11, e12, k10, k12, k11, hI⟩⟩
    intro D d13_ d12_ d11_ d10_ d9_ d8_ d7_ d6_ d5_ d4_ d3_ d2_ d1_ d0_ x9 x57 x56 x55 x54 x53 x52 x51 x50 x49 x48 x47 x46 w_
    rintro ⟨h0_, h1_, h2_, h3_, h4_, h5_, h6_, h7_, h8_, h9_, h10_, h11_, h12_, h13_, ⟨b10, c10, b12, e10, e11, e12, k10, k12, k11, hI⟩⟩
    have g12_ := h12_ d12_
    have g11_ := h11_ d11_
    have g10_ := h10_ d10_
    obtain rfl := h9_ d9_
    obtain rfl := h8_ d8_
    obtain rfl := h7_ d7_
    obtain rfl := h6_ d6_
    obtain rfl := h5_ d5_
    obtain rfl := h4_ d4_
    obtain rfl := h3_ d3_
    obtain rfl := h2_ d2_
    obtain rfl := h1_ d1_
    obtain rfl := h0_ d0_
    clear h0_ h1_ h2_ h3_ h4_ h5_ h6_ h7_ h8_ h9_ h10_ h11_ h12_ h13_
    obtain ⟨q10, hc10⟩ := e10 d10_
    obtain rfl := e12 d12_
    rw [d10_, d12_, d13_] at hI
    have hI : Inv w [] [B4, .blk b10 (.cells c10 t_iTerm), .blk b12 (.cells #[.int .i64 3, .int .i64 0, .string nm, .slice (some ⟨b10, 0, none⟩) n n] t_iTerm)] S3 w_ := hI
    refine ⟨fun i w' => ∃ (j : Nat) (c : Array Value), j ≤ n ∧ i = .int .i64 j ∧ c.size = n * 4 ∧ (∀ i, i < j → cellsAt c (i * 4) 4 = zeroV) ∧ Inv w [] [B4, .blk b10 (.cells c t_iTerm), .blk b12 (.cells #[.int .i64 3, .int .i64 0, .string nm, .slice (some ⟨b10, 0, none⟩) n n] t_iTerm)] S3 w', fun i _ => n - (intOf i).toNat,
      ⟨0, c10, Nat.zero_le _, rfl, hc10, fun i hi => by omega, hI⟩, ?_⟩
    intro t10 _ _ _ _ _ _ _ _ _ _ _ _ w'
    rintro ⟨j, c, hj, rfl, hc, hz, hI⟩
    refine r_fieldL hI 2 rfl fo_iTerm_3 sc_SiTerm rfl ?_
    refine r_len sl_SiTerm ?_
    refine r_lss ?_
    refine condP (fun hji => ?_) (fun hji => ?_)
    · have hj' : j < n := by omega
      refine r_fieldL hI 2 rfl fo_iTerm_3 sc_SiTerm rfl ?_
      refine r_buildKind2 ?_
      have hfit : j * 4 + zeroV.length ≤ c.size := by rw [hc]; simp only [List.length_cons, List.length_nil]; omega
      refine r_elemSt hI 1 rfl sl_SiTerm ag_iTerm hj' (by rw [hc]; omega) rfl (by simp [Value.cells, Value.oneCell']) fun w' hI => ?_
      refine r_add (by omega) ?_
      refine ⟨⟨j + 1, _, hj', rfl, (putCells_size c (j * 4) zeroV hfit).trans hc, fun i hi => ?_, hI⟩, by simp [intOf]; omega⟩
      by_cases he : i = j
      · subst he
        exact cellsAt_put_self hfit
      · exact (cellsAt_put_ne hfit (by left; omega)).trans (hz i (by omega))
    · have : j = n := by omega
      subst this
      have hI := hI.last 1 rfl
      obtain ⟨S4, hI, hE4, hS4⟩ := Inv.pub1 (A := [_, _]) hI
      have hrk := rd_zeros hS4 (by omega) hz
      have hrg : RdT S4 [.int .i64 3, .int .i64 0, .string nm, .slice (some ⟨b10, 0, none⟩) j j] (goalOf ⟨nm, j⟩) := RdT.iff.2 ⟨_, rfl, by simp [inI, goalOf, T.kind], by simp [inI, goalOf, T.n], ?_, by simpa [goalOf, T.kids] using hrk⟩
      · obtain ⟨f0, hf0⟩ : ∃ f0, f0 = ((callsOf q x).take k).any fun y => hasP (reachOf q [goalOf y]) x := ⟨_, rfl⟩
        rw [← hf0]
        rw [← hf0] at hnext
        have hwg : 1 + (wT (goalOf ⟨nm, j⟩) + 0) ≤ 1048576 := by
          have : ∀ n : Nat, wL (List.replicate n zeroT) = 0 := by
            intro n
            induction n with
            | zero => rfl
            | succ n ih => rw [List.replicate_succ, wL, ih, zeroT, wT]; rfl
          simp only [goalOf, wT, Int.toNat_natCast, List.length_replicate, this]
          omega
        cases f0
        · have hI := hI
          refine ⟨fun D x7 x78 x77 x76 x75 x74 x73 x72 x71 x70 w_ => (D 0 = true → x70 = .bool false) ∧ (D 1 = true → x71 = .bool false) ∧ (D 2 = true → x72 = p) ∧ (D 3 = true → x73 = .agg #[.int .i64 3, .int .i64 0, .string nm, .slice (some ⟨b10, 0, none⟩) j j]) ∧ (D 4 = true → True) ∧ (D 5 = true → True) ∧ (D 6 = true → x76 = .agg x.cells.toArray) ∧ (D 7 = true → x77 = .bool (hasP (reachOf q [goalOf ⟨nm, j⟩]) x)) ∧ (D 8 = true → x78 = .bool (hasP (reachOf q [goalOf ⟨nm, j⟩]) x)) ∧ (D 9 = true → x7 = .bool (hasP (reachOf q [goalOf ⟨nm, j⟩]) x)) ∧ ∃ S5, Sle S4 S5 ∧ (D 4 = true → RdSl S5 4 (RdT S5) x74 [goalOf ⟨nm, j⟩]) ∧ (D 5 = true → RdSl S5 2 RdPd x75 (reachOf q [goalOf ⟨nm, j⟩])) ∧ (D 9 = true → D 0 = true) ∧ (D 9 = false → x7 = .bool false) ∧ Inv w [] [B4, .blk b12 (.cells #[.int .i64 3, .int .i64 0, .string nm, .slice (some ⟨b10, 0, none⟩) j j] t_iTerm)] S5 w_, ⟨fun h => Bool.noConfusion h, fun h => Bool.noConfusion h, fun h => Bool.noConfusion h, fun h => Bool.noConfusion h, fun h => Bool.noConfusion h, fun h => Bool.noConfusion h, fun h => Bool.noConfusion h, fun h => Bool.noConfusion h, fun h => Bool.noConfusion h, fun h => Bool.noConfusion h, ⟨S4, Sle.refl _, fun h => Bool.noConfusion h, fun h => Bool.noConfusion h, fun h => Bool.noConfusion h, fun _ => rfl, hI.draw⟩⟩, ⟨?_, ?_, ?_, ?_, ?_, ?_, ?_, ?_, ?_, ?_, trivial⟩, ?_⟩
          · intro D hD_  x7 x78 x77 x76 x75 x74 x73 x72 x71 x70 w_
            rintro ⟨h0_, h1_, h2_, h3_, h4_, h5_, h6_, h7_, h8_, h9_, ⟨S5, hle5, r4, r5, k9, hx7, hI⟩⟩
            have f9 : D 9 = false := Bool.eq_false_iff.2 fun h => by rw [k9 h] at hD_; cases hD_
            obtain rfl := hx7 f9
            have k9 := fun (_ : setD D 0 9 = true) => (rfl : setD D 0 0 = true)
            exact ⟨fun _ => rfl, h1_, h2_, h3_, h4_, h5_, h6_, h7_, h8_, h9_, ⟨S5, hle5, r4, r5, k9, hx7, hI⟩⟩
          · intro D hD_ d0_0 x7 x78 x77 x76 x75 x74 x73 x72 x71 x70 w_
            rintro ⟨h0_, h1_, h2_, h3_, h4_, h5_, h6_, h7_, h8_, h9_, ⟨S5, hle5, r4, r5, k9, hx7, hI⟩⟩
            obtain rfl := h0_ d0_0
            exact ⟨h0_, fun _ => rfl, h2_, h3_, h4_, h5_, h6_, h7_, h8_, h9_, ⟨S5, hle5, r4, r5, k9, hx7, hI⟩⟩
          · intro D hD_ d1_0 x7 x78 x77 x76 x75 x74 x73 x72 x71 x70 w_
            rintro ⟨h0_, h1_, h2_, h3_, h4_, h5_, h6_, h7_, h8_, h9_, ⟨S5, hle5, r4, r5, k9, hx7, hI⟩⟩
            obtain rfl := h1_ d1_0
            refine guard_true (b := false) ?_
            exact ⟨h0_, h1_, fun _ => rfl, h3_, h4_, h5_, h6_, h7_, h8_, h9_, ⟨S5, hle5, r4, r5, k9, hx7, hI⟩⟩
          · intro D hD_ d1_0 x7 x78 x77 x76 x75 x74 x73 x72 x71 x70 w_
            rintro ⟨h0_, h1_, h2_, h3_, h4_, h5_, h6_, h7_, h8_, h9_, ⟨S5, hle5, r4, r5, k9, hx7, hI⟩⟩
            obtain rfl := h1_ d1_0
            refine guard_true (b := false) ?_
            refine r_loadW hI 1 ag_iTerm rfl rfl ?_
            exact ⟨h0_, h1_, h2_, fun _ => rfl, h4_, h5_, h6_, h7_, h8_, h9_, ⟨S5, hle5, r4, r5, k9, hx7, hI⟩⟩
          · intro D hD_ d3_0 d1_1 x7 x78 x77 x76 x75 x74 x73 x72 x71 x70 w_
            rintro ⟨h0_, h1_, h2_, h3_, h4_, h5_, h6_, h7_, h8_, h9_, ⟨S5, hle5, r4, r5, k9, hx7, hI⟩⟩
            obtain rfl := h3_ d3_0
            obtain rfl := h1_ d1_1
            refine guard_true (b := false) ?_
            refine r_slice1 hI mk_SiTerm (by simp [Value.cells]) (by omega) (by omega) fun b8 w_ hI => ?_
            obtain ⟨S5, hI, hE6, hS5⟩ := Inv.pub1 (A := [_, _]) hI
            have hle5 := hle5.trans hE6.1
            have r4 := fun (_ : setD D 4 4 = true) => rd_one hS5 (hrg.mono hle5)
            have r5 : setD D 4 5 = true → RdSl S5 2 RdPd x75 (reachOf q [goalOf ⟨nm, j⟩]) := fun h => (r5 h).monoP hE6.1
            exact ⟨h0_, h1_, h2_, h3_, fun _ => by first | assumption | trivial, h5_, h6_, h7_, h8_, h9_, ⟨S5, hle5, r4, r5, k9, hx7, hI⟩⟩
          · intro D hD_ d2_0 d4_1 d1_2 d1_3 x7 x78 x77 x76 x75 x74 x73 x72 x71 x70 w_
            rintro ⟨h0_, h1_, h2_, h3_, h4_, h5_, h6_, h7_, h8_, h9_, ⟨S5, hle5, r4, r5, k9, hx7, hI⟩⟩
            obtain rfl := h2_ d2_0
            have g4_ := h4_ d4_1
            obtain rfl := h1_ d1_2
            refine guard_true (b := false) ?_
            refine Run.pubRow (l := reachOf q [goalOf ⟨nm, j⟩]) fn_i_ReachOf nm_i_ReachOf hI (i_ReachOf_calls (hq.monoC (hE4.1.trans hle5)) (r4 d4_1) hw hwg) fun u S5 w_ hle6 hu hI => ?_
            have hle5 := hle5.trans hle6
            have r4 : setD D 5 4 = true → RdSl S5 4 (RdT S5) x74 [goalOf ⟨nm, j⟩] := fun h => (r4 h).monoT hle6
            have r5 := fun (_ : setD D 5 5 = true) => hu
            exact ⟨h0_, h1_, h2_, h3_, h4_, fun _ => by first | assumption | trivial, h6_, h7_, h8_, h9_, ⟨S5, hle5, r4, r5, k9, hx7, hI⟩⟩
          · intro D hD_ d1_0 x7 x78 x77 x76 x75 x74 x73 x72 x71 x70 w_
            rintro ⟨h0_, h1_, h2_, h3_, h4_, h5_, h6_, h7_, h8_, h9_, ⟨S5, hle5, r4, r5, k9, hx7, hI⟩⟩
            obtain rfl := h1_ d1_0
            refine guard_true (b := false) ?_
            have hI' := hI
            rw [hB4] at hI'
            refine r_loadW hI' 0 ag_iPred rfl rfl ?_
            exact ⟨h0_, h1_, h2_, h3_, h4_, h5_, fun _ => rfl, h7_, h8_, h9_, ⟨S5, hle5, r4, r5, k9, hx7, hI⟩⟩
          · intro D hD_ d5_0 d6_1 d5_2 d1_3 x7 x78 x77 x76 x75 x74 x73 x72 x71 x70 w_
            rintro ⟨h0_, h1_, h2_, h3_, h4_, h5_, h6_, h7_, h8_, h9_, ⟨S5, hle5, r4, r5, k9, hx7, hI⟩⟩
            have g5_ := h5_ d5_0
            obtain rfl := h6_ d6_1
            obtain rfl := h1_ d1_3
            refine guard_true (b := false) ?_
            refine Run.callPure fn_l_pgPred nm_l_pgPred hI (pgPred_calls x (r5 d5_0)) fun w_ hI => ?_
            exact ⟨h0_, h1_, h2_, h3_, h4_, h5_, h6_, fun _ => rfl, h8_, h9_, ⟨S5, hle5, r4, r5, k9, hx7, hI⟩⟩
          · intro D hD_ d1_0 d7_1 x7 x78 x77 x76 x75 x74 x73 x72 x71 x70 w_
            rintro ⟨h0_, h1_, h2_, h3_, h4_, h5_, h6_, h7_, h8_, h9_, ⟨S5, hle5, r4, r5, k9, hx7, hI⟩⟩
            obtain rfl := h1_ d1_0
            obtain rfl := h7_ d7_1
            refine r_pickF ?_
            exact ⟨h0_, h1_, h2_, h3_, h4_, h5_, h6_, h7_, fun _ => rfl, h9_, ⟨S5, hle5, r4, r5, k9, hx7, hI⟩⟩
          · intro D hD_ d8_0 d7_1 d0_2 d1_3 d2_4 d3_5 d4_6 d5_7 d6_8 d7_9 d8_10 x7 x78 x77 x76 x75 x74 x73 x72 x71 x70 w_
            rintro ⟨h0_, h1_, h2_, h3_, h4_, h5_, h6_, h7_, h8_, h9_, ⟨S5, hle5, r4, r5, k9, hx7, hI⟩⟩
            obtain rfl := h8_ d8_0
            have k9 := fun (_ : setD D 9 9 = true) => d0_2
            have hx7 : setD D 9 9 = false → (.bool (hasP (reachOf q [goalOf ⟨nm, j⟩]) x) : Value) = .bool false := fun h => Bool.noConfusion h
            exact ⟨h0_, h1_, h2_, h3_, h4_, h5_, h6_, h7_, h8_, fun _ => rfl, ⟨S5, hle5, r4, r5, k9, hx7, hI⟩⟩
          intro D d9_ d8_ d7_ d6_ d5_ d4_ d3_ d2_ d1_ d0_ x7 x78 x77 x76 x75 x74 x73 x72 x71 x70 w_
          rintro ⟨h0_, h1_, h2_, h3_, h4_, h5_, h6_, h7_, h8_, h9_, ⟨S5, hle5, r4, r5, k9, hx7, hI⟩⟩
          obtain rfl := h9_ d9_
          obtain rfl := h8_ d8_
          obtain rfl := h7_ d7_
          obtain rfl := h6_ d6_
          have g5_ := h5_ d5_
          have g4_ := h4_ d4_
          obtain rfl := h3_ d3_
          obtain rfl := h2_ d2_
          obtain rfl := h1_ d1_
          obtain rfl := h0_ d0_
          clear h0_ h1_ h2_ h3_ h4_ h5_ h6_ h7_ h8_ h9_
          refine r_add (by omega) ?_
          refine ⟨⟨k + 1, S5, hk', rfl, (hle3.trans hE4.1).trans hle5, ?_, by rw [← hB4]; exact hI.pick [true, false]⟩, by simp [intOf]; omega⟩
          rw [hnext, Bool.false_or]
        · have hI := hI
          refine ⟨fun D x7 x78 x77 x76 x75 x74 x73 x72 x71 x70 w_ => (D 0 = true → x70 = .bool true) ∧ (D 1 = true → x71 = .bool true) ∧ (D 2 = true → x72 = undef) ∧ (D 3 = true → x73 = undef) ∧ (D 4 = true → x74 = undef) ∧ (D 5 = true → x75 = undef) ∧ (D 6 = true → x76 = undef) ∧ (D 7 = true → x77 = undef) ∧ (D 8 = true → x78 = .bool true) ∧ (D 9 = true → x7 = .bool true) ∧ (D 9 = true → D 0 = true) ∧ (D 9 = false → x7 = .bool true) ∧ Inv w [] [B4, .blk b12 (.cells #[.int .i64 3, .int .i64 0, .string nm, .slice (some ⟨b10, 0, none⟩) j j] t_iTerm)] S4 w_, ⟨fun h => Bool.noConfusion h, fun h => Bool.noConfusion h, fun h => Bool.noConfusion h, fun h => Bool.noConfusion h, fun h => Bool.noConfusion h, fun h => Bool.noConfusion h, fun h => Bool.noConfusion h, fun h => Bool.noConfusion h, fun h => Bool.noConfusion h, fun h => Bool.noConfusion h, ⟨fun h => Bool.noConfusion h, fun _ => rfl, hI.draw⟩⟩, ⟨?_, ?_, ?_, ?_, ?_, ?_, ?_, ?_, ?_, ?_, trivial⟩, ?_⟩
          · intro D hD_  x7 x78 x77 x76 x75 x74 x73 x72 x71 x70 w_
            rintro ⟨h0_, h1_, h2_, h3_, h4_, h5_, h6_, h7_, h8_, h9_, ⟨k9, hx7, hI⟩⟩
            have f9 : D 9 = false := Bool.eq_false_iff.2 fun h => by rw [k9 h] at hD_; cases hD_
            obtain rfl := hx7 f9
            have k9 := fun (_ : setD D 0 9 = true) => (rfl : setD D 0 0 = true)
            exact ⟨fun _ => rfl, h1_, h2_, h3_, h4_, h5_, h6_, h7_, h8_, h9_, ⟨k9, hx7, hI⟩⟩
          · intro D hD_ d0_0 x7 x78 x77 x76 x75 x74 x73 x72 x71 x70 w_
            rintro ⟨h0_, h1_, h2_, h3_, h4_, h5_, h6_, h7_, h8_, h9_, ⟨k9, hx7, hI⟩⟩
            obtain rfl := h0_ d0_0
            exact ⟨h0_, fun _ => rfl, h2_, h3_, h4_, h5_, h6_, h7_, h8_, h9_, ⟨k9, hx7, hI⟩⟩
          · intro D hD_ d1_0 x7 x78 x77 x76 x75 x74 x73 x72 x71 x70 w_
            rintro ⟨h0_, h1_, h2_, h3_, h4_, h5_, h6_, h7_, h8_, h9_, ⟨k9, hx7, hI⟩⟩
            obtain rfl := h1_ d1_0
            refine guard_ne (by decide) ?_
            exact ⟨h0_, h1_, fun _ => rfl, h3_, h4_, h5_, h6_, h7_, h8_, h9_, ⟨k9, hx7, hI⟩⟩
          · intro D hD_ d1_0 x7 x78 x77 x76 x75 x74 x73 x72 x71 x70 w_
            rintro ⟨h0_, h1_, h2_, h3_, h4_, h5_, h6_, h7_, h8_, h9_, ⟨k9, hx7, hI⟩⟩
            obtain rfl := h1_ d1_0
            refine guard_ne (by decide) ?_
            exact ⟨h0_, h1_, h2_, fun _ => rfl, h4_, h5_, h6_, h7_, h8_, h9_, ⟨k9, hx7, hI⟩⟩
          · intro D hD_ d3_0 d1_1 x7 x78 x77 x76 x75 x74 x73 x72 x71 x70 w_
            rintro ⟨h0_, h1_, h2_, h3_, h4_, h5_, h6_, h7_, h8_, h9_, ⟨k9, hx7, hI⟩⟩
            obtain rfl := h3_ d3_0
            obtain rfl := h1_ d1_1
            refine guard_ne (by decide) ?_
            exact ⟨h0_, h1_, h2_, h3_, fun _ => rfl, h5_, h6_, h7_, h8_, h9_, ⟨k9, hx7, hI⟩⟩
          · intro D hD_ d2_0 d4_1 d1_2 d1_3 x7 x78 x77 x76 x75 x74 x73 x72 x71 x70 w_
            rintro ⟨h0_, h1_, h2_, h3_, h4_, h5_, h6_, h7_, h8_, h9_, ⟨k9, hx7, hI⟩⟩
            obtain rfl := h2_ d2_0
            obtain rfl := h4_ d4_1
            obtain rfl := h1_ d1_2
            refine guard_ne (by decide) ?_
            exact ⟨h0_, h1_, h2_, h3_, h4_, fun _ => rfl, h6_, h7_, h8_, h9_, ⟨k9, hx7, hI⟩⟩
          · intro D hD_ d1_0 x7 x78 x77 x76 x75 x74 x73 x72 x71 x70 w_
            rintro ⟨h0_, h1_, h2_, h3_, h4_, h5_, h6_, h7_, h8_, h9_, ⟨k9, hx7, hI⟩⟩
            obtain rfl := h1_ d1_0
            refine guard_ne (by decide) ?_
            exact ⟨h0_, h1_, h2_, h3_, h4_, h5_, fun _ => rfl, h7_, h8_, h9_, ⟨k9, hx7, hI⟩⟩
          · intro D hD_ d5_0 d6_1 d5_2 d1_3 x7 x78 x77 x76 x75 x74 x73 x72 x71 x70 w_
            rintro ⟨h0_, h1_, h2_, h3_, h4_, h5_, h6_, h7_, h8_, h9_, ⟨k9, hx7, hI⟩⟩
            obtain rfl := h5_ d5_0
            obtain rfl := h6_ d6_1
            obtain rfl := h1_ d1_3
            refine guard_ne (by decide) ?_
            exact ⟨h0_, h1_, h2_, h3_, h4_, h5_, h6_, fun _ => rfl, h8_, h9_, ⟨k9, hx7, hI⟩⟩
          · intro D hD_ d1_0 d7_1 x7 x78 x77 x76 x75 x74 x73 x72 x71 x70 w_
            rintro ⟨h0_, h1_, h2_, h3_, h4_, h5_, h6_, h7_, h8_, h9_, ⟨k9, hx7, hI⟩⟩
            obtain rfl := h1_ d1_0
            obtain rfl := h7_ d7_1
            refine r_pickT ?_
            exact ⟨h0_, h1_, h2_, h3_, h4_, h5_, h6_, h7_, fun _ => rfl, h9_, ⟨k9, hx7, hI⟩⟩
          · intro D hD_ d8_0 d7_1 d0_2 d1_3 d2_4 d3_5 d4_6 d5_7 d6_8 d7_9 d8_10 x7 x78 x77 x76 x75 x74 x73 x72 x71 x70 w_
            rintro ⟨h0_, h1_, h2_, h3_, h4_, h5_, h6_, h7_, h8_, h9_, ⟨k9, hx7, hI⟩⟩
            obtain rfl := h8_ d8_0
            have k9 := fun (_ : setD D 9 9 = true) => d0_2
            have hx7 : setD D 9 9 = false → (.bool true : Value) = .bool true := fun _ => rfl
            exact ⟨h0_, h1_, h2_, h3_, h4_, h5_, h6_, h7_, h8_, fun _ => rfl, ⟨k9, hx7, hI⟩⟩
          intro D d9_ d8_ d7_ d6_ d5_ d4_ d3_ d2_ d1_ d0_ x7 x78 x77 x76 x75 x74 x73 x72 x71 x70 w_
          rintro ⟨h0_, h1_, h2_, h3_, h4_, h5_, h6_, h7_, h8_, h9_, ⟨k9, hx7, hI⟩⟩
          obtain rfl := h9_ d9_
          obtain rfl := h8_ d8_
          obtain rfl := h7_ d7_
          obtain rfl := h6_ d6_
          obtain rfl := h5_ d5_
          obtain rfl := h4_ d4_
          obtain rfl := h3_ d3_
          obtain rfl := h2_ d2_
          obtain rfl := h1_ d1_
          obtain rfl := h0_ d0_
          clear h0_ h1_ h2_ h3_ h4_ h5_ h6_ h7_ h8_ h9_
          refine r_add (by omega) ?_
          refine ⟨⟨k + 1, S4, hk', rfl, hle3.trans hE4.1, ?_, by rw [← hB4]; exact hI.pick [true, false]⟩, by simp [intOf]; omega⟩
          rw [hnext, Bool.true_or]
      · show nm.size ≤ maxLen
        simp only [maxLen]
        omega
  · have : k = (callsOf q x).length := by omega
    subst this
    rw [List.take_length, ← recurB_some hpv x]
    refine r_beqB un_bool ?_
    rw [beq_self_eq_true]
    exact doneS hI hle rfl
end
end Go.Proofs.YtmnnpgdeecnfpaaGreat

/- What every row of this seat owes beside its walk: the arguments read again as they did, and nothing that was there has turned. -/
namespace Go.Proofs.YtmnnpgdeecnfpaaGreat
open Go Go.ChangeShapes Go.WideShapes Go.ChangeAt Go.RowKit

theorem Tryz.own : ownKnob Tryz.prog.godebug = none := by kernel_rfl
theorem Tryz.kids : Kids Tryz.prog (· < Tryz.prog.types.size) := kids_rows (by kernel_rfl) (by kernel_rfl)
theorem Tryz.full : ∀ t e, t < Tryz.prog.types.size → Tryz.prog.underlying t = some (.slice e) → 0 < Tryz.prog.cellsOf e := slices_full_of Tryz.prog (by kernel_rfl)
section
variable {H : Type} {enc : TypeId × Value → H} {W W' : World}
theorem carryAll {P : Program} : ∀ {ts : List TypeId} {vs : List Value} {ds : List (DataW H)} {ps : List MemPlace}, DataW.TrodAll enc P W 0 (fun _ => true) true ts vs ds ps → (∀ p ∈ ps, W.sameAt W' p) →
    DataW.TrodAll enc P W' 0 (fun _ => true) true ts vs ds ps
  | [], [], [], _, h, _ => h
  | _ :: _, _ :: _, _ :: _, _, ⟨p, q, ⟨n, h1⟩, h2, e⟩, hs =>
    ⟨p, q, ⟨n, DataW.trod_carry n _ _ _ h1 fun x hx => hs x (by rw [e]; exact List.mem_append_left _ hx)⟩, carryAll h2 fun x hx => hs x (by rw [e]; exact List.mem_append_right _ hx), e⟩
theorem same_at {p : MemPlace} (h : ∀ b, b < W.heap.size → W'.heap[b]? = W.heap[b]?) (hp : p.block < W.heap.size) : W.sameAt W' p := by
  cases p with
  | cell b off => simp only [World.sameAt, World.cell?]; rw [h b hp]
  | map b => exact h b hp
/- a function of the program whose walk ends with 'true' and with all that was there as it was: the row's 'post' -/
theorem post_true {f : Func} {s : ChangeSpec} {args : Array Value} {ds gs : List (DataW H)} {before p q : List MemPlace}
    (hW : DataW.Whole enc Tryz.prog f.params.toList s.vars false W args.toList ds gs before) (hA : DataW.TrodAll enc Tryz.prog W 0 (fun _ => true) true f.params.toList args.toList ds p)
    (hV : DataW.TrodVars enc Tryz.prog W (fun _ => true) s.vars gs q) (hb : before = p ++ q) (hv : s.vars = []) (hts : ∀ t ∈ f.params.toList, t < Tryz.prog.types.size) (hr : f.resultTypes = #[t_bool])
    (hs : (s.fn H (ds ++ gs)).results = [.lit (.bool true)]) (ha : (s.fn H (ds ++ gs)).args = ds) (hsv : (s.fn H (ds ++ gs)).vars = []) (hI : Inv W [] [] (heapS W) W') :
    s.post enc Tryz.prog f false true false false W args (.bool true) W' := by
  have hsame : ∀ b, b < W.heap.size → W'.heap[b]? = W.heap[b]? := fun b hb => hI.same b hb
  have hlt := hW.lt
  rw [hv] at hV
  obtain ⟨hg, hq⟩ := trodVars_none hV
  subst hq
  rw [List.append_nil] at hb
  subst hb
  have hA' := carryAll (W' := W') hA fun x hx => same_at hsame (hlt x hx)
  refine ⟨ds, gs, before, [], before, [], hW, ?_, ?_, ?_, same_kept hI.os hI.output hsame, fun h => by cases h⟩
  · rw [hs, hr]
    exact trodAll_mk1 (shut_bool un_bool true)
  · rw [ha]
    exact DataW.TrodAll.respare Tryz.kids Tryz.full hts hA' fun x hx => by simpa using hlt x hx
  · rw [hv, hsv]
    rfl
end

end Go.Proofs.YtmnnpgdeecnfpaaGreat

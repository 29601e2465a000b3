/- Soundness of the verification condition 'vc': it gives the model's own 'Calls', under Bool checks on the code. -/
import Derived.Test.YtmnnpgdeecnfpaaGreatVc
import Derived.Laws.Sem
namespace Go.Proofs.YtmnnpgdeecnfpaaGreat
open Go

def fitT (n : Nat) : Operand → Bool
  | .tmp t => Nat.blt t n
  | _ => true
def fitOp : Op → Bool
  | .select _ _ => false
  | _ => true
def fitDst (n : Nat) : Option Nat → Bool
  | some d => Nat.blt d n
  | none => true
/- nobody but operation j writes slot d -/
def soleWriter (j d : Nat) : Nat → List Oper → Bool
  | _, [] => true
  | i, o :: os => (Nat.beq i j || !(o.dst == some d)) && soleWriter j d (i + 1) os
def fitGuard (n : Nat) (all : List Oper) : Option (Nat × Bool) → Bool
  | none => true
  | some (j, _) => match (all[j]?).bind (·.dst) with
    | some d => Nat.blt d n && soleWriter j d 0 all
    | none => false
def fitOper (n : Nat) (all : List Oper) (o : Oper) : Bool :=
  fitOp o.op && fitDst n o.dst && o.op.operands.toList.all (fitT n) && fitGuard n all o.guard
def backE (i : Nat) : List Edge → Bool
  | [] => true
  | e :: es => (!Region.binds .any e || Nat.blt e.on i) && backE i es
def backL : Nat → List Oper → Bool
  | _, [] => true
  | i, o :: os => backE i o.after.toList && backL (i + 1) os
def guardBehind : Nat → List Oper → Bool
  | _, [] => true
  | i, o :: os => (match o.guard with | none => true | some (j, _) => Nat.blt j i) && guardBehind (i + 1) os
def fits (n : Nat) : Code → Bool
  | .skip | .ret | .exit _ => true
  | .region _ ops draw => ops.toList.all (fitOper n ops.toList) && guardBehind 0 ops.toList && (!draw || backL 0 ops.toList)
  | .seq a b => fits n a && fits n b
  | .cond c a b => fitT n c && fits n a && fits n b
  | .block _ a | .loop a => fits n a
  | _ => false

structure Rel (n : Nat) (ρ : Env) (a : Act) : Prop where
  size : a.tmps.size = n
  at_ : ∀ t, t < n → a.tmps[t]? = some (ρ t)
  out : ∀ t, n ≤ t → ρ t = undef
  defers : a.defers = []

theorem Rel.eval {n : Nat} {ρ : Env} {a : Act} (h : Rel n ρ a) {x : Operand} (hx : fitT n x = true) : a.eval x = evE ρ x := by
  cases x with
  | tmp t =>
    have ht : t < n := by simpa [fitT, Nat.blt_eq] using hx
    simp [Act.eval, evE, Array.getD_eq_getD_getElem?, h.at_ t ht]
  | _ => rfl

theorem upd_same (ρ : Env) (d : Nat) (v : Value) : upd ρ d v d = v := by simp [upd]
theorem upd_ne (ρ : Env) {d t : Nat} (v : Value) (h : t ≠ d) : upd ρ d v t = ρ t := by
  have : Nat.beq t d = false := by simpa [← Bool.not_eq_true] using h
  simp [upd, this]

theorem Rel.put {n : Nat} {ρ : Env} {a : Act} (h : Rel n ρ a) {dst : Option Nat} (hd : fitDst n dst = true) (v : Value) :
    Rel n (putE ρ dst v) (a.put dst v) := by
  cases dst with
  | none => exact h
  | some d =>
    have hdn : d < n := by simpa [fitDst, Nat.blt_eq] using hd
    refine ⟨by simp [Act.put, h.size], fun t ht => ?_, fun t ht => by rw [putE, upd_ne ρ v (by omega)]; exact h.out t ht, h.defers⟩
    by_cases e : t = d
    · subst e
      simp [Act.put, putE, upd_same, h.size, ht]
    · simp only [Act.put, putE, upd_ne ρ v e]
      rw [Array.getElem?_setIfInBounds_ne (by omega)]
      exact h.at_ t ht

theorem execOp_rel {n : Nat} {ρ : Env} {a : Act} (h : Rel n ρ a) {o : Oper} (hs : fitOp o.op = true)
    (ho : o.op.operands.toList.all (fitT n) = true) : execOp a.eval o = execOp (evE ρ) o := by
  refine execOp_congr o ?_ ?_
  · intro cs b e; rw [e] at hs; simp [fitOp] at hs
  · intro x hx
    exact h.eval (List.all_eq_true.1 ho x (Array.mem_toList_iff.2 hx))

theorem ev0_const (v : Value) : ev0 (.const v) = v := rfl
theorem semE_eq (ρ : Env) (o : Oper) : execOp (evE ρ) o = semE ρ o := by
  obtain ⟨dst, op, type, pos, after, guard⟩ := o
  cases op <;> try rfl
  case binOp op T x y u =>
    have hm : ∀ (x : Operand), (match (bif isC x then Operand.const (evE ρ x) else .tmp 0) with | .const _ => true | _ => false) = (match x with | .const _ => true | _ => false) := by
      intro x; cases x <;> rfl
    simp only [execOp, semE, sBin]
    have hg : eqGuard op T x y (evE ρ x) (evE ρ y) = eqGuard op T (bif isC x then Operand.const (evE ρ x) else .tmp 0) (bif isC y then Operand.const (evE ρ y) else .tmp 0) (evE ρ x) (evE ρ y) := by
      cases x <;> cases y <;> rfl
    rw [hg]
    exact bind_assoc _ _ _
  case build t ps =>
    simp only [execOp, semE, sBuild]
    congr 2
    exact (Array.toList_inj.1 (by simp))
  case buildSlice t n ps =>
    simp only [execOp, semE, sBuildSlice]
    congr 2
    exact (Array.toList_inj.1 (by simp))
  case makeFunc fn a b =>
    simp only [execOp, semE, sMakeFunc]
    congr 2
    · exact (Array.toList_inj.1 (by simp))
    · exact (Array.toList_inj.1 (by simp))
  case makeMap t r => cases r <;> rfl
  case slice t x l h m => cases l <;> cases h <;> cases m <;> rfl
  case call c =>
    obtain ⟨callee, args, argTypes⟩ := c
    have ha : args.map (evE ρ) = (args.toList.map (evE ρ)).toArray := Array.toList_inj.1 (by simp)
    cases callee with
    | value f =>
      simp only [execOp, semE, sCall, resolve, ha]
    | builtin b =>
      have hb : (args.map fun (x : Operand) => (match x with | .const _ => true | _ => false)) = (args.toList.map isC).toArray := Array.toList_inj.1 (by
        simp only [Array.toList_map]
        congr 1)
      simp only [execOp, semE, sBuiltin, resolve, ha]
      rw [← hb]
      rfl
    | invoke r m => rfl

theorem stepE.run {P : Program} {o : Oper} {ρ : Env} {w : World} {K : Value → World → Prop} (h : stepE P o ρ w K) : Run P (execOp (evE ρ) o) w K := by
  rw [semE_eq]
  obtain ⟨dst, op, type, pos, after, guard⟩ := o
  cases op <;> exact h
theorem Run.step {P : Program} {o : Oper} {ρ : Env} {w : World} {K : Value → World → Prop} (h : Run P (execOp (evE ρ) o) w K) : stepE P o ρ w K := by
  rw [semE_eq] at h
  obtain ⟨dst, op, type, pos, after, guard⟩ := o
  cases op <;> exact h
theorem Run.mono {P : Program} {s : Sem Next} {w : World} {K K' : Value → World → Prop} (h : Run P s w K) (hk : ∀ v w, K v w → K' v w) :
    Run P s w K' := by
  unfold Run at *
  split at h
  · exact hk _ _ h
  · exact hk _ _ h
  · exact Calls.mono h fun e w' he => by cases e <;> first | exact hk _ _ he | exact he
  · exact h.elim

theorem stepE.mono {P : Program} {o : Oper} {ρ : Env} {w : World} {K K' : Value → World → Prop} (h : stepE P o ρ w K) (hk : ∀ v w, K v w → K' v w) :
    stepE P o ρ w K' := Run.step (Run.mono h.run hk)

theorem Run.wp {P : Program} {n : Nat} {ρ : Env} {a : Act} {w : World} {o : Oper} {K : Value → World → Prop} {next : Act → World → Prop}
    {Q : Exit → Act → World → Prop} (hr : Rel n ρ a) (hs : fitOp o.op = true) (ho : o.op.operands.toList.all (fitT n) = true)
    (h : Run P (execOp (evE ρ) o) w K) (hk : ∀ v w', K v w' → next (a.put o.dst v) w') : o.wp P a w next Q := by
  unfold Oper.wp
  rw [execOp_rel hr hs ho]
  unfold Run at h
  split at h
  · rename_i e; rw [e]; exact hk _ _ h
  · rename_i e; rw [e]; exact hk _ _ h
  · rename_i e; rw [e]
    exact Calls.mono h fun e w' he => by cases e <;> first | exact hk _ _ he | exact he.elim
  · exact h.elim

theorem GuardO_cases {n : Nat} {ρ : Env} {a : Act} (hr : Rel n ρ a) {ops : Array Oper} {o : Oper} {A B : Prop}
    (hg : fitGuard n ops.toList o.guard = true) (h : GuardO ops.toList ρ o.guard A B) :
    (Region.wanted o (yielded ops a.tmps) = true ∧ A) ∨ (Region.wanted o (yielded ops a.tmps) = false ∧ B) := by
  unfold Region.wanted
  cases hgd : o.guard with
  | none => rw [hgd] at h; exact .inl ⟨rfl, h⟩
  | some g =>
    obtain ⟨j, b⟩ := g
    rw [hgd] at h hg
    simp only [GuardO, fitGuard, yielded, Array.getElem?_toList] at *
    cases hd : (ops[j]?).bind (·.dst) with
    | none => rw [hd] at hg; simp at hg
    | some d =>
      rw [hd] at h hg
      simp only [Bool.and_eq_true, Nat.blt_eq] at hg
      simp only [Option.bind_some, hr.at_ d hg.1]
      simp only [GuardV] at h
      split at h
      · rename_i c hc
        rw [hc]
        split at h
        · rename_i e; subst e; exact .inl ⟨by simp, h⟩
        · rename_i e; exact .inr ⟨by simpa using e, h⟩
      · rename_i hv
        refine .inr ⟨?_, h⟩
        cases hc : ρ d <;> first | exact absurd hc (hv _) | simp

theorem opE_sound {P : Program} {n : Nat} {ops : Array Oper} {o : Oper} {ρ : Env} {a : Act} {w : World} {K : Env → World → Prop}
    {next : Act → World → Prop} {Q : Exit → Act → World → Prop} {i : Nat} (hi : ops[i]? = some o) (hr : Rel n ρ a) (hf : fitOper n ops.toList o = true)
    (h : opE P ops.toList o ρ w K) (hk : ∀ v w', K (putE ρ o.dst v) w' → next (a.put o.dst v) w') :
    wpOp P ops Q i next a w := by
  simp only [fitOper, Bool.and_eq_true] at hf
  obtain ⟨⟨⟨h1, h2⟩, h3⟩, h4⟩ := hf
  unfold wpOp
  rw [hi]
  simp only []
  rcases GuardO_cases hr h4 h with ⟨hw, hA⟩ | ⟨hw, hB⟩
  · rw [if_pos hw]; exact .inl (hA.run.wp hr h1 h3 hk)
  · rw [if_neg (by simp [hw])]; exact hk _ _ hB

/- one list of operations, guards left aside, all of them wanted -/
theorem range'_cons (i m : Nat) : List.range' i (m + 1) = i :: List.range' (i + 1) m := rfl

theorem soleWriter_get {j d : Nat} : ∀ (l : List Oper) (k : Nat), soleWriter j d k l = true → ∀ i o, l[i]? = some o → k + i ≠ j → o.dst ≠ some d
  | [], _, _, i, o, hi, _ => by simp at hi
  | x :: xs, k, h, i, o, hi, hne => by
    simp only [soleWriter, Bool.and_eq_true, Bool.or_eq_true, Nat.beq_eq, Bool.not_eq_true', beq_eq_false_iff_ne] at h
    cases i with
    | zero =>
      simp only [List.getElem?_cons_zero, Option.some.injEq] at hi
      subst hi
      rcases h.1 with e | e
      · exact absurd (by simpa using e) (by omega)
      · exact e
    | succ i =>
      rw [List.getElem?_cons_succ] at hi
      exact soleWriter_get xs (k + 1) h.2 i o hi (by omega)

theorem sameGuard_iff {g h : Option (Nat × Bool)} : sameGuard g h = true ↔ g = h := by
  cases g <;> cases h <;> simp [sameGuard, Prod.ext_iff]

theorem grp_ungrp (g : Option (Nat × Bool)) : ∀ l : List Oper, l = grp g l ++ ungrp g l
  | [] => rfl
  | o :: os => by
    simp only [grp, ungrp]
    cases h : sameGuard g o.guard <;> simp
    exact grp_ungrp g os
theorem grp_all (g : Option (Nat × Bool)) : ∀ (l : List Oper) (o : Oper), o ∈ grp g l → o.guard = g
  | [], _, h => by simp [grp] at h
  | x :: xs, o, h => by
    simp only [grp] at h
    cases e : sameGuard g x.guard with
    | false => rw [e] at h; simp at h
    | true =>
      rw [e] at h
      rcases List.mem_cons.1 h with rfl | h
      · exact (sameGuard_iff.1 e).symm
      · exact grp_all g xs o h
theorem ungrp_length (g : Option (Nat × Bool)) : ∀ l : List Oper, (ungrp g l).length ≤ l.length
  | [] => by simp [ungrp]
  | x :: xs => by
    simp only [ungrp]
    cases sameGuard g x.guard
    · simp
    · simpa using Nat.le_succ_of_le (ungrp_length g xs)

section ops
variable {P : Program} {n : Nat} {ops : Array Oper} {Q : Exit → Act → World → Prop}
def fitAll (n : Nat) (ops : Array Oper) : Prop := ∀ o ∈ ops.toList, fitOper n ops.toList o = true

/- a run of operations that bear one guard (j, b), j ahead of them, whose slot reads b -/
theorem runL_sound (hf : fitAll n ops) {j d : Nat} {b : Bool} (hj : (ops.toList[j]?).bind (·.dst) = some d) :
    ∀ (l : List Oper) (i : Nat) (ρ : Env) (a : Act) (w : World) (K : Env → World → Prop) (rest : List Nat),
      (∀ k o, l[k]? = some o → ops.toList[i + k]? = some o ∧ o.guard = some (j, b)) → j < i → ρ d = .bool b → Rel n ρ a → runL P l ρ w K →
      (∀ ρ' a' w', Rel n ρ' a' → K ρ' w' → wpOps P ops Q rest a' w') → wpOps P ops Q (List.range' i l.length ++ rest) a w
  | [], i, ρ, a, w, K, rest, _, _, _, hr, h, hk => hk _ _ _ hr h
  | o :: os, i, ρ, a, w, K, rest, hl, hji, hd, hr, h, hk => by
    obtain ⟨h0, hg⟩ := hl 0 o rfl
    rw [Nat.add_zero] at h0
    have hm : o ∈ ops.toList := List.mem_of_getElem? h0
    have hfo := hf o hm
    have h0' : ops[i]? = some o := by simpa using h0
    have hfo' := hfo
    simp only [fitOper, Bool.and_eq_true] at hfo'
    obtain ⟨⟨⟨h1, h2⟩, h3⟩, h4⟩ := hfo'
    have hsw : soleWriter j d 0 ops.toList = true := by
      rw [hg] at h4; simp only [fitGuard, hj, Bool.and_eq_true] at h4; exact h4.2
    have hne : o.dst ≠ some d := soleWriter_get _ 0 hsw i o h0 (by omega)
    rw [List.length_cons, range'_cons, List.cons_append, wpOps_cons]
    refine opE_sound (ρ := ρ) (w := w) (K := fun ρ' w' => (ρ' d = .bool b) ∧ runL P os ρ' w' K) h0' hr hfo ?_ ?_
    · unfold opE
      rw [hg]
      simp only [GuardO, hj, GuardV, hd, if_true]
      refine stepE.mono h fun v w' hh => ⟨?_, hh⟩
      cases hdst : o.dst with
      | none => exact hd
      | some e => rw [putE, upd_ne]; exact hd; intro ee; exact hne (by rw [hdst, ee])
    · intro v w' hh
      exact runL_sound hf hj os (i + 1) _ _ w' K rest (fun k o' hk' => by
        have := hl (k + 1) o' (by simpa using hk')
        rw [show i + 1 + k = i + (k + 1) by omega]; exact this) (by omega) hh.1 (hr.put h2 v) hh.2 hk

theorem skipL_sound (hf : fitAll n ops) {j d : Nat} {b : Bool} (hj : (ops.toList[j]?).bind (·.dst) = some d) :
    ∀ (l : List Oper) (i : Nat) (ρ : Env) (a : Act) (w : World) (rest : List Nat),
      (∀ k o, l[k]? = some o → ops.toList[i + k]? = some o ∧ o.guard = some (j, b)) → j < i → ρ d ≠ .bool b → Rel n ρ a →
      (∀ a', Rel n (skipL l ρ) a' → wpOps P ops Q rest a' w) → wpOps P ops Q (List.range' i l.length ++ rest) a w
  | [], i, ρ, a, w, rest, _, _, _, hr, hk => hk _ hr
  | o :: os, i, ρ, a, w, rest, hl, hji, hd, hr, hk => by
    obtain ⟨h0, hg⟩ := hl 0 o rfl
    rw [Nat.add_zero] at h0
    have hm : o ∈ ops.toList := List.mem_of_getElem? h0
    have hfo := hf o hm
    have h0' : ops[i]? = some o := by simpa using h0
    have hfo' := hfo
    simp only [fitOper, Bool.and_eq_true] at hfo'
    obtain ⟨⟨⟨h1, h2⟩, h3⟩, h4⟩ := hfo'
    have hsw : soleWriter j d 0 ops.toList = true := by
      rw [hg] at h4; simp only [fitGuard, hj, Bool.and_eq_true] at h4; exact h4.2
    have hne : o.dst ≠ some d := soleWriter_get _ 0 hsw i o h0 (by omega)
    have hpd : putE ρ o.dst undef d = ρ d := by
      cases hdst : o.dst with
      | none => rfl
      | some e => rw [putE, upd_ne]; intro ee; exact hne (by rw [hdst, ee])
    rw [List.length_cons, range'_cons, List.cons_append, wpOps_cons]
    have hg4 := h4
    have hB : GuardO ops.toList ρ o.guard False True := by
      rw [hg]; simp only [GuardO, hj, GuardV]
      split
      · rename_i c hc
        split
        · rename_i e; subst e; exact absurd hc hd
        · trivial
      · trivial
    rcases GuardO_cases hr h4 hB with ⟨_, hF⟩ | ⟨hw, _⟩
    · exact hF.elim
    · unfold wpOp
      rw [h0']
      simp only [hw, Bool.false_eq_true, if_false]
      exact skipL_sound hf hj os (i + 1) _ _ w rest (fun k o' hk' => by
        have := hl (k + 1) o' (by simpa using hk')
        rw [show i + 1 + k = i + (k + 1) by omega]; exact this) (by omega) (by rw [hpd]; exact hd) (hr.put h2 undef) hk

theorem guardBehind_get : ∀ (l : List Oper) (k : Nat), guardBehind k l = true → ∀ i o j b, l[i]? = some o → o.guard = some (j, b) → j < k + i
  | [], _, _, i, o, _, _, hi, _ => by simp at hi
  | x :: xs, k, h, i, o, j, b, hi, hg => by
    simp only [guardBehind, Bool.and_eq_true] at h
    cases i with
    | zero =>
      simp only [List.getElem?_cons_zero, Option.some.injEq] at hi
      subst hi
      have := h.1
      rw [hg] at this
      simpa [Nat.blt_eq] using this
    | succ i =>
      rw [List.getElem?_cons_succ] at hi
      have := guardBehind_get xs (k + 1) h.2 i o j b hi hg
      omega

theorem vcOps_sound (hf : fitAll n ops) (hb : guardBehind 0 ops.toList = true) :
    ∀ (m : Nat) (l : List Oper) (i : Nat) (ρ : Env) (a : Act) (w : World) (K : Env → World → Prop), l.length < m →
      ops.toList.drop i = l → Rel n ρ a → vcOps P ops.toList m l ρ w K →
      (∀ ρ' a' w', Rel n ρ' a' → K ρ' w' → Q .normal a' w') → wpOps P ops Q (List.range' i l.length) a w := by
  intro m
  induction m with
  | zero => intro l i ρ a w K hlt; omega
  | succ m ih =>
    intro l i ρ a w K hlt hl hr h hk
    cases l with
    | nil => exact hk _ _ _ hr h
    | cons o os =>
      have hget : ∀ k, (o :: os)[k]? = ops.toList[i + k]? := fun k => by rw [← hl, List.getElem?_drop]
      have h0 : ops.toList[i]? = some o := by have := hget 0; simpa using this.symm
      have hm : o ∈ ops.toList := List.mem_of_getElem? h0
      have hfo := hf o hm
      have h0' : ops[i]? = some o := by simpa using h0
      have hfo' := hfo
      simp only [fitOper, Bool.and_eq_true] at hfo'
      obtain ⟨⟨⟨h1, h2⟩, h3⟩, h4⟩ := hfo'
      have hos : ops.toList.drop (i + 1) = os := by rw [← List.drop_drop, hl]; rfl
      simp only [vcOps] at h ih
      cases hg : o.guard with
      | none =>
        rw [hg] at h
        simp only [] at h
        rw [List.length_cons, range'_cons, wpOps_cons]
        refine opE_sound (ρ := ρ) (w := w) (K := fun ρ' w' => vcOps P ops.toList m os ρ' w' K) h0' hr hfo ?_ ?_
        · unfold opE; rw [hg]; exact h
        · intro v w' hh
          exact ih os (i + 1) _ _ w' K (by simp at hlt; omega) hos (hr.put h2 v) hh hk
      | some g =>
        obtain ⟨j, b⟩ := g
        rw [hg] at h
        simp only [] at h
        have hsplit := grp_ungrp (some (j, b)) os
        have hji : j < i := by have := guardBehind_get _ 0 hb i o j b h0 hg; omega
        obtain ⟨d, hj⟩ : ∃ d, (ops.toList[j]?).bind (·.dst) = some d := by
          rw [hg] at h4
          simp only [fitGuard] at h4
          cases hd : (ops.toList[j]?).bind (·.dst) with
          | none => rw [hd] at h4; simp at h4
          | some d => exact ⟨d, rfl⟩
        have hpre : ∀ k x, (o :: grp (some (j, b)) os)[k]? = some x → ops.toList[i + k]? = some x ∧ x.guard = some (j, b) := by
          intro k x hx
          have hx' : (o :: os)[k]? = some x := by
            rw [hsplit, ← List.cons_append, List.getElem?_append_left]
            · exact hx
            · exact (List.getElem?_eq_some_iff.1 hx).1
          refine ⟨by rw [← hget k]; exact hx', ?_⟩
          rcases List.mem_cons.1 (List.mem_of_getElem? hx) with rfl | hmem
          · exact hg
          · exact grp_all _ _ _ hmem
        have hlen : (o :: os).length = (o :: grp (some (j, b)) os).length + (ungrp (some (j, b)) os).length := by
          have := congrArg List.length hsplit
          simp only [List.length_append] at this
          simp only [List.length_cons]; omega
        have hrest : ops.toList.drop (i + (o :: grp (some (j, b)) os).length) = ungrp (some (j, b)) os := by
          rw [← List.drop_drop, hl]
          have e : o :: os = (o :: grp (some (j, b)) os) ++ ungrp (some (j, b)) os := by rw [List.cons_append, ← hsplit]
          rw [e, List.drop_left]
        have hlt' : (ungrp (some (j, b)) os).length < m := by
          have := ungrp_length (some (j, b)) os
          simp at hlt; omega
        rw [hlen, ← List.range'_append_1]
        simp only [GuardO, hj] at h
        by_cases hd : ρ d = .bool b
        · rw [hd] at h
          simp only [GuardV, if_true] at h
          exact runL_sound hf hj _ i ρ a w _ _ hpre hji hd hr h fun ρ' a' w' hr' hh => ih _ _ ρ' a' w' K hlt' hrest hr' hh hk
        · have hB : vcOps P ops.toList m (ungrp (some (j, b)) os) (skipL (o :: grp (some (j, b)) os) ρ) w K := by
            simp only [GuardV] at h
            split at h
            · rename_i c hc
              split at h
              · rename_i e; subst e; exact absurd hc hd
              · exact h
            · exact h
          exact skipL_sound hf hj _ i ρ a w _ hpre hji hd hr fun a' hr' => ih _ _ _ a' w K hlt' hrest hr' hB hk

/- a region that draws its order -/
theorem allOn_elim : ∀ (l : List Edge) {D : Nat → Bool} {p : Prop}, allOn l D p → (∀ e ∈ l, Region.binds .any e = true → D e.on = true) → p
  | [], _, _, h, _ => h
  | e :: es, D, p, h, hd => by
    simp only [allOn] at h
    cases hb : Region.binds .any e with
    | false => rw [hb] at h; exact allOn_elim es h fun e' he' => hd e' (List.mem_cons_of_mem _ he')
    | true => rw [hb] at h; exact allOn_elim es (h (hd e (List.mem_cons_self ..) hb)) fun e' he' => hd e' (List.mem_cons_of_mem _ he')
theorem allDone_elim {D : Nat → Bool} {p : Prop} : ∀ n : Nat, allDone n D p → (∀ i, i < n → D i = true) → p
  | 0, h, _ => h
  | n + 1, h, hd => allDone_elim n (h (hd n (Nat.lt_succ_self n))) fun i hi => hd i (by omega)
def drawE (P : Program) (all : List Oper) (A : (Nat → Bool) → Env → World → Prop) : Nat → List Oper → Prop
  | _, [] => True
  | i, o :: os => (∀ D ρ w, D i = false → allOn o.after.toList D (A D ρ w → opE P all o ρ w fun ρ' w' => A (setD D i) ρ' w')) ∧ drawE P all A (i + 1) os
theorem drawSteps_get {A : (Nat → Bool) → Env → World → Prop} {all : List Oper} : ∀ (l : List Oper) (k i : Nat) (o : Oper), drawE P all A k l → l[i]? = some o →
    ∀ D ρ w, D (k + i) = false → allOn o.after.toList D (A D ρ w → opE P all o ρ w fun ρ' w' => A (setD D (k + i)) ρ' w')
  | [], _, i, _, _, hi => by simp at hi
  | x :: xs, k, 0, o, h, hi => by
    simp only [List.getElem?_cons_zero, Option.some.injEq] at hi
    subst hi
    exact h.1
  | x :: xs, k, i + 1, o, h, hi => by
    rw [List.getElem?_cons_succ] at hi
    have := drawSteps_get xs (k + 1) i o h.2 hi
    rw [show k + 1 + i = k + (i + 1) by omega] at this
    exact this
theorem backE_get : ∀ (l : List Edge) {i : Nat}, backE i l = true → ∀ e ∈ l, Region.binds .any e = true → e.on < i
  | [], _, _, e, he => by simp at he
  | x :: xs, i, h, e, he => by
    simp only [backE, Bool.and_eq_true, Bool.or_eq_true, Bool.not_eq_true', Nat.blt_eq] at h
    rcases List.mem_cons.1 he with rfl | he
    · intro hb
      rcases h.1 with h1 | h1
      · rw [h1] at hb; cases hb
      · exact h1
    · exact backE_get xs h.2 e he
theorem backL_get : ∀ (l : List Oper) (k : Nat), backL k l = true → ∀ i o, l[i]? = some o → ∀ e ∈ o.after.toList, Region.binds .any e = true → e.on < k + i
  | [], _, _, i, o, hi => by simp at hi
  | x :: xs, k, h, i, o, hi => by
    simp only [backL, Bool.and_eq_true] at h
    cases i with
    | zero =>
      simp only [List.getElem?_cons_zero, Option.some.injEq] at hi
      subst hi
      exact fun e he => backE_get _ h.1 e he
    | succ i =>
      rw [List.getElem?_cons_succ] at hi
      intro e he hb
      have := backL_get xs (k + 1) h.2 i o hi e he hb
      omega

theorem mem_ready {ops : Array Oper} {listed : Array Bool} {i : Nat} : i ∈ Region.ready .any ops listed ↔
    i < ops.size ∧ listed.getD i true = false ∧ ∃ o, ops[i]? = some o ∧ ∀ e ∈ o.after.toList, Region.binds .any e = true → listed.getD e.on false = true := by
  simp only [Region.ready, List.mem_filter, List.mem_range, Bool.and_eq_true, Bool.not_eq_true']
  constructor
  · rintro ⟨h1, h2, h3⟩
    refine ⟨h1, h2, ops[i], by simp [h1], fun e he hb => ?_⟩
    simp only [h1, getElem?_pos, Option.map_some, Option.getD_some, Array.all_eq_true] at h3
    obtain ⟨k, hk, rfl⟩ := List.getElem_of_mem he
    have := h3 k (by simpa using hk)
    simp only [Array.getElem_toList] at hb ⊢
    rw [hb] at this
    simpa using this
  · rintro ⟨h1, h2, o, ho, h3⟩
    refine ⟨h1, h2, ?_⟩
    rw [ho]
    simp only [Option.map_some, Option.getD_some, Array.all_eq_true]
    intro k hk
    cases hb : Region.binds .any (o.after[k]) with
    | false => simp
    | true => simpa using h3 _ (by simp) hb

theorem all_listed {ops : Array Oper} {listed : Array Bool} (hsz : listed.size = ops.size) (hb : backL 0 ops.toList = true)
    (h : Region.ready .any ops listed = []) : ∀ i, i < ops.size → listed.getD i false = true := by
  intro i
  induction i using Nat.strongRecOn with
  | _ i ih =>
    intro hi
    by_cases hl : listed.getD i false = true
    · exact hl
    · exfalso
      have hi' : i < listed.size := by omega
      have : i ∈ Region.ready .any ops listed := by
        rw [mem_ready]
        refine ⟨hi, ?_, ops[i], by simp [hi], fun e he hbe => ?_⟩
        · simpa [Array.getD_eq_getD_getElem?, hi'] using hl
        · have := backL_get _ 0 hb i ops[i] (by simp [hi]) e he hbe
          exact ih e.on (by omega) (by omega)
      rw [h] at this
      simp at this

theorem getD_set {listed : Array Bool} {i : Nat} (hi : i < listed.size) (j : Nat) :
    (listed.setIfInBounds i true).getD j false = setD (fun j => listed.getD j false) i j := by
  simp only [setD, Array.getD_eq_getD_getElem?]
  by_cases e : j = i
  · subst e
    simp [hi]
  · rw [Array.getElem?_setIfInBounds_ne (by omega)]
    simp [e]

theorem vcDraw_any (hf : fitAll n ops) (hb : backL 0 ops.toList = true) {A : (Nat → Bool) → Env → World → Prop}
    (hA : drawE P ops.toList A 0 ops.toList) 
    (hQ : ∀ D ρ a w, Rel n ρ a → (∀ i, i < ops.size → D i = true) → A D ρ w → Q .normal a w) :
    ∀ (fuel : Nat) (listed : Array Bool) (ρ : Env) (a : Act) (w : World), listed.size = ops.size → Rel n ρ a → A (fun j => listed.getD j false) ρ w →
      (∀ k, k + fuel = ops.size → k ≤ (listed.toList.filter id).length) →
      wpAny P .any ops Q fuel listed a w := by
  intro fuel
  induction fuel with
  | zero =>
    intro listed ρ a w hsz hr h hcount
    have hc := hcount ops.size (by omega)
    have hall : ∀ i, i < ops.size → listed.getD i false = true := by
      intro i hi
      have hle : (listed.toList.filter id).length ≤ listed.toList.length := List.length_filter_le _ _
      have heq : (listed.toList.filter id).length = listed.toList.length := by simp at *; omega
      have := (List.length_filter_eq_length_iff.1 heq) (listed[i]) (by simp)
      simpa [Array.getD_eq_getD_getElem?, show i < listed.size by omega] using this
    refine ⟨?_, hQ _ ρ a w hr hall h⟩
    cases hrd : Region.ready .any ops listed with
    | nil => rfl
    | cons x xs =>
      have hx : x ∈ Region.ready .any ops listed := by rw [hrd]; simp
      rw [mem_ready] at hx
      have h1 := hall x hx.1
      have h2 := hx.2.1
      have hxs : x < listed.size := by omega
      simp [Array.getD_eq_getD_getElem?, hxs] at h1 h2
      rw [h1] at h2; simp at h2
  | succ fuel ih =>
    intro listed ρ a w hsz hr h hcount
    refine ⟨fun hnil => hQ _ ρ a w hr (all_listed hsz hb hnil) h, fun i hi => ?_⟩
    rw [mem_ready] at hi
    obtain ⟨hi1, hi2, o, ho, hi3⟩ := hi
    have hil : i < listed.size := by omega
    have hD : listed.getD i false = false := by
      simpa [Array.getD_eq_getD_getElem?, hil] using hi2
    have hol : ops.toList[i]? = some o := by simpa using ho
    have hstep := drawSteps_get ops.toList 0 i o hA hol (fun j => listed.getD j false) ρ w (by simpa using hD)
    rw [Nat.zero_add] at hstep
    have hstep' := allOn_elim _ hstep hi3 h
    have hfo := hf o (List.mem_of_getElem? hol)
    have h2 : fitDst n o.dst = true := by
      simp only [fitOper, Bool.and_eq_true] at hfo; exact hfo.1.1.2
    refine opE_sound ho hr hfo hstep' fun v w' hh => ?_
    refine ih _ _ _ _ (by simpa using hsz) (hr.put h2 v) (by rw [show (fun j => (listed.setIfInBounds i true).getD j false) = setD (fun j => listed.getD j false) i from funext (getD_set hil)]; exact hh) ?_
    intro k hk
    have hc := hcount (k - 1)
    have : (listed.toList.filter id).length + 1 ≤ ((listed.setIfInBounds i true).toList.filter id).length := by
      have hlist : (listed.setIfInBounds i true).toList = listed.toList.set i true := by simp
      rw [hlist]
      have hg : listed.toList[i]? = some false := by
        have : listed[i]? = some false := by
          simp [Array.getD_eq_getD_getElem?, hil] at hD
          simp [hil, hD]
        simpa using this
      exact aux i _ hg
    by_cases hk0 : k = 0
    · omega
    · have := hc (by omega)
      omega
where
  aux : ∀ (i : Nat) (xs : List Bool), xs[i]? = some false → (xs.filter id).length + 1 ≤ ((xs.set i true).filter id).length
    | i, [], h => by simp at h
    | 0, x :: xs, h => by simp at h; subst h; simp
    | i + 1, x :: xs, h => by
      simp only [List.getElem?_cons_succ] at h
      have := aux i xs h
      simp only [List.set_cons_succ, List.filter_cons]
      split <;> simp <;> omega
end ops
end Go.Proofs.YtmnnpgdeecnfpaaGreat

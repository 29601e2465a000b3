/- Maps from numbers to terms. -/
import Derived.Test.YtnoieadimkgjcaaSameI
namespace Go.Proofs.Ytnoieadimkgjcaa
open Go Go.RowKit

theorem findNow_int {n : Int} : ∀ (l : List MapEntry) (i : Nat), (∀ e ∈ l, ∃ m, e.key = .int .i64 m) →
    (∃ j, ∃ e ∈ l, e.key = .int .i64 n ∧ Instr.findNow (.int .i64) (.int .i64 n) l i = some (some (j, e.val))) ∨ ((∀ e ∈ l, e.key ≠ .int .i64 n) ∧ Instr.findNow (.int .i64) (.int .i64 n) l i = some none)
  | [], i, _ => .inr ⟨by simp, rfl⟩
  | e :: l, i, h => by
    obtain ⟨m, hm⟩ := h e (List.mem_cons_self ..)
    have hs : Instr.sameNow (.int .i64) (.int .i64 n) e.key = some (n == m) := by rw [hm]; rfl
    by_cases hnm : n = m
    · refine .inl ⟨i, e, List.mem_cons_self .., by rw [hm, hnm], ?_⟩
      have : (n == m) = true := by simpa using hnm
      rw [Instr.findNow, hs, this]
    · have h2 : (n == m) = false := by simpa using hnm
      rcases findNow_int l (i + 1) (fun e he => h e (List.mem_cons_of_mem _ he)) with ⟨j, e', he', hk, hf⟩ | ⟨hk, hf⟩
      · exact .inl ⟨j, e', List.mem_cons_of_mem _ he', hk, by rw [Instr.findNow, hs, h2]; exact hf⟩
      · refine .inr ⟨fun x hx => ?_, by rw [Instr.findNow, hs, h2]; exact hf⟩
        rcases List.mem_cons.1 hx with rfl | hx
        · rw [hm]
          intro e'
          simp only [Value.int.injEq, true_and] at e'
          exact hnm e'.symm
        · exact hk x hx
section
variable {P : Program} {w w0 : World} {X : List Nat} {L : List Item} {S : Store} {K : Value → World → Prop}
attribute [local irreducible] Run CondV GuardV LoadV
theorem run_findKeyI {kt : TypeId} {d : TypeDesc} {k : Value} {l : List MapEntry} {a : Option (Nat × Value)} (hd : P.underlying kt = some d) (h : Instr.findNow d k l 0 = some a) : (Instr.findKey kt k l).run P w = .ok a w := by
  simp [Instr.findKey, run_underlying hd, Result.andThen, h]
theorem r_makeMap (h : Inv w0 X L S w) {T ty : TypeId} (hk : ∀ b w', Inv w0 X (L ++ [.blk b (.map #[] 0)]) S w' → K (.map (some b)) w') : Run P (sOp (.makeMap T none) ty) w K := by
  refine Run.of (v := .map (some w.heap.size)) (w' := { w with heap := w.heap.push (.map #[] 0) }) ?_ (hk _ _ (h.alloc _))
  simp [sOp, execOp, Instr.makeMap, newObj, Sem.run]
theorem r_lookup (h : Inv w0 X L S w) {T kt et ty : TypeId} {b clock : Nat} {es : Array MapEntry} {n : Int} {z v : Value} {ok : Bool} (i : Nat) (hT : P.underlying T = some (.map kt et)) (hkt : P.underlying kt = some (.int .i64))
    (hz : zeroOf P et = some z) (hi : L[i]? = some (.blk b (.map es clock)))
    (hf : (∃ j, Instr.findNow (.int .i64) (.int .i64 n) es.toList 0 = some (some (j, v)) ∧ ok = true) ∨ (Instr.findNow (.int .i64) (.int .i64 n) es.toList 0 = some none ∧ v = z ∧ ok = false))
    (hk : K (.tuple #[v, .bool ok]) w) : Run P (sOp (.lookup T (.const (.map (some b))) (.const (.int .i64 n)) true) ty) w K := by
  have hb : w.heap[b]? = some (.map es clock) := h.its _ (List.mem_of_getElem? hi)
  have hck : ∀ e, (Instr.checkKey e 10000 kt (.int .i64 n)).run P w = .ok () w := fun e => by
    rw [show (10000 : Nat) = 9999 + 1 from rfl, Instr.checkKey]
    simp [run_underlying hkt]
  obtain ⟨inf, hi1, hi2⟩ : ∃ inf, P.info? et = some inf ∧ inf.zero = some z := by
    unfold zeroOf at hz
    cases hinf : P.info? et with
    | none => rw [hinf] at hz; simp at hz
    | some inf => rw [hinf] at hz; exact ⟨inf, rfl, by simpa using hz⟩
  have hzv : (zeroValue et).run P w = .ok z w := by simp [zeroValue, typeInfo, hi1, hi2]
  refine Run.of ?_ hk
  have hg : (getObj b).run P w = .ok (.map es clock) w := by simp [getObj, Sem.run, hb]
  rcases hf with ⟨j, hf, rfl⟩ | ⟨hf, rfl, rfl⟩
  · have hfk := run_findKeyI (P := P) (w := w) hkt hf
    simp [sOp, execOp, ev0, evE, Instr.lookup, run_underlying hT, hg, hck, hfk]
  · have hfk := run_findKeyI (P := P) (w := w) hkt hf
    simp [sOp, execOp, ev0, evE, Instr.lookup, run_underlying hT, hg, hck, hfk, hzv]
theorem r_mapNew (h : Inv w0 X L S w) {T kt et ty : TypeId} {b clock : Nat} {es : Array MapEntry} {n : Int} {v : Value} (i : Nat) (hT : P.underlying T = some (.map kt et)) (hkt : P.underlying kt = some (.int .i64))
    (hi : L[i]? = some (.blk b (.map es clock))) (hf : Instr.findNow (.int .i64) (.int .i64 n) es.toList 0 = some none)
    (hk : ∀ w', Inv w0 X (L.set i (.blk b (.map (es.push { key := .int .i64 n, val := v, born := clock }) (clock + 1)))) S w' → K undef w') :
    Run P (sOp (.mapUpdate T (.const (.map (some b))) (.const (.int .i64 n)) (.const v)) ty) w K := by
  have hb : w.heap[b]? = some (.map es clock) := h.its _ (List.mem_of_getElem? hi)
  have hck : ∀ e, (Instr.checkKey e 10000 kt (.int .i64 n)).run P w = .ok () w := fun e => by
    rw [show (10000 : Nat) = 9999 + 1 from rfl, Instr.checkKey]
    simp [run_underlying hkt]
  have hg : (getObj b).run P w = .ok (.map es clock) w := by simp [getObj, Sem.run, hb]
  have hfk := run_findKeyI (P := P) (w := w) hkt hf
  refine Run.ofSkip (w' := { w with heap := w.heap.setIfInBounds b (.map (es.push { key := .int .i64 n, val := v, born := clock }) (clock + 1)) }) ?_ (hk _ (h.setBlk hi _ rfl))
  have hst : (setObj b (.map (es.push { key := .int .i64 n, val := v, born := clock }) (clock + 1))).run P w = .ok () { w with heap := w.heap.setIfInBounds b (.map (es.push { key := .int .i64 n, val := v, born := clock }) (clock + 1)) } := by simp [setObj, Sem.run, hb]
  simp [sOp, execOp, ev0, evE, Instr.mapUpdate, run_underlying hT, hg, hck, hfk, hst]
end

end Go.Proofs.Ytnoieadimkgjcaa

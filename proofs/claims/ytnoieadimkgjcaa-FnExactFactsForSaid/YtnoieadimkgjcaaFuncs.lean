/- slices.IndexFunc and slices.ContainsFunc, whatever function is handed to them. -/
import Derived.Test.YtnoieadimkgjcaaLogic
import Derived.Test.YtnoieadimkgjcaaFacts
import Derived.Test.YtnoieadimkgjcaaSh0
import Derived.Test.YtnoieadimkgjcaaSh1
import Derived.Test.YtnoieadimkgjcaaSh2
namespace Go.Proofs.Ytnoieadimkgjcaa
open Go Go.RowKit
attribute [local irreducible] Run CondV GuardV LoadV

def indexF {α σ : Type} (step : σ → α → Bool × σ) : σ → List α → Nat → Int × σ
  | st, [], _ => (-1, st)
  | st, x :: xs, k => if (step st x).1 then ((k : Int), (step st x).2) else indexF step (step st x).2 xs (k + 1)
def anyF {α σ : Type} (step : σ → α → Bool × σ) : σ → List α → Bool × σ
  | st, [] => (false, st)
  | st, x :: xs => if (step st x).1 then (true, (step st x).2) else anyF step (step st x).2 xs
theorem indexF_any {α σ : Type} (step : σ → α → Bool × σ) : ∀ (xs : List α) (st : σ) (k : Nat), decide (0 ≤ (indexF step st xs k).1) = (anyF step st xs).1 ∧ (indexF step st xs k).2 = (anyF step st xs).2
  | [], st, k => by simp [indexF, anyF]
  | x :: xs, st, k => by
    by_cases h : (step st x).1 = true
    · simp [indexF, anyF, h]
    · simpa [indexF, anyF, h] using indexF_any step xs (step st x).2 (k + 1)
theorem anyF_pure {α : Type} (p : α → Bool) : ∀ xs : List α, anyF (σ := Unit) (fun _ x => (p x, ())) () xs = (xs.any p, ())
  | [] => rfl
  | x :: xs => by
    simp only [anyF, List.any_cons]
    cases h : p x with
    | true => rfl
    | false => rw [anyF_pure p xs]; rfl
abbrev fv (f : FuncId) (cap : List Value) : Value := .func (.func f) #[] cap.toArray
section
variable {P : Program} {w w0 : World} {X : List Nat} {A I : List Item} {S : Store} {K : Value → World → Prop}
theorem callV_sem {P : Program} {f : FuncId} {fn : Func} {cap args : List Value} {w : World} (hf : P.funcs[f]? = some fn) (hn : (fn.name == "runtime.NumGoroutine" || fn.body.isNone) = false) :
    (sCall (fv f cap) args).run P w = .ok (.enter f (args ++ cap).toArray) w := by
  simp only [Bool.or_eq_false_iff] at hn
  have h1 : ¬ fn.name = "runtime.NumGoroutine" := by simpa using hn.1
  have h2 : ¬ fn.body = none := fun e => by rw [e] at hn; simp at hn
  simp [sCall, Deferred.ofValue, invoke, callFunc, hf, h1, h2]
theorem Run.callV {f : FuncId} {fn : Func} {cap args : List Value} {Post : Value → List Item → Store → Prop}
    (hf : P.funcs[f]? = some fn) (hn : (fn.name == "runtime.NumGoroutine" || fn.body.isNone) = false) (h : Inv w0 X (A ++ I) S w) (hc : Tri P f (args ++ cap) I S Post)
    (hk : ∀ v I' S' w', Post v I' S' → Sle S S' → Inv w0 X (A ++ I') S' w' → K v w') : Run P (sCall (fv f cap) args) w K := by
  unfold Run
  rw [callV_sem hf hn]
  refine (hc w (h.sub (List.sublist_append_right A I)).begin).mono ?_
  rintro e w' ⟨v, I', S', rfl, hI, hE, hP⟩
  exact hk v I' S' w' hP hE.1 (Inv.step h hI hE.2)
end
/- what a function handed over does to the state that it keeps -/
structure Cb (P : Program) (f : FuncId) (fn : Func) {α σ : Type} (cap : List Value) (S : Store) (It : σ → List Item) (ok : σ → Prop) (step : σ → α → Bool × σ) (R : Value → α → Prop) (xs : List α) : Prop where
  hf : P.funcs[f]? = some fn
  hn : (fn.name == "runtime.NumGoroutine" || fn.body.isNone) = false
  keep : ∀ st x, x ∈ xs → ok st → (step st x).1 = false → ok (step st x).2
  call : ∀ st x v, x ∈ xs → ok st → R v x → Tri P f (v :: cap) (It st) S fun r I' S' => r = .bool (step st x).1 ∧ I' = It (step st x).2 ∧ S' = S
/- a function that only reads, handed over -/
theorem Cb.pure {P : Program} {f : FuncId} {fn : Func} {α : Type} {cap : List Value} {S : Store} {p : α → Bool} {R : Value → α → Prop} {xs : List α} (L : List Item) (hf : P.funcs[f]? = some fn) (hn : (fn.name == "runtime.NumGoroutine" || fn.body.isNone) = false)
    (h : ∀ x v, x ∈ xs → R v x → Tri P f (v :: cap) L S fun r I' S' => r = .bool (p x) ∧ I' = L ∧ S' = S) : Cb P f fn cap S (fun _ : Unit => L) (fun _ => True) (fun _ x => (p x, ())) R xs :=
  ⟨hf, hn, fun _ _ _ _ _ => trivial, fun _ x v hx _ hR => h x v hx hR⟩

theorem IndexFunc_Term_of {σ : Type} {f : FuncId} {fn : Func} {cap : List Value} {S : Store} {It : σ → List Item} {ok : σ → Prop} {step : σ → T → Bool × σ} {xs : List T} {v : Value}
    (hcb : Cb Try.prog f fn cap S It ok step (fun v x => ∃ cs, v = .agg cs.toArray ∧ RdT S cs x) xs) (h : RdSl S 4 (RdT S) v xs) {st : σ} (hok : ok st) :
    Tri Try.prog n_x_IndexFunc_Term [v, fv f cap] (It st) S fun r I' S' => r = .int .i64 (indexF step st xs 0).1 ∧ I' = It (indexF step st xs 0).2 ∧ S' = S := by
  intro w hI
  have hlen := h.le
  simp only [maxLen] at hlen
  refine calls_x_IndexFunc_Term ?_
  unfold sh_x_IndexFunc_Term
  refine r_lenSl h sl_SiTerm ?_
  refine ⟨fun i w' => ∃ (k : Nat) (st' : σ), k ≤ xs.length ∧ i = .int .i64 k ∧ ok st' ∧ indexF step st' (xs.drop k) k = indexF step st xs 0 ∧ Inv w (feet (It st)) (It st') S w', fun i _ => xs.length - (intOf i).toNat,
    ⟨0, st, Nat.zero_le _, rfl, hok, rfl, hI⟩, ?_⟩
  intro t8 _ _ _ _ _ _ _ _ _ _ _ _ w'
  rintro ⟨k, st', hk, rfl, hok', hrel, hI⟩
  refine r_lss ?_
  refine condP (fun hki => ?_) (fun hki => ?_)
  · have hk' : k < xs.length := by omega
    have hm := List.getElem_mem hk'
    have hstep : indexF step st' (xs.drop k) k = if (step st' xs[k]).1 then ((k : Int), (step st' xs[k]).2) else indexF step (step st' xs[k]).2 (xs.drop (k + 1)) (k + 1) := by
      rw [List.drop_eq_getElem_cons hk', indexF]
    refine r_elem hI h sl_SiTerm ag_iTerm hk' (fun _ _ => RdT.length) fun cs hcs => ?_
    refine Run.callV (A := []) (args := [.agg cs.toArray]) hcb.hf hcb.hn (by simpa using hI) (hcb.call st' _ _ hm hok' ⟨cs, rfl, hcs⟩) fun v' I' S' w' => ?_
    rintro ⟨rfl, rfl, rfl⟩ _ hI
    refine condV (fun hb => ?_) (fun hb => ?_)
    · rw [if_pos hb] at hstep
      refine ⟨_, _, _, rfl, by simpa using hI, Ext.refl _ _ _, ?_, ?_, rfl⟩
      · rw [← hrel, hstep]
      · rw [← hrel, hstep]
    · refine r_add (by omega) ?_
      rw [hb] at hstep
      refine ⟨⟨k + 1, _, hk', rfl, hcb.keep st' _ hm hok' hb, ?_, by simpa using hI⟩, by simp [intOf]; omega⟩
      rw [← hrel, hstep]
      rfl
  · have : k = xs.length := by omega
    subst this
    rw [List.drop_length, indexF] at hrel
    exact ⟨_, _, _, rfl, hI, Ext.refl _ _ _, by rw [← hrel], by rw [← hrel], rfl⟩
theorem ContainsFunc_Term_of {σ : Type} {f : FuncId} {fn : Func} {cap : List Value} {S : Store} {It : σ → List Item} {ok : σ → Prop} {step : σ → T → Bool × σ} {xs : List T} {v : Value}
    (hcb : Cb Try.prog f fn cap S It ok step (fun v x => ∃ cs, v = .agg cs.toArray ∧ RdT S cs x) xs) (h : RdSl S 4 (RdT S) v xs) {st : σ} (hok : ok st) :
    Tri Try.prog n_x_ContainsFunc_Term [v, fv f cap] (It st) S fun r I' S' => r = .bool (anyF step st xs).1 ∧ I' = It (anyF step st xs).2 ∧ S' = S := by
  intro w hI
  refine calls_x_ContainsFunc_Term ?_
  unfold sh_x_ContainsFunc_Term
  refine Run.call (A := []) fn_x_IndexFunc_Term nm_x_IndexFunc_Term (by simpa using hI) (IndexFunc_Term_of hcb h hok) fun v' I' S' w' => ?_
  rintro ⟨rfl, rfl, rfl⟩ _ hI
  refine r_geq ?_
  have he := indexF_any step xs st 0
  exact ⟨_, _, _, rfl, by simpa using hI, Ext.refl _ _ _, by rw [he.1], by rw [he.2], rfl⟩
theorem IndexFunc_Clause_of {σ : Type} {f : FuncId} {fn : Func} {cap : List Value} {S : Store} {It : σ → List Item} {ok : σ → Prop} {step : σ → C → Bool × σ} {xs : List C} {v : Value}
    (hcb : Cb Try.prog f fn cap S It ok step (fun v x => ∃ cs, v = .agg cs.toArray ∧ RdC S cs x) xs) (h : RdSl S 5 (RdC S) v xs) {st : σ} (hok : ok st) :
    Tri Try.prog n_x_IndexFunc_Clause [v, fv f cap] (It st) S fun r I' S' => r = .int .i64 (indexF step st xs 0).1 ∧ I' = It (indexF step st xs 0).2 ∧ S' = S := by
  intro w hI
  have hlen := h.le
  simp only [maxLen] at hlen
  refine calls_x_IndexFunc_Clause ?_
  unfold sh_x_IndexFunc_Clause
  refine r_lenSl h sl_SiClause ?_
  refine ⟨fun i w' => ∃ (k : Nat) (st' : σ), k ≤ xs.length ∧ i = .int .i64 k ∧ ok st' ∧ indexF step st' (xs.drop k) k = indexF step st xs 0 ∧ Inv w (feet (It st)) (It st') S w', fun i _ => xs.length - (intOf i).toNat,
    ⟨0, st, Nat.zero_le _, rfl, hok, rfl, hI⟩, ?_⟩
  intro t8 _ _ _ _ _ _ _ _ _ _ _ _ w'
  rintro ⟨k, st', hk, rfl, hok', hrel, hI⟩
  refine r_lss ?_
  refine condP (fun hki => ?_) (fun hki => ?_)
  · have hk' : k < xs.length := by omega
    have hm := List.getElem_mem hk'
    have hstep : indexF step st' (xs.drop k) k = if (step st' xs[k]).1 then ((k : Int), (step st' xs[k]).2) else indexF step (step st' xs[k]).2 (xs.drop (k + 1)) (k + 1) := by
      rw [List.drop_eq_getElem_cons hk', indexF]
    refine r_elem hI h sl_SiClause ag_iClause hk' (fun _ _ => RdC.length) fun cs hcs => ?_
    refine Run.callV (A := []) (args := [.agg cs.toArray]) hcb.hf hcb.hn (by simpa using hI) (hcb.call st' _ _ hm hok' ⟨cs, rfl, hcs⟩) fun v' I' S' w' => ?_
    rintro ⟨rfl, rfl, rfl⟩ _ hI
    refine condV (fun hb => ?_) (fun hb => ?_)
    · rw [if_pos hb] at hstep
      refine ⟨_, _, _, rfl, by simpa using hI, Ext.refl _ _ _, ?_, ?_, rfl⟩
      · rw [← hrel, hstep]
      · rw [← hrel, hstep]
    · refine r_add (by omega) ?_
      rw [hb] at hstep
      refine ⟨⟨k + 1, _, hk', rfl, hcb.keep st' _ hm hok' hb, ?_, by simpa using hI⟩, by simp [intOf]; omega⟩
      rw [← hrel, hstep]
      rfl
  · have : k = xs.length := by omega
    subst this
    rw [List.drop_length, indexF] at hrel
    exact ⟨_, _, _, rfl, hI, Ext.refl _ _ _, by rw [← hrel], by rw [← hrel], rfl⟩
theorem ContainsFunc_Clause_of {σ : Type} {f : FuncId} {fn : Func} {cap : List Value} {S : Store} {It : σ → List Item} {ok : σ → Prop} {step : σ → C → Bool × σ} {xs : List C} {v : Value}
    (hcb : Cb Try.prog f fn cap S It ok step (fun v x => ∃ cs, v = .agg cs.toArray ∧ RdC S cs x) xs) (h : RdSl S 5 (RdC S) v xs) {st : σ} (hok : ok st) :
    Tri Try.prog n_x_ContainsFunc_Clause [v, fv f cap] (It st) S fun r I' S' => r = .bool (anyF step st xs).1 ∧ I' = It (anyF step st xs).2 ∧ S' = S := by
  intro w hI
  refine calls_x_ContainsFunc_Clause ?_
  unfold sh_x_ContainsFunc_Clause
  refine Run.call (A := []) fn_x_IndexFunc_Clause nm_x_IndexFunc_Clause (by simpa using hI) (IndexFunc_Clause_of hcb h hok) fun v' I' S' w' => ?_
  rintro ⟨rfl, rfl, rfl⟩ _ hI
  refine r_geq ?_
  have he := indexF_any step xs st 0
  exact ⟨_, _, _, rfl, by simpa using hI, Ext.refl _ _ _, by rw [he.1], by rw [he.2], rfl⟩

end Go.Proofs.Ytnoieadimkgjcaa

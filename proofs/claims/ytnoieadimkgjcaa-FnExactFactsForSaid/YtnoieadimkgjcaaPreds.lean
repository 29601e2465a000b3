/- Names of goals with their numbers of arguments: built, compared; the clauses for one. -/
import Derived.Test.YtnoieadimkgjcaaFlat
import Derived.Laws.StructEq
import Derived.Laws.Tables
namespace Go.Proofs.Ytnoieadimkgjcaa
open Go Go.RowKit

theorem fields_iPred : Try.prog.underlying t_iPred = some (.struct (Try.prog.fieldsOf t_iPred)) := by kernel_rfl
theorem held_iPred : Try.prog.stoodInHeld t_iPred = false := by kernel_rfl
theorem guard_iPred : Try.prog.eqGuardType Try.prog.depth t_iPred = false := by kernel_rfl
theorem run_partSc {P : Program} {w : World} {T : TypeId} {cs : Array Value} {off : Nat} {v : Value} (h : isSc P T = true) (hx : cs[off]? = some v) : (part T cs off).run P w = .ok v w := by
  simp [part, (isSc_true (w := w) h).1, hx]
theorem eq_iPred {w : World} (s s' : ByteArray) (n n' : Int) :
    (Op.equalIn 10000 t_iPred (.agg #[.string s, .int .i64 n]) (.agg #[.string s', .int .i64 n'])).run Try.prog w = .ok (decide (s = s') && decide (n = n')) w := by
  rw [show (10000 : Nat) = 9999 + 1 from rfl, run_equalIn_struct w 9999 t_iPred _ _ fields_iPred held_iPred]
  have hf : (Try.prog.fieldsOf t_iPred).toList = [(Try.prog.fieldsOf t_iPred)[0]!, (Try.prog.fieldsOf t_iPred)[1]!] := by kernel_rfl
  have h0 : ((Try.prog.fieldsOf t_iPred)[0]!).type = t_string := by kernel_rfl
  have h1 : ((Try.prog.fieldsOf t_iPred)[1]!).type = t_int := by kernel_rfl
  have o0 : ((Try.prog.fieldsOf t_iPred)[0]!).offset = 0 := by kernel_rfl
  have o1 : ((Try.prog.fieldsOf t_iPred)[1]!).offset = 1 := by kernel_rfl
  have n0 : ((Try.prog.fieldsOf t_iPred)[0]!).name ≠ "_" := by decide +kernel
  have n1 : ((Try.prog.fieldsOf t_iPred)[1]!).name ≠ "_" := by decide +kernel
  rw [hf]
  have e0 : (Op.equalIn (9998 + 1) t_string (.string s) (.string s')).run Try.prog w = .ok (decide (s = s')) w := by
    rw [run_equalIn_string w 9998 t_string s s' un_string, bytes_eq]
  have e1 : (Op.equalIn (9998 + 1) t_int (.int .i64 n) (.int .i64 n')).run Try.prog w = .ok (decide (n = n')) w := by
    rw [run_equalIn_int w 9998 t_int .i64 .i64 n n' un_int]; rfl
  rw [show (9999 : Nat) = 9998 + 1 from rfl]
  generalize hg0 : (Try.prog.fieldsOf t_iPred)[0]! = g0 at *
  generalize hg1 : (Try.prog.fieldsOf t_iPred)[1]! = g1 at *
  simp only [Op.eqFields, n0, n1, ne_eq, not_false_eq_true, if_true, Sem.run_bind, h0, h1, o0, o1]
  rw [run_partSc sc_string (v := .string s) rfl, Result.andThen_ok, run_partSc sc_string (v := .string s') rfl, Result.andThen_ok, e0, Result.andThen_ok]
  cases decide (s = s') with
  | false => rfl
  | true =>
    simp only [Bool.not_true, Bool.false_eq_true, if_false, Sem.run_bind]
    rw [run_partSc sc_int (v := .int .i64 n) rfl, Result.andThen_ok, run_partSc sc_int (v := .int .i64 n') rfl, Result.andThen_ok, e1, Result.andThen_ok]
    cases decide (n = n') with
    | false => rfl
    | true => rfl
section
variable {w : World} {K : Value → World → Prop}
attribute [local irreducible] Run
theorem run_peql {cx cy : Bool} {s s' : ByteArray} {n n' : Int} :
    (sBin .eql t_iPred cx cy (.agg #[.string s, .int .i64 n]) (.agg #[.string s', .int .i64 n'])).run Try.prog w = .ok (.value (.bool (decide (s = s') && decide (n = n')))) w := by
  unfold sBin
  rw [Sem.run_bind, run_eqGuard_agg w .eql t_iPred _ _ _ _ guard_iPred, Result.andThen_ok, Sem.run_bind, run_eql_struct, eq_iPred, Result.andThen_ok, Result.andThen_ok]
  rfl
theorem run_buildPred {s : ByteArray} {n : Int} : (sBuild t_iPred [(0, .string s), (1, .int .i64 n)]).run Try.prog w = .ok (.value (.agg #[.string s, .int .i64 n])) w := by
  unfold sBuild
  rw [Sem.run_bind, run_build w t_iPred _ #[.string s, .int .i64 n] (by kernel_rfl), Result.andThen_ok]
  rfl
theorem r_peql {cx cy : Bool} {s s' : ByteArray} {n n' : Int} (hk : K (.bool (decide (s = s') && decide (n = n'))) w) : Run Try.prog (sBin .eql t_iPred cx cy (.agg #[.string s, .int .i64 n]) (.agg #[.string s', .int .i64 n'])) w K :=
  Run.of run_peql hk
theorem r_buildPred {s : ByteArray} {n : Int} (hk : K (.agg #[.string s, .int .i64 n]) w) : Run Try.prog (sBuild t_iPred [(0, .string s), (1, .int .i64 n)]) w K :=
  Run.of run_buildPred hk
end

attribute [local irreducible] Run CondV GuardV LoadV
structure Pd where
  name : ByteArray
  arity : Int
deriving DecidableEq
def Pd.cells (x : Pd) : List Value := [.string x.name, .int .i64 x.arity]
def RdPd (cs : List Value) (x : Pd) : Prop := cs = x.cells
def predT (t : T) : Pd := ⟨t.name, t.kids.length⟩
def eqPd (x y : Pd) : Bool := decide (x.name = y.name) && decide (x.arity = y.arity)
theorem eqPd_iff (x y : Pd) : eqPd x y = decide (x = y) := by
  obtain ⟨a, b⟩ := x
  obtain ⟨c, d⟩ := y
  rw [eqPd, Bool.eq_iff_iff]
  simp
theorem i_pred_calls {t : T} {S : Store} {cs : List Value} (h : RdT S cs t) : Pure Try.prog n_i_pred [.agg cs.toArray] S (.agg (predT t).cells.toArray) := by
  intro w hI
  obtain ⟨kv, rfl, _, _, hs, hks⟩ := RdT.iff.1 h
  obtain ⟨k, n, s, ks⟩ := t
  simp only [T.name, T.kids, T.kind, T.n] at hs hks ⊢
  refine calls_i_pred ?_
  unfold sh_i_pred
  refine r_box hI fun b1 w' hI => ?_
  refine r_alloc hI zo_iPred fun b2 w' hI => ?_
  refine r_fieldL hI 0 rfl fo_iTerm_2 sc_string rfl ?_
  refine r_fieldL hI 0 rfl fo_iTerm_3 sc_SiTerm rfl ?_
  refine r_lenSl hks sl_SiTerm ?_
  refine r_buildPred ?_
  refine r_storeW hI 1 rfl ag_iPred rfl rfl (by simp [Value.oneCell']) fun w' hI => ?_
  refine loadV_W hI 1 ag_iPred rfl rfl ?_
  exact done hI rfl
theorem s_l14Of_calls {t : T} {S : Store} {cs : List Value} (h : RdT S cs t) : Pure Try.prog n_s_l14Of [.agg cs.toArray] S (.agg (predT t).cells.toArray) := by
  intro w hI
  obtain ⟨kv, rfl, _, _, hs, hks⟩ := RdT.iff.1 h
  obtain ⟨k, n, s, ks⟩ := t
  simp only [T.name, T.kids, T.kind, T.n] at hs hks ⊢
  refine calls_s_l14Of ?_
  unfold sh_s_l14Of
  refine r_box hI fun b1 w' hI => ?_
  refine r_alloc hI zo_iPred fun b2 w' hI => ?_
  refine r_fieldL hI 0 rfl fo_iTerm_2 sc_string rfl ?_
  refine r_fieldL hI 0 rfl fo_iTerm_3 sc_SiTerm rfl ?_
  refine r_lenSl hks sl_SiTerm ?_
  refine r_buildPred ?_
  refine r_storeW hI 1 rfl ag_iPred rfl rfl (by simp [Value.oneCell']) fun w' hI => ?_
  refine loadV_W hI 1 ag_iPred rfl rfl ?_
  exact done hI rfl

def posOf (f : C → Bool) : List C → Nat → List Int
  | [], _ => []
  | c :: cs, k => if f c = true then (k : Int) :: posOf f cs (k + 1) else posOf f cs (k + 1)
theorem posOf_at (f : C → Bool) : ∀ (p : List C) (k : Nat) (n : Int), n ∈ posOf f p k → ∃ i : Nat, (k : Int) ≤ n ∧ n = k + i ∧ ∃ h : i < p.length, f p[i] = true
  | [], k, n, h => by simp [posOf] at h
  | c :: cs, k, n, h => by
    have hrec : n ∈ posOf f cs (k + 1) → ∃ i : Nat, (k : Int) ≤ n ∧ n = k + i ∧ ∃ h : i < (c :: cs).length, f (c :: cs)[i] = true := by
      intro h
      obtain ⟨i, h1, h2, h3, h4⟩ := posOf_at f cs (k + 1) n h
      exact ⟨i + 1, by omega, by omega, by simpa using h3, by simpa using h4⟩
    rw [posOf] at h
    split at h
    · rcases List.mem_cons.1 h with rfl | h
      · exact ⟨0, by omega, by omega, by simp, by simpa using ‹f c = true›⟩
      · exact hrec h
    · exact hrec h
theorem posOf_len (f : C → Bool) : ∀ (p : List C) (k : Nat), (posOf f p k).length ≤ p.length
  | [], k => by simp [posOf]
  | c :: cs, k => by
    have := posOf_len f cs (k + 1)
    rw [posOf]
    split <;> simp <;> omega

end Go.Proofs.Ytnoieadimkgjcaa

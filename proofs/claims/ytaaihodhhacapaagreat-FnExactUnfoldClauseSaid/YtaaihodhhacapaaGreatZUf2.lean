/- The sizes of clauses and of programs, and what they bound. -/
import Derived.Test.YtaaihodhhacapaaGreatZUf1
import Derived.Laws.BytesArg
import Derived.Laws.StructEq
import Derived.Laws.Tables
namespace Go.Proofs.YtaaihodhhacapaaGreat
open Go Go.RowKit
attribute [local irreducible] Run CondV GuardV LoadV

def szC (c : C) (left : Int) : Int := if szT c.head left < 0 then -1 else if szTs c.body (szT c.head left) < 0 then -1 else szTs c.body (szT c.head left)
def szP : List C → Int → Int
  | [], left => left
  | c :: cs, left => if szC c left < 0 then -1 else szP cs (szC c left)
def szPs (p : List C) (left : Int) : Int := if left - p.length < 0 then -1 else szP p (left - p.length)

mutual
theorem sz_wT : ∀ (t : T) (left : Int), 0 ≤ left → 0 ≤ szT t left → szT t left + wT t ≤ left
  | .mk k n s ks, left, h, h2 => by
    simp only [szT] at h2 ⊢
    rw [wT]
    split at h2
    · omega
    · rename_i h3
      rw [if_neg h3]
      split at h2
      · omega
      · rename_i h4
        rw [if_neg h4]
        have := sz_wL ks _ (by omega) h2
        omega
theorem sz_wL : ∀ (ts : List T) (left : Int), 0 ≤ left → 0 ≤ szL ts left → szL ts left + wL ts ≤ left
  | [], left, h, h2 => by simp [szL, wL]
  | t :: ts, left, h, h2 => by
    simp only [szL] at h2 ⊢
    rw [wL]
    split at h2
    · omega
    · rename_i h3
      rw [if_neg h3]
      have h4 := sz_wT t left h (by omega)
      have h5 := sz_wL ts _ (by omega) h2
      omega
end
theorem szTs_le (ts : List T) (left : Int) (h : 0 ≤ left) : -1 ≤ szTs ts left ∧ szTs ts left ≤ left := by
  unfold szTs
  split
  · omega
  · have := szL_le ts (left - ts.length) (by omega)
    omega
theorem sz_wTs {ts : List T} {left : Int} (h2 : 0 ≤ szTs ts left) : szTs ts left + (ts.length + wL ts) ≤ left := by
  unfold szTs at h2 ⊢
  split at h2
  · omega
  · rename_i h3
    rw [if_neg h3]
    have := sz_wL ts _ (by omega) h2
    omega
theorem szC_le (c : C) (left : Int) (h : 0 ≤ left) : -1 ≤ szC c left ∧ szC c left ≤ left := by
  unfold szC
  have h1 := szT_le c.head left h
  split
  · omega
  · have h2 := szTs_le c.body (szT c.head left) (by omega)
    split <;> omega
theorem sz_wC {c : C} {left : Int} (h : 0 ≤ left) (h2 : 0 ≤ szC c left) : szC c left + wC c ≤ left := by
  unfold szC at h2 ⊢
  unfold wC
  have h1 := szT_le c.head left h
  split at h2
  · omega
  · rename_i h3
    rw [if_neg h3]
    split at h2
    · omega
    · rename_i h4
      rw [if_neg h4]
      have := sz_wT c.head left h (by omega)
      have := sz_wTs (ts := c.body) (left := szT c.head left) h2
      omega
theorem sz_wP : ∀ (p : List C) (left : Int), 0 ≤ left → 0 ≤ szP p left → szP p left + wP p ≤ left
  | [], left, h, h2 => by simp [szP, wP]
  | c :: cs, left, h, h2 => by
    simp only [szP] at h2 ⊢
    rw [wP]
    split at h2
    · omega
    · rename_i h3
      rw [if_neg h3]
      have h4 := sz_wC (c := c) h (by omega)
      have h5 := sz_wP cs _ (by omega) h2
      omega
theorem sz_wPs {p : List C} {left : Int} (h2 : 0 ≤ szPs p left) : szPs p left + (p.length + wP p) ≤ left := by
  unfold szPs at h2 ⊢
  split at h2
  · omega
  · rename_i h3
    rw [if_neg h3]
    have := sz_wP p _ (by omega) h2
    omega

theorem szClause_calls {c : C} {S : Store} {cs : List Value} {left : Int} (h : RdC S cs c) (h0 : 0 ≤ left) (h1 : left ≤ 4611686018427387904) : Pure Tryz.prog n_l_szClause [.agg cs.toArray, .int .i64 left] S (.int .i64 (szC c left)) := by
  intro w hI
  obtain ⟨hd, ks, rfl, g1, g2⟩ := h
  have g1' := g1
  obtain ⟨kv, rfl, _⟩ := RdT.iff.1 g1
  have hb := szT_le c.head left h0
  refine calls_l_szClause ?_
  unfold sh_l_szClause
  refine r_box hI fun b1 w' hI => ?_
  refine r_field fo_lClause_0 ?_
  refine r_loadLA hI 0 [.int .i64 c.head.kind, .int .i64 c.head.n, .string c.head.name, kv] ag_lTerm rfl rfl sub4 ?_
  refine Run.callPure fn_l_szTerm nm_l_szTerm hI (szTerm_calls _ S _ left g1' h0 h1) fun w' hI => ?_
  refine r_lss ?_
  refine condP (fun hlt => done hI (by rw [szC, if_pos hlt])) (fun hlt => ?_)
  refine r_fieldL hI 0 rfl fo_lClause_1 sc_SlTerm rfl ?_
  refine Run.callPure fn_l_szTermS nm_l_szTermS hI (szTermS_calls g2 (by omega) (by omega)) fun w' hI => ?_
  refine r_lss ?_
  refine condP (fun hlt2 => done hI (by rw [szC, if_neg hlt, if_pos hlt2])) (fun hlt2 => done hI (by rw [szC, if_neg hlt, if_neg hlt2]))
theorem szClauseS_calls {p : List C} {S : Store} {v : Value} {left : Int} (h : RdSl S 5 (RdC S) v p) (h0 : 0 ≤ left) (h1 : left ≤ 4611686018427387904) : Pure Tryz.prog n_l_szClauseS [v, .int .i64 left] S (.int .i64 (szPs p left)) := by
  intro w hI
  have hlen : (p.length : Int) ≤ 9223372036854775807 := by have := h.le; simp only [maxLen] at this; omega
  refine calls_l_szClauseS ?_
  unfold sh_l_szClauseS
  refine r_lenSl h sl_SlClause ?_
  refine r_sub (by omega) ?_
  refine r_lss ?_
  refine condP (fun hlt => ?_) (fun hlt => ?_)
  · exact done hI (by rw [szPs, if_pos hlt])
  refine ⟨fun i l w' => ∃ (k : Nat) (l' : Int), k ≤ p.length ∧ i = .int .i64 k ∧ l = .int .i64 l' ∧ 0 ≤ l' ∧ l' ≤ left ∧ szP (p.drop k) l' = szP p (left - p.length) ∧ Inv w [] [] S w',
    fun i _ _ => p.length - (intOf i).toNat, ⟨0, _, Nat.zero_le _, rfl, rfl, by omega, by omega, rfl, hI⟩, ?_⟩
  intro t5 _ _ _ _ _ t1 _ _ _ _ _ _ _ _ _ _ w'
  rintro ⟨k, l', hk, rfl, rfl, hl0, hl1, hrel, hI⟩
  refine r_lenSl h sl_SlClause ?_
  refine r_lss ?_
  refine condP (fun hki => ?_) (fun hki => ?_)
  · have hk' : k < p.length := by omega
    refine r_elem hI h sl_SlClause ag_lClause hk' (fun _ _ => RdC.length) fun cs hcs => ?_
    have hb := szC_le p[k] l' hl0
    refine Run.callPure fn_l_szClause nm_l_szClause hI (szClause_calls hcs hl0 (by omega)) fun w' hI => ?_
    have hstep : szP (p.drop k) l' = if szC p[k] l' < 0 then -1 else szP (p.drop (k + 1)) (szC p[k] l') := by
      rw [List.drop_eq_getElem_cons hk', szP]
    refine r_lss ?_
    refine condP (fun hneg => ?_) (fun hneg => ?_)
    · exact done hI (by rw [szPs, if_neg hlt, ← hrel, hstep, if_pos hneg])
    · refine r_add (by omega) ?_
      refine ⟨⟨k + 1, _, hk', rfl, rfl, by omega, by omega, ?_, hI⟩, by simp [intOf]; omega⟩
      rw [← hrel, hstep, if_neg hneg]
  · have : k = p.length := by omega
    subst this
    exact done hI (by rw [szPs, if_neg hlt, ← hrel, List.drop_length, szP])

/- toClauseS, and what it made published -/
theorem Run.toClauseS {w w0 : World} {X : List Nat} {L : List Item} {S : Store} {K : Value → World → Prop} {p : List C} {v : Value} (hI : Inv w0 X L S w) (h : RdSl S 5 (RdC S) v p) (hw : p.length + wP p ≤ 1048576)
    (hk : ∀ v' S' w', Sle S S' → RdSl S' 5 (RdC S') v' p → Inv w0 X L S' w' → K v' w') : Run Tryz.prog (sCall (.func (.func n_l_toClauseS) #[] #[]) [v]) w K := by
  refine Run.call0 fn_l_toClauseS nm_l_toClauseS hI (toClauseS_calls h hw) fun v' I' S' w' => ?_
  rintro ⟨rfl, M, rfl, hT⟩ _ hI
  obtain ⟨S2, hI, hle, hins, _⟩ := Inv.publishAll M hI
  exact hk _ _ _ hle (hT.rd hins fun _ _ _ hi h => h.rd hi) hI
theorem Run.toTerm {w w0 : World} {X : List Nat} {L : List Item} {S : Store} {K : Value → World → Prop} {t : T} {cs : List Value} (hI : Inv w0 X L S w) (h : RdT S cs t) (hw : wT t ≤ 1048576)
    (hk : ∀ cs' S' w', Sle S S' → RdT S' cs' t → Inv w0 X L S' w' → K (.agg cs'.toArray) w') : Run Tryz.prog (sCall (.func (.func n_l_toTerm) #[] #[]) [.agg cs.toArray]) w K := by
  refine Run.call0 fn_l_toTerm nm_l_toTerm hI (toTerm_calls _ S _ h hw) fun v' I' S' w' => ?_
  rintro ⟨rfl, cs', M, rfl, rfl, hT⟩ _ hI
  obtain ⟨S2, hI, hle, hins, _⟩ := Inv.publishAll M hI
  exact hk _ _ _ hle (hT.rd hins) hI
end Go.Proofs.YtaaihodhhacapaaGreat

/- The laws' marks: laws.markText. -/
namespace Go.Proofs.YtaaihodhhacapaaGreat
open Go Go.RowKit
section
variable {P : Program} {w w0 : World} {X : List Nat} {L : List Item} {S : Store} {K : Value → World → Prop}
attribute [local irreducible] Run CondV GuardV LoadV
theorem r_rem {T : TypeId} {cx cy : Bool} {a b : Int} (hb : b ≠ 0) (hk : K (.int .i64 (a.tmod b)) w) : Run P (sBin .rem T cx cy (.int .i64 a) (.int .i64 b)) w K :=
  Run.of (by simp [sBin, eqGuard_int, binOp, Op.intDiv, hb]) hk
theorem r_quo {T : TypeId} {cx cy : Bool} {a b : Int} (hb : b ≠ 0) (hr : -9223372036854775808 ≤ a.tdiv b ∧ a.tdiv b ≤ 9223372036854775807) (hk : K (.int .i64 (a.tdiv b)) w) : Run P (sBin .quo T cx cy (.int .i64 a) (.int .i64 b)) w K :=
  Run.of (by simp [sBin, eqGuard_int, binOp, Op.intDiv, hb, IntWalk.i64_in _ hr]) hk
theorem r_cat {T : TypeId} {cx cy : Bool} {a b : ByteArray} (hr : a.size + b.size ≤ 9223372036854775807) (hk : K (.string (a ++ b)) w) : Run P (sBin .add T cx cy (.string a) (.string b)) w K := by
  refine Run.of ?_ hk
  have h1 : ¬ (((a.size + b.size : Nat) : Int) > IntKind.i64.max) := by
    have e : IntKind.i64.max = 9223372036854775807 := by decide
    rw [e]
    omega
  simp only [sBin, binOp, Op.stringOp, Sem.run_bind, eqGuard_str, Result.andThen_ok, if_neg h1, Sem.run_pure]
theorem r_toInt {T U ty : TypeId} {k k' : IntKind} {n : Int} (hT : P.underlying T = some (.int k')) (hU : P.underlying U = some (.int k)) (hk : K (.int k (k.wrap n)) w) : Run P (sOp (.convert T U (.const (.int k' n))) ty) w K :=
  Run.of (by simp [sOp, execOp, ev0, evE, convert, Conv.intToInt, run_underlying hT, run_underlying hU]) hk
theorem slice_parts' {T e : TypeId} {k : Nat} (h : sliceOf P T = some (e, k)) : P.underlying T = some (.slice e) := by
  unfold sliceOf at h
  split at h
  · rename_i e1 he
    rw [Option.map_eq_some_iff] at h
    obtain ⟨i, hi, hx⟩ := h
    simp only [Prod.mk.injEq] at hx
    rw [he, hx.1]
  · cases h
theorem r_byteStr (h : Inv w0 X L S w) {T U ty e E : TypeId} {b cap : Nat} {n : Int} (i : Nat) (hT : P.underlying T = some (.slice e)) (he : P.underlying e = some (.int .u8)) (hU : P.underlying U = some .string)
    (hi : L[i]? = some (.blk b (.cells #[.int .u8 n] E))) (hk : K (.string (strOfNums [n])) w) : Run P (sOp (.convert T U (.const (.slice (some ⟨b, 0, none⟩) 1 cap))) ty) w K := by
  refine Run.of ?_ hk
  have := run_convert_bytes_arg w T e hT he b 0 1 cap [n] rfl (fun i hi' => by
    rw [h.cellL hi]
    have : i = 0 := by omega
    subst this
    rfl) U hU
  simp [sOp, execOp, ev0, evE, this]
end

def mtF : Nat → Int → ByteArray → ByteArray
  | 0, _, s => s
  | n + 1, k, s => if 0 < k then mtF n (k.tdiv 10) (strOfNums [IntKind.u8.wrap (48 + k.tmod 10)] ++ s) else s
def markS (k : Int) : ByteArray := if k ≤ 0 then ⟨#[109, 48]⟩ else ⟨#[109]⟩ ++ mtF k.toNat k ⟨#[]⟩
theorem tdiv_lt {k : Int} (h : 0 < k) : 0 ≤ k.tdiv 10 ∧ k.tdiv 10 ≤ k - 1 := by
  rw [Int.tdiv_eq_ediv_of_nonneg (by omega)]
  omega
theorem cat_size (a b : ByteArray) : (a ++ b).size = a.size + b.size := by simp [ByteArray.size_append]
theorem mtF_size : ∀ (n : Nat) (k : Int) (s : ByteArray), 0 ≤ k → ((mtF n k s).size : Int) ≤ s.size + k
  | 0, k, s, h => by simp only [mtF]; omega
  | n + 1, k, s, h => by
    rw [mtF]
    split
    · rename_i hk
      have h1 := tdiv_lt hk
      have := mtF_size n (k.tdiv 10) (strOfNums [IntKind.u8.wrap (48 + k.tmod 10)] ++ s) h1.1
      rw [cat_size, strOfNums_size] at this
      simp at this
      omega
    · omega
theorem markS_size (k : Int) (hk : k ≤ 4611686018427387904) : (markS k).size ≤ maxLen := by
  unfold markS
  simp only [maxLen]
  split
  · exact Nat.le_of_lt (by decide)
  · rw [cat_size]
    have := mtF_size k.toNat k ⟨#[]⟩ (by omega)
    have e1 : (⟨#[109]⟩ : ByteArray).size = 1 := rfl
    have e2 : (⟨#[]⟩ : ByteArray).size = 0 := rfl
    rw [e2] at this
    rw [e1]
    omega
section
attribute [local irreducible] Run CondV GuardV LoadV
theorem markText_calls (k : Int) (S : Store) (hk : k ≤ 4611686018427387904) : Pure Tryz.prog n_l_markText [.int .i64 k] S (.string (markS k)) := by
  intro w hI
  refine calls_l_markText ?_
  unfold sh_l_markText
  refine r_leq ?_
  refine condP (fun h0 => done hI (by rw [markS, if_pos h0])) (fun h0 => ?_)
  refine ⟨fun a b w' => ∃ (n : Nat) (j : Int) (s : ByteArray), a = .int .i64 j ∧ b = .string s ∧ 0 ≤ j ∧ j ≤ n ∧ mtF n j s = mtF k.toNat k ⟨#[]⟩ ∧ (s.size : Int) + j ≤ k ∧ Inv w [] [] S w', fun a _ _ => (intOf a).toNat,
    ⟨k.toNat, k, _, rfl, rfl, by omega, by omega, rfl, by rw [show (⟨#[]⟩ : ByteArray).size = 0 from rfl]; omega, hI⟩, ?_⟩
  intro t0 _ _ t3 _ _ _ _ _ _ _ _ _ _ w'
  rintro ⟨n, j, s, rfl, rfl, hj0, hjn, hrel, hsz, hI⟩
  refine r_gtr ?_
  refine condP (fun hj => ?_) (fun hj => ?_)
  · obtain ⟨m, rfl⟩ : ∃ m, n = m + 1 := ⟨n - 1, by omega⟩
    have h1 := tdiv_lt hj
    rw [mtF, if_pos hj] at hrel
    refine r_rem (by decide) ?_
    have hm : 0 ≤ j.tmod 10 ∧ j.tmod 10 < 10 := by
      rw [Int.tmod_eq_emod_of_nonneg hj0]
      omega
    refine r_add (by omega) ?_
    refine r_toInt un_int un_uint8 ?_
    refine r_slice1 hI mk_Suint8 rfl (by omega) (by omega) fun b w' hI => ?_
    refine r_byteStr hI 0 (slice_parts' sl_Suint8) un_uint8 un_string rfl ?_
    refine r_cat ?_ ?_
    · rw [strOfNums_size]
      simp
      omega
    refine r_quo (by decide) (by omega) ?_
    refine ⟨⟨m, _, _, rfl, rfl, h1.1, by omega, hrel, ?_, hI.nil⟩, by simp [intOf]; omega⟩
    rw [cat_size, strOfNums_size]
    simp
    omega
  · refine r_cat ?_ ?_
    · rw [show (⟨#[109]⟩ : ByteArray).size = 1 from rfl]
      omega
    refine done hI ?_
    rw [markS, if_neg h0, ← hrel]
    cases n with
    | zero => rfl
    | succ n => rw [mtF, if_neg hj]
end

end Go.Proofs.YtaaihodhhacapaaGreat

/- The laws' marks, written into trees of the function's own. -/
namespace Go.Proofs.YtaaihodhhacapaaGreat
open Go Go.RowKit

theorem cellsAt_put1 {c : Array Value} {p k j : Nat} {v : Value} (hj : j < k) (hf : p + k ≤ c.size) : cellsAt (putCells c (p + j) [v]) p k = (cellsAt c p k).set j v := by
  apply List.ext_getElem?
  intro i
  simp only [cellsAt, putCells, List.getElem?_take, List.getElem?_drop, List.getElem?_set]
  by_cases hi : i < k
  · rw [if_pos hi]
    simp only [List.getElem?_append, List.length_append, List.length_take, Array.length_toList, List.length_singleton, List.getElem?_take, List.getElem?_drop]
    have e1 : min (p + j) c.size = p + j := by omega
    rw [e1]
    by_cases h1 : j = i
    · subst h1
      rw [if_pos rfl, if_pos (by omega), if_neg (by omega), if_pos (by rw [List.length_drop, Array.length_toList]; omega)]
      simp
    · rw [if_neg h1]
      by_cases h2 : p + i < p + j
      · rw [if_pos (by omega), if_pos h2, if_pos h2, if_pos hi]
      · rw [if_neg (by omega), if_pos hi]
        congr 1
        omega
  · rw [if_neg hi]
    by_cases h1 : j = i
    · omega
    · rw [if_neg h1, if_neg hi]
theorem Part.upd {α : Type} {k : Nat} {R : Heaplet → List Value → α → Prop} {c c' : Array Value} {Ls : List Heaplet} {xs : List α} (h : Part k R c Ls xs) {i : Nat} {L' : Heaplet} {x : α} (hx : R L' (cellsAt c' (i * k) k) x)
    (hne : ∀ j, j ≠ i → cellsAt c' (j * k) k = cellsAt c (j * k) k) : Part k R c' (Ls.set i L') (xs.set i x) := by
  refine ⟨by simp [h.1], fun j h1 h2 => ?_⟩
  by_cases e : i = j
  · subst e
    rw [List.getElem_set_self, List.getElem_set_self]
    exact hx
  · rw [List.getElem_set_ne e, List.getElem_set_ne e, hne j fun e' => e e'.symm]
    exact h.2 j (by simpa using h1) (by simpa using h2)
theorem flat_pull {cur : List Heaplet} {j : Nat} (h : j < cur.length) : List.Perm (blks cur.flatten) (blks (cur.take j ++ cur.drop (j + 1)).flatten ++ blks cur[j]) := by
  have e : cur.flatten = (cur.take j).flatten ++ (cur[j] ++ (cur.drop (j + 1)).flatten) := by
    have h1 := List.take_append_drop j cur
    rw [List.drop_eq_getElem_cons h] at h1
    have h3 := congrArg List.flatten h1
    rw [List.flatten_append, List.flatten_cons] at h3
    exact h3.symm
  rw [e, List.flatten_append, blks_append, blks_append, blks_append, List.append_assoc]
  exact List.Perm.append_left _ List.perm_append_comm
theorem flat_set {cur : List Heaplet} {j : Nat} (h : j < cur.length) (M : Heaplet) : List.Perm (blks (cur.set j M).flatten) (blks (cur.take j ++ cur.drop (j + 1)).flatten ++ blks M) := by
  have e : (cur.set j M).flatten = (cur.take j).flatten ++ (M ++ (cur.drop (j + 1)).flatten) := by
    rw [List.set_eq_take_append_cons_drop, if_pos h]
    simp
  rw [e, List.flatten_append, blks_append, blks_append, blks_append, List.append_assoc]
  exact List.Perm.append_left _ List.perm_append_comm

mutual
def mkT : T → Int → T × Int
  | .mk _ _ _ ks, k => (.mk k (k + 1) (markS (k + 2)) (mkL ks (k + 3)).1, (mkL ks (k + 3)).2)
def mkL : List T → Int → List T × Int
  | [], k => ([], k)
  | t :: ts, k => ((mkT t k).1 :: (mkL ts (mkT t k).2).1, (mkL ts (mkT t k).2).2)
end
mutual
theorem mkT_end : ∀ (t : T) (k : Int), (mkT t k).2 = k + 3 * cntT t
  | .mk _ _ _ ks, k => by
    rw [mkT, mkL_end ks (k + 3), show cntT (T.mk _ _ _ ks) = 1 + cntL ks from rfl]
    omega
theorem mkL_end : ∀ (ts : List T) (k : Int), (mkL ts k).2 = k + 3 * cntL ts
  | [], k => by simp [mkL, cntL]
  | t :: ts, k => by
    rw [mkL]
    show (mkL ts (mkT t k).2).2 = _
    rw [mkL_end ts, mkT_end t k, show cntL (t :: ts) = cntT t + cntL ts from rfl]
    omega
end
theorem mkL_drop (ts : List T) (k : Int) (j : Nat) (h : j < ts.length) : mkL (ts.drop j) k = ((mkT ts[j] k).1 :: (mkL (ts.drop (j + 1)) (mkT ts[j] k).2).1, (mkL (ts.drop (j + 1)) (mkT ts[j] k).2).2) := by
  rw [List.drop_eq_getElem_cons h, mkL]
theorem mkT_eq (t : T) (k : Int) : mkT t k = (.mk k (k + 1) (markS (k + 2)) (mkL t.kids (k + 3)).1, (mkL t.kids (k + 3)).2) := by
  cases t; rw [mkT]; rfl
theorem mkL_len : ∀ (ts : List T) (k : Int), (mkL ts k).1.length = ts.length
  | [], k => rfl
  | t :: ts, k => by rw [mkL]; simp [mkL_len ts]

def MarkOk (ts : List T) : Prop := ∀ (S : Store) (L : Heaplet) (v : Value) (k : Int), TrSl 4 TrT L v ts → 0 ≤ k → k + 3 * cntL ts ≤ 4611686018427387904 →
  Tri Tryz.prog n_l_markTermS [v, .int .i64 k] (blks L) S fun r I' S' => S' = S ∧ r = .int .i64 (mkL ts k).2 ∧ ∃ L', I' = blks L' ∧ TrSl 4 TrT L' v (mkL ts k).1
section
attribute [local irreducible] Run CondV GuardV LoadV
theorem markTermS_of {ts : List T} (ih : ∀ t ∈ ts, MarkOk t.kids) : MarkOk ts := by
  intro S L v k hT hk0 hk w hI
  obtain ⟨a, cap, rfl, hl, hc, hT⟩ := hT
  refine calls_l_markTermS ?_
  unfold sh_l_markTermS
  rcases hT with ⟨rfl, rfl⟩ | ⟨b, c, E, Ls, rfl, rfl, hLs, hsz, hT⟩
  · refine ⟨fun i m w' => i = .int .i64 0 ∧ m = .int .i64 k ∧ Inv w [] [] S w', fun _ _ _ => 0, ⟨rfl, rfl, hI⟩, ?_⟩
    intro t5 _ _ _ _ _ _ _ _ _ _ _ _ _ _ _ _ _ _ _ _ _ _ _ _ t1 _ _ _ _ _ _ _ _ _ _ _ w'
    rintro ⟨rfl, rfl, hI⟩
    refine r_len sl_SiTerm ?_
    refine r_lss ?_
    refine condP (fun h => by simp at h) (fun _ => ?_)
    exact ⟨_, _, _, rfl, hI, Ext.refl _ _ _, rfl, by rw [mkL], [], rfl, TrSl.nil hc⟩
  · obtain ⟨X, hX⟩ : ∃ X, X = feet (blks ((b, .cells c E) :: Ls.flatten)) := ⟨_, rfl⟩
    rw [← hX] at hI ⊢
    simp only [maxLen] at hc
    refine ⟨fun i m w' => ∃ (j : Nat) (c' : Array Value) (cur : List Heaplet) (m' : Int) (dn : List T), j ≤ ts.length ∧ i = .int .i64 j ∧ m = .int .i64 m' ∧ dn.length = j ∧ c'.size = c.size ∧ Part 4 TrT c' cur (dn ++ ts.drop j) ∧
        dn ++ (mkL (ts.drop j) m').1 = (mkL ts k).1 ∧ (mkL (ts.drop j) m').2 = (mkL ts k).2 ∧ 0 ≤ m' ∧ m' + 3 * cntL (ts.drop j) ≤ 4611686018427387904 ∧ Inv w X (blks ((b, .cells c' E) :: cur.flatten)) S w',
      fun i _ _ => ts.length - (intOf i).toNat, ⟨0, c, Ls, k, [], Nat.zero_le _, rfl, rfl, rfl, rfl, ⟨hLs, hT⟩, rfl, rfl, hk0, hk, hI⟩, ?_⟩
    intro t5 _ _ _ _ _ _ _ _ _ _ _ _ _ _ _ _ _ _ _ _ _ _ _ _ t1 _ _ _ _ _ _ _ _ _ _ _ w'
    rintro ⟨j, c', cur, m, dn, hj, rfl, rfl, hdn, hcs, hP, hr1, hr2, hm0, hm, hI⟩
    refine r_len sl_SiTerm ?_
    refine r_lss ?_
    refine condP (fun hji => ?_) (fun hji => ?_)
    · have hj' : j < ts.length := by omega
      have hpl : (dn ++ ts.drop j).length = ts.length := by simp; omega
      have hcl : cur.length = ts.length := by rw [hP.1, hpl]
      have hjc : j < cur.length := by omega
      have hge : (dn ++ ts.drop j)[j]'(by omega) = ts[j] := by
        rw [List.getElem_append_right (by omega)]
        simp [hdn]
      have hTj := hP.2 j (by omega) hjc
      rw [hge] at hTj
      obtain ⟨kv, hcell, _, _, _, hkT⟩ := TrT.iff.1 hTj
      have hkv : kv.oneCell' = true ∧ kv.cells = #[kv] := by obtain ⟨a, cap', rfl, _⟩ := hkT; exact ⟨rfl, rfl⟩
      have hfit : j * 4 + 4 ≤ c'.size := by
        have : (j + 1) * 4 ≤ cap * 4 := Nat.mul_le_mul_right 4 (by omega)
        omega
      rw [mkL_drop ts m j hj'] at hr1 hr2
      rw [cntL_split ts j hj'] at hm
      have hcn := cntL_pos (ts.drop (j + 1))
      have hcm : cntT ts[j] = 1 + cntL ts[j].kids := by
        cases ts[j]; rfl
      have hck := cntL_pos ts[j].kids
      obtain ⟨c1, hc1⟩ : ∃ c1, c1 = putCells c' (j * 4 + 0) [.int .i64 m] := ⟨_, rfl⟩
      obtain ⟨c2, hc2⟩ : ∃ c2, c2 = putCells c1 (j * 4 + 1) [.int .i64 (m + 1)] := ⟨_, rfl⟩
      obtain ⟨c3, hc3⟩ : ∃ c3, c3 = putCells c2 (j * 4 + 2) [.string (markS (m + 2))] := ⟨_, rfl⟩
      have hs1 : c1.size = c'.size := by rw [hc1]; exact putCells_size _ _ _ (by simp; omega)
      have hs2 : c2.size = c'.size := by rw [hc2]; exact (putCells_size _ _ _ (by simp; omega)).trans hs1
      have hs3 : c3.size = c'.size := by rw [hc3]; exact (putCells_size _ _ _ (by simp; omega)).trans hs2
      refine r_indexAddr sl_SiTerm hj' ?_
      refine r_field fo_iTerm_0 ?_
      rw [Nat.zero_add]
      refine r_store hI 0 (n := 1) rfl (by decide +kernel) rfl (by omega) (by simp [Value.cells, Value.oneCell']) fun w' hI => ?_
      have hI : Inv w X (.blk b (.cells c1 E) :: blks cur.flatten) S w' := by rw [hc1]; exact hI
      refine r_add (by omega) ?_
      refine r_indexAddr sl_SiTerm hj' ?_
      refine r_field fo_iTerm_1 ?_
      rw [Nat.zero_add]
      refine r_store hI 0 (n := 1) rfl (by decide +kernel) rfl (by omega) (by simp [Value.cells, Value.oneCell']) fun w' hI => ?_
      have hI : Inv w X (.blk b (.cells c2 E) :: blks cur.flatten) S w' := by rw [hc2]; exact hI
      refine r_add (by omega) ?_
      have e2 : m + 1 + 1 = m + 2 := by omega
      rw [e2]
      refine Run.callPure fn_l_markText nm_l_markText hI (markText_calls _ S (by omega)) fun w' hI => ?_
      refine r_indexAddr sl_SiTerm hj' ?_
      refine r_field fo_iTerm_2 ?_
      rw [Nat.zero_add]
      refine r_store hI 0 (n := 1) rfl (by decide +kernel) rfl (by omega) (by simp [Value.cells, Value.oneCell']) fun w' hI => ?_
      have hI : Inv w X (.blk b (.cells c3 E) :: blks cur.flatten) S w' := by rw [hc3]; exact hI
      refine r_add (by omega) ?_
      refine r_indexAddr sl_SiTerm hj' ?_
      refine r_field fo_iTerm_3 ?_
      rw [Nat.zero_add]
      have hcc : cellsAt c3 (j * 4) 4 = [.int .i64 m, .int .i64 (m + 1), .string (markS (m + 2)), kv] := by
        rw [hc3, cellsAt_put1 (by omega) (by omega), hc2, cellsAt_put1 (by omega) (by omega), hc1, cellsAt_put1 (by omega) (by omega), hcell]
        rfl
      have hne : ∀ i, i ≠ j → cellsAt c3 (i * 4) 4 = cellsAt c' (i * 4) 4 := by
        intro i hi
        have : i * 4 + 4 ≤ j * 4 ∨ j * 4 + 4 ≤ i * 4 := by omega
        rw [hc3, cellsAt_put_ne (by simp; omega) (by simp; omega), hc2, cellsAt_put_ne (by simp; omega) (by simp; omega), hc1, cellsAt_put_ne (by simp; omega) (by simp; omega)]
      refine r_load sc_SiTerm (by rw [hI.cellL (i := 0) rfl]; exact cellsAt_get hcc 3 _ rfl) ?_
      have hI := hI.perm (M := (.blk b (.cells c3 E) :: blks (cur.take j ++ cur.drop (j + 1)).flatten) ++ blks cur[j]) ((flat_pull hjc).symm.cons _)
      have e3 : m + 2 + 1 = m + 3 := by omega
      rw [e3]
      refine Run.call (A := .blk b (.cells c3 E) :: blks (cur.take j ++ cur.drop (j + 1)).flatten) fn_l_markTermS nm_l_markTermS hI (ih _ (List.getElem_mem hj') S cur[j] kv (m + 3) hkT (by omega) (by omega)) fun v' I' S' w' => ?_
      rintro ⟨rfl, rfl, L', rfl, hT'⟩ _ hI
      have hI : Inv w X (blks ((b, .cells c3 E) :: (cur.set j L').flatten)) S' w' := hI.perm ((flat_set hjc L').cons _)
      refine r_add (by omega) ?_
      rw [mkT_eq] at hr1 hr2
      refine ⟨⟨j + 1, c3, cur.set j L', _, dn ++ [.mk m (m + 1) (markS (m + 2)) (mkL ts[j].kids (m + 3)).1], hj', rfl, rfl, by simp [hdn], by omega, ?_, ?_, hr2, ?_, ?_, hI⟩, by simp [intOf]; omega⟩
      · have hnew : TrT L' (cellsAt c3 (j * 4) 4) (.mk m (m + 1) (markS (m + 2)) (mkL ts[j].kids (m + 3)).1) :=
          TrT.iff.2 ⟨kv, hcc, ⟨by simp only [T.kind]; omega, by simp only [T.kind]; omega⟩, ⟨by simp only [T.n]; omega, by simp only [T.n]; omega⟩, markS_size _ (by omega), hT'⟩
        have := hP.upd hnew hne
        have e : (dn ++ ts.drop j).set j (.mk m (m + 1) (markS (m + 2)) (mkL ts[j].kids (m + 3)).1) = (dn ++ [.mk m (m + 1) (markS (m + 2)) (mkL ts[j].kids (m + 3)).1]) ++ ts.drop (j + 1) := by
          rw [List.set_append, if_neg (by omega), List.drop_eq_getElem_cons hj', hdn, Nat.sub_self, List.append_assoc]
          rfl
        rw [e] at this
        exact this
      · rw [← hr1]
        simp
      · rw [mkL_end]; omega
      · rw [mkL_end]; omega
    · have : j = ts.length := by omega
      subst this
      rw [List.drop_length] at hr1 hr2 hP
      simp only [mkL, List.append_nil] at hr1 hr2 hP
      subst hr1 hr2
      have hl' := mkL_len ts k
      refine ⟨_, _, _, rfl, hI, Ext.refl _ _ _, rfl, rfl, _, rfl, ?_⟩
      rw [← hl']
      exact hP.sl (by omega) (by simp only [maxLen]; omega) (by omega)
theorem markKids_ok : ∀ t : T, MarkOk t.kids := by
  refine T.ind fun k n s ks ih => ?_
  exact markTermS_of ih
theorem markTermS_ok (ts : List T) : MarkOk ts := markTermS_of fun t _ => markKids_ok t
end

end Go.Proofs.YtaaihodhhacapaaGreat

/- The laws' marks, written into clauses of the function's own. -/
namespace Go.Proofs.YtaaihodhhacapaaGreat
open Go Go.RowKit

def mkC (c : C) (k : Int) : C × Int := (⟨.mk k (k + 1) (markS (k + 2)) (mkL c.head.kids (k + 3)).1, (mkL c.body (mkL c.head.kids (k + 3)).2).1⟩, (mkL c.body (mkL c.head.kids (k + 3)).2).2)
def mkP : List C → Int → List C × Int
  | [], k => ([], k)
  | c :: cs, k => ((mkC c k).1 :: (mkP cs (mkC c k).2).1, (mkP cs (mkC c k).2).2)
def cntC (c : C) : Int := cntT c.head + cntL c.body
def cntP : List C → Int
  | [] => 0
  | c :: cs => cntC c + cntP cs
theorem cntC_eq (c : C) : cntC c = 1 + cntL c.head.kids + cntL c.body := by
  obtain ⟨⟨k, n, s, ks⟩, b⟩ := c
  rfl
theorem cntC_pos (c : C) : 0 ≤ cntC c := by
  have := cntL_pos c.head.kids
  have := cntL_pos c.body
  rw [cntC_eq]
  omega
theorem cntP_pos : ∀ p : List C, 0 ≤ cntP p
  | [] => Int.le_refl _
  | c :: p => by
    have := cntP_pos p
    have := cntC_pos c
    rw [cntP]; omega
theorem cntC_wC (c : C) : cntC c ≤ 1 + (wC c : Int) := by
  obtain ⟨⟨k, n, s, ks⟩, b⟩ := c
  rw [cntC_eq]
  have h1 := cnt_wL ks
  have h2 := cnt_wL b
  simp only [wC, wT, T.kids]
  omega
theorem cntP_wP : ∀ p : List C, cntP p ≤ p.length + (wP p : Int)
  | [] => by simp [cntP, wP]
  | c :: p => by
    have := cntP_wP p
    have := cntC_wC c
    rw [cntP, wP, List.length_cons]
    omega
theorem cntP_split (p : List C) (j : Nat) (h : j < p.length) : cntP (p.drop j) = cntC p[j] + cntP (p.drop (j + 1)) := by
  rw [List.drop_eq_getElem_cons h, cntP]
theorem mkC_end (c : C) (k : Int) : (mkC c k).2 = k + 3 * cntC c := by
  rw [mkC, cntC_eq]
  show (mkL c.body (mkL c.head.kids (k + 3)).2).2 = _
  rw [mkL_end, mkL_end]
  omega
theorem mkP_end : ∀ (p : List C) (k : Int), (mkP p k).2 = k + 3 * cntP p
  | [], k => by simp [mkP, cntP]
  | c :: p, k => by
    rw [mkP, cntP]
    show (mkP p (mkC c k).2).2 = _
    rw [mkP_end p, mkC_end]
    omega
theorem mkP_drop (p : List C) (k : Int) (j : Nat) (h : j < p.length) : mkP (p.drop j) k = ((mkC p[j] k).1 :: (mkP (p.drop (j + 1)) (mkC p[j] k).2).1, (mkP (p.drop (j + 1)) (mkC p[j] k).2).2) := by
  rw [List.drop_eq_getElem_cons h, mkP]
theorem mkP_len : ∀ (p : List C) (k : Int), (mkP p k).1.length = p.length
  | [], k => rfl
  | c :: p, k => by rw [mkP]; simp [mkP_len p]

section
attribute [local irreducible] Run CondV GuardV LoadV
theorem TrC.parts {L : Heaplet} {cs : List Value} {c : C} (h : TrC L cs c) : ∃ kv ks L1 L2, cs = [.int .i64 c.head.kind, .int .i64 c.head.n, .string c.head.name, kv, ks] ∧ L = L1 ++ L2 ∧ TrSl 4 TrT L1 kv c.head.kids ∧ TrSl 4 TrT L2 ks c.body := by
  obtain ⟨hd, ks, L1, L2, rfl, rfl, h1, h2⟩ := h
  obtain ⟨kv, rfl, _, _, _, hkT⟩ := TrT.iff.1 h1
  exact ⟨kv, ks, L1, L2, rfl, rfl, hkT, h2⟩
theorem markClauseS_ok {p : List C} {S : Store} {L : Heaplet} {v : Value} {k : Int} (hT : TrSl 5 TrC L v p) (hk0 : 0 ≤ k) (hk : k + 3 * cntP p ≤ 4611686018427387904) :
    Tri Tryz.prog n_l_markClauseS [v, .int .i64 k] (blks L) S fun r I' S' => S' = S ∧ r = .int .i64 (mkP p k).2 ∧ ∃ L', I' = blks L' ∧ TrSl 5 TrC L' v (mkP p k).1 := by
  intro w hI
  obtain ⟨a, cap, rfl, hl, hc, hT⟩ := hT
  refine calls_l_markClauseS ?_
  unfold sh_l_markClauseS
  rcases hT with ⟨rfl, rfl⟩ | ⟨b, c, E, Ls, rfl, rfl, hLs, hsz, hT⟩
  · refine ⟨fun i m w' => i = .int .i64 0 ∧ m = .int .i64 k ∧ Inv w [] [] S w', fun _ _ _ => 0, ⟨rfl, rfl, hI⟩, ?_⟩
    intro t5 _ _ _ _ _ _ _ _ _ _ _ _ _ _ _ _ _ _ _ _ _ _ _ _ _ _ _ _ _ _ _ _ _ _ t1 _ _ _ _ _ _ _ _ _ _ _ _ w'
    rintro ⟨rfl, rfl, hI⟩
    refine r_len sl_SiClause ?_
    refine r_lss ?_
    refine condP (fun h => by simp at h) (fun _ => ?_)
    exact ⟨_, _, _, rfl, hI, Ext.refl _ _ _, rfl, by rw [mkP], [], rfl, TrSl.nil hc⟩
  · obtain ⟨X, hX⟩ : ∃ X, X = feet (blks ((b, .cells c E) :: Ls.flatten)) := ⟨_, rfl⟩
    rw [← hX] at hI ⊢
    simp only [maxLen] at hc
    refine ⟨fun i m w' => ∃ (j : Nat) (c' : Array Value) (cur : List Heaplet) (m' : Int) (dn : List C), j ≤ p.length ∧ i = .int .i64 j ∧ m = .int .i64 m' ∧ dn.length = j ∧ c'.size = c.size ∧ Part 5 TrC c' cur (dn ++ p.drop j) ∧
        dn ++ (mkP (p.drop j) m').1 = (mkP p k).1 ∧ (mkP (p.drop j) m').2 = (mkP p k).2 ∧ 0 ≤ m' ∧ m' + 3 * cntP (p.drop j) ≤ 4611686018427387904 ∧ Inv w X (blks ((b, .cells c' E) :: cur.flatten)) S w',
      fun i _ _ => p.length - (intOf i).toNat, ⟨0, c, Ls, k, [], Nat.zero_le _, rfl, rfl, rfl, rfl, ⟨hLs, hT⟩, rfl, rfl, hk0, hk, hI⟩, ?_⟩
    intro t5 _ _ _ _ _ _ _ _ _ _ _ _ _ _ _ _ _ _ _ _ _ _ _ _ _ _ _ _ _ _ _ _ _ _ t1 _ _ _ _ _ _ _ _ _ _ _ _ w'
    rintro ⟨j, c', cur, m, dn, hj, rfl, rfl, hdn, hcs, hP, hr1, hr2, hm0, hm, hI⟩
    refine r_len sl_SiClause ?_
    refine r_lss ?_
    refine condP (fun hji => ?_) (fun hji => ?_)
    · have hj' : j < p.length := by omega
      have hpl : (dn ++ p.drop j).length = p.length := by simp; omega
      have hcl : cur.length = p.length := by rw [hP.1, hpl]
      have hjc : j < cur.length := by omega
      have hge : (dn ++ p.drop j)[j]'(by omega) = p[j] := by
        rw [List.getElem_append_right (by omega)]
        simp [hdn]
      have hTj := hP.2 j (by omega) hjc
      rw [hge] at hTj
      obtain ⟨kv, ks, L1, L2, hcell, hLL, hkT, hbT⟩ := hTj.parts
      have hfit : j * 5 + 5 ≤ c'.size := by
        have : (j + 1) * 5 ≤ cap * 5 := Nat.mul_le_mul_right 5 (by omega)
        omega
      rw [mkP_drop p m j hj'] at hr1 hr2
      rw [cntP_split p j hj', cntC_eq] at hm
      have hcn := cntP_pos (p.drop (j + 1))
      have hck := cntL_pos p[j].head.kids
      have hcb := cntL_pos p[j].body
      obtain ⟨c1, hc1⟩ : ∃ c1, c1 = putCells c' (j * 5 + 0) [.int .i64 m] := ⟨_, rfl⟩
      obtain ⟨c2, hc2⟩ : ∃ c2, c2 = putCells c1 (j * 5 + 1) [.int .i64 (m + 1)] := ⟨_, rfl⟩
      obtain ⟨c3, hc3⟩ : ∃ c3, c3 = putCells c2 (j * 5 + 2) [.string (markS (m + 2))] := ⟨_, rfl⟩
      have hs1 : c1.size = c'.size := by rw [hc1]; exact putCells_size _ _ _ (by simp; omega)
      have hs2 : c2.size = c'.size := by rw [hc2]; exact (putCells_size _ _ _ (by simp; omega)).trans hs1
      have hs3 : c3.size = c'.size := by rw [hc3]; exact (putCells_size _ _ _ (by simp; omega)).trans hs2
      refine r_indexAddr sl_SiClause hj' ?_
      refine r_field fo_iClause_0 ?_
      refine r_field fo_iTerm_0 ?_
      rw [Nat.zero_add, Nat.add_zero]
      refine r_store hI 0 (n := 1) rfl (by decide +kernel) rfl (by omega) (by simp [Value.cells, Value.oneCell']) fun w' hI => ?_
      have hI : Inv w X (.blk b (.cells c1 E) :: blks cur.flatten) S w' := by rw [hc1]; exact hI
      refine r_add (by omega) ?_
      refine r_indexAddr sl_SiClause hj' ?_
      refine r_field fo_iClause_0 ?_
      refine r_field fo_iTerm_1 ?_
      rw [Nat.zero_add, Nat.add_zero]
      refine r_store hI 0 (n := 1) rfl (by decide +kernel) rfl (by omega) (by simp [Value.cells, Value.oneCell']) fun w' hI => ?_
      have hI : Inv w X (.blk b (.cells c2 E) :: blks cur.flatten) S w' := by rw [hc2]; exact hI
      refine r_add (by omega) ?_
      have e2 : m + 1 + 1 = m + 2 := by omega
      rw [e2]
      refine Run.callPure fn_l_markText nm_l_markText hI (markText_calls _ S (by omega)) fun w' hI => ?_
      refine r_indexAddr sl_SiClause hj' ?_
      refine r_field fo_iClause_0 ?_
      refine r_field fo_iTerm_2 ?_
      rw [Nat.zero_add, Nat.add_zero]
      refine r_store hI 0 (n := 1) rfl (by decide +kernel) rfl (by omega) (by simp [Value.cells, Value.oneCell']) fun w' hI => ?_
      have hI : Inv w X (.blk b (.cells c3 E) :: blks cur.flatten) S w' := by rw [hc3]; exact hI
      refine r_add (by omega) ?_
      have hcc : cellsAt c3 (j * 5) 5 = [.int .i64 m, .int .i64 (m + 1), .string (markS (m + 2)), kv, ks] := by
        rw [hc3, cellsAt_put1 (by omega) (by omega), hc2, cellsAt_put1 (by omega) (by omega), hc1, cellsAt_put1 (by omega) (by omega), hcell]
        rfl
      have hne : ∀ i, i ≠ j → cellsAt c3 (i * 5) 5 = cellsAt c' (i * 5) 5 := by
        intro i hi
        have : i * 5 + 5 ≤ j * 5 ∨ j * 5 + 5 ≤ i * 5 := by omega
        rw [hc3, cellsAt_put_ne (by simp; omega) (by simp; omega), hc2, cellsAt_put_ne (by simp; omega) (by simp; omega), hc1, cellsAt_put_ne (by simp; omega) (by simp; omega)]
      refine r_indexAddr sl_SiClause hj' ?_
      refine r_field fo_iClause_0 ?_
      refine r_field fo_iTerm_3 ?_
      rw [Nat.zero_add, Nat.add_zero]
      refine r_load sc_SiTerm (by rw [hI.cellL (i := 0) rfl]; exact cellsAt_get hcc 3 _ rfl) ?_
      have e3 : m + 2 + 1 = m + 3 := by omega
      rw [e3]
      have hI := hI.perm (M := (.blk b (.cells c3 E) :: blks (cur.take j ++ cur.drop (j + 1)).flatten) ++ blks cur[j]) ((flat_pull hjc).symm.cons _)
      rw [hLL, blks_append] at hI
      have hI := hI.perm (M := ((.blk b (.cells c3 E) :: blks (cur.take j ++ cur.drop (j + 1)).flatten) ++ blks L2) ++ blks L1) (by rw [List.append_assoc]; exact List.Perm.append_left _ List.perm_append_comm)
      refine Run.call (A := (.blk b (.cells c3 E) :: blks (cur.take j ++ cur.drop (j + 1)).flatten) ++ blks L2) fn_l_markTermS nm_l_markTermS hI (markTermS_ok _ S L1 kv (m + 3) hkT (by omega) (by omega)) fun v' I' S' w' => ?_
      rintro ⟨rfl, rfl, L1', rfl, hT1⟩ _ hI
      have hI := hI.perm (M := ((.blk b (.cells c3 E) :: blks (cur.take j ++ cur.drop (j + 1)).flatten) ++ blks L1') ++ blks L2) (by rw [List.append_assoc, List.append_assoc]; exact List.Perm.append_left _ List.perm_append_comm)
      refine r_indexAddr sl_SiClause hj' ?_
      refine r_field fo_iClause_1 ?_
      rw [Nat.zero_add]
      refine r_load sc_SiTerm (by rw [hI.cellL (i := 0) rfl]; exact cellsAt_get hcc 4 _ rfl) ?_
      have hme := mkL_end p[j].head.kids (m + 3)
      refine Run.call (A := (.blk b (.cells c3 E) :: blks (cur.take j ++ cur.drop (j + 1)).flatten) ++ blks L1') fn_l_markTermS nm_l_markTermS hI (markTermS_ok _ S' L2 ks _ hbT (by omega) (by omega)) fun v' I' S2 w' => ?_
      rintro ⟨rfl, rfl, L2', rfl, hT2⟩ _ hI
      have hI : Inv w X (blks ((b, .cells c3 E) :: (cur.set j (L1' ++ L2')).flatten)) S2 w' := by
        refine hI.perm ?_
        rw [List.append_assoc, ← blks_append]
        exact (flat_set hjc (L1' ++ L2')).cons _
      refine r_add (by omega) ?_
      have hmc : mkC p[j] m = (⟨.mk m (m + 1) (markS (m + 2)) (mkL p[j].head.kids (m + 3)).1, (mkL p[j].body (mkL p[j].head.kids (m + 3)).2).1⟩, (mkL p[j].body (mkL p[j].head.kids (m + 3)).2).2) := rfl
      have hce := mkC_end p[j] m
      rw [cntC_eq] at hce
      have hnew : TrC (L1' ++ L2') (cellsAt c3 (j * 5) 5) (mkC p[j] m).1 := by
        rw [hmc]
        exact ⟨_, ks, L1', L2', hcc, rfl, TrT.iff.2 ⟨kv, rfl, ⟨by simp only [T.kind]; omega, by simp only [T.kind]; omega⟩, ⟨by simp only [T.n]; omega, by simp only [T.n]; omega⟩, markS_size _ (by omega), hT1⟩, hT2⟩
      refine ⟨⟨j + 1, c3, cur.set j (L1' ++ L2'), (mkC p[j] m).2, dn ++ [(mkC p[j] m).1], hj', rfl, rfl, by simp [hdn], by omega, ?_, ?_, hr2, by omega, by omega, hI⟩, by simp [intOf]; omega⟩
      · have := hP.upd hnew hne
        have e : (dn ++ p.drop j).set j (mkC p[j] m).1 = (dn ++ [(mkC p[j] m).1]) ++ p.drop (j + 1) := by
          rw [List.set_append, if_neg (by omega), List.drop_eq_getElem_cons hj', hdn, Nat.sub_self, List.append_assoc]
          rfl
        rw [e] at this
        exact this
      · rw [← hr1]
        simp
    · have : j = p.length := by omega
      subst this
      rw [List.drop_length] at hr1 hr2 hP
      simp only [mkP, List.append_nil] at hr1 hr2 hP
      subst hr1 hr2
      have hl' := mkP_len p k
      refine ⟨_, _, _, rfl, hI, Ext.refl _ _ _, rfl, rfl, _, rfl, ?_⟩
      rw [← hl']
      exact hP.sl (by omega) (by simp only [maxLen]; omega) (by omega)
end

end Go.Proofs.YtaaihodhhacapaaGreat

/- The laws' marks, read again. -/
namespace Go.Proofs.YtaaihodhhacapaaGreat
open Go Go.RowKit

def HeldOk (ts : List T) : Prop := ∀ (S : Store) (v : Value) (k : Int), RdSl S 4 (RdT S) v (mkL ts k).1 → 0 ≤ k → k + 3 * cntL ts ≤ 4611686018427387904 →
  Pure Tryz.prog n_l_heldTermS [v, .int .i64 k] S (.int .i64 (mkL ts k).2)
section
attribute [local irreducible] Run CondV GuardV LoadV
theorem heldTermS_of {ts : List T} (ih : ∀ t ∈ ts, HeldOk t.kids) : HeldOk ts := by
  intro S v k h hk0 hk w hI
  have hlen := h.le
  have hml := mkL_len ts k
  simp only [maxLen] at hlen
  refine calls_l_heldTermS ?_
  unfold sh_l_heldTermS
  refine ⟨fun i m w' => ∃ (j : Nat) (m' : Int), j ≤ ts.length ∧ i = .int .i64 j ∧ m = .int .i64 m' ∧ (mkL ts k).1.drop j = (mkL (ts.drop j) m').1 ∧ (mkL (ts.drop j) m').2 = (mkL ts k).2 ∧ 0 ≤ m' ∧ m' + 3 * cntL (ts.drop j) ≤ 4611686018427387904 ∧ Inv w [] [] S w',
    fun i _ _ => ts.length - (intOf i).toNat, ⟨0, k, Nat.zero_le _, rfl, rfl, rfl, rfl, hk0, hk, hI⟩, ?_⟩
  intro t5 _ _ _ _ _ _ _ _ _ _ _ _ _ _ _ _ _ _ _ _ _ _ _ _ _ _ _ _ _ _ t1 _ _ _ _ _ _ _ _ _ _ _ _ _ _ w'
  rintro ⟨j, m, hj, rfl, rfl, hr1, hr2, hm0, hm, hI⟩
  refine r_lenSl h sl_SiTerm ?_
  refine r_lss ?_
  refine condP (fun hji => ?_) (fun hji => ?_)
  · have hj' : j < ts.length := by omega
    have hjm : j < (mkL ts k).1.length := by omega
    rw [mkL_drop ts m j hj'] at hr1 hr2
    rw [List.drop_eq_getElem_cons hjm, List.cons.injEq] at hr1
    obtain ⟨hel, hr1⟩ := hr1
    rw [mkT_eq] at hel hr1 hr2
    rw [cntL_split ts j hj'] at hm
    have hcn := cntL_pos (ts.drop (j + 1))
    have hcm : cntT ts[j] = 1 + cntL ts[j].kids := by
      cases ts[j]; rfl
    have hck := cntL_pos ts[j].kids
    have hke := mkL_end ts[j].kids (m + 3)
    obtain ⟨b, o, cap, c, E, fz, hv, hS, hR⟩ := h.at_ hjm
    rw [hel] at hR
    obtain ⟨kv, hcell, _, _, _, hkR⟩ := RdT.iff.1 hR
    subst hv
    have e0 : m + 1 + 1 = m + 2 := by omega
    have e1 : m + 2 + 1 = m + 3 := by omega
    refine r_indexAddr sl_SiTerm hjm ?_
    refine r_field fo_iTerm_0 ?_
    refine r_load sc_int (by rw [hI.cellS hS]; exact cellsAt_get hcell 0 _ rfl) ?_
    refine r_neq ?_
    refine condV (fun hb => by simp [T.kind] at hb) (fun _ => ?_)
    refine r_add (by omega) ?_
    refine r_indexAddr sl_SiTerm hjm ?_
    refine r_field fo_iTerm_1 ?_
    refine r_load sc_int (by rw [hI.cellS hS]; exact cellsAt_get hcell 1 _ rfl) ?_
    refine r_neq ?_
    refine condV (fun hb => by simp [T.n] at hb) (fun _ => ?_)
    refine r_add (by omega) ?_
    rw [e0]
    refine ⟨fun D x37 x36 x35 x34 x33 x32 x31 x30 w_ => (D 0 = true → x30 = .slice (some ⟨b, o, none⟩) (mkL ts k).1.length cap) ∧ (D 1 = true → x31 = .int .i64 j) ∧ (D 2 = true → x32 = .pointer (some ⟨b, o + j * 4, none⟩)) ∧ (D 3 = true → x33 = .pointer (some ⟨b, o + j * 4 + 2, none⟩)) ∧ (D 4 = true → x34 = .string (markS (m + 2))) ∧ (D 5 = true → x35 = .int .i64 (m + 2)) ∧ (D 6 = true → x36 = .string (markS (m + 2))) ∧ (D 7 = true → x37 = .bool false) ∧ Inv w [] [] S w_, ⟨fun h => Bool.noConfusion h, fun h => Bool.noConfusion h, fun h => Bool.noConfusion h, fun h => Bool.noConfusion h, fun h => Bool.noConfusion h, fun h => Bool.noConfusion h, fun h => Bool.noConfusion h, fun h => Bool.noConfusion h, hI.draw⟩, ⟨?_, ?_, ?_, ?_, ?_, ?_, ?_, ?_, trivial⟩, ?_⟩
    · intro D hD_  x37 x36 x35 x34 x33 x32 x31 x30 w_
      rintro ⟨h0_, h1_, h2_, h3_, h4_, h5_, h6_, h7_, hI⟩
      exact ⟨fun _ => rfl, h1_, h2_, h3_, h4_, h5_, h6_, h7_, hI⟩
    · intro D hD_  x37 x36 x35 x34 x33 x32 x31 x30 w_
      rintro ⟨h0_, h1_, h2_, h3_, h4_, h5_, h6_, h7_, hI⟩
      exact ⟨h0_, fun _ => rfl, h2_, h3_, h4_, h5_, h6_, h7_, hI⟩
    · intro D hD_ d0_0 d1_1 x37 x36 x35 x34 x33 x32 x31 x30 w_
      rintro ⟨h0_, h1_, h2_, h3_, h4_, h5_, h6_, h7_, hI⟩
      obtain rfl := h0_ d0_0
      obtain rfl := h1_ d1_1
      refine r_indexAddr sl_SiTerm hjm ?_
      exact ⟨h0_, h1_, fun _ => rfl, h3_, h4_, h5_, h6_, h7_, hI⟩
    · intro D hD_ d2_0 x37 x36 x35 x34 x33 x32 x31 x30 w_
      rintro ⟨h0_, h1_, h2_, h3_, h4_, h5_, h6_, h7_, hI⟩
      obtain rfl := h2_ d2_0
      refine r_field fo_iTerm_2 ?_
      exact ⟨h0_, h1_, h2_, fun _ => rfl, h4_, h5_, h6_, h7_, hI⟩
    · intro D hD_ d3_0 x37 x36 x35 x34 x33 x32 x31 x30 w_
      rintro ⟨h0_, h1_, h2_, h3_, h4_, h5_, h6_, h7_, hI⟩
      obtain rfl := h3_ d3_0
      refine r_load sc_string (by rw [hI.cellS hS]; exact cellsAt_get hcell 2 _ rfl) ?_
      exact ⟨h0_, h1_, h2_, h3_, fun _ => rfl, h5_, h6_, h7_, hI⟩
    · intro D hD_  x37 x36 x35 x34 x33 x32 x31 x30 w_
      rintro ⟨h0_, h1_, h2_, h3_, h4_, h5_, h6_, h7_, hI⟩
      exact ⟨h0_, h1_, h2_, h3_, h4_, fun _ => rfl, h6_, h7_, hI⟩
    · intro D hD_ d5_0 x37 x36 x35 x34 x33 x32 x31 x30 w_
      rintro ⟨h0_, h1_, h2_, h3_, h4_, h5_, h6_, h7_, hI⟩
      obtain rfl := h5_ d5_0
      refine Run.callPure fn_l_markText nm_l_markText hI (markText_calls _ S (by omega)) fun w_ hI => ?_
      exact ⟨h0_, h1_, h2_, h3_, h4_, h5_, fun _ => rfl, h7_, hI⟩
    · intro D hD_ d4_0 d6_1 x37 x36 x35 x34 x33 x32 x31 x30 w_
      rintro ⟨h0_, h1_, h2_, h3_, h4_, h5_, h6_, h7_, hI⟩
      obtain rfl := h4_ d4_0
      obtain rfl := h6_ d6_1
      refine r_sneq ?_; rw [decide_eq_true rfl]
      exact ⟨h0_, h1_, h2_, h3_, h4_, h5_, h6_, fun _ => rfl, hI⟩
    intro D d7_ d6_ d5_ d4_ d3_ d2_ d1_ d0_ x37 x36 x35 x34 x33 x32 x31 x30 w_
    rintro ⟨h0_, h1_, h2_, h3_, h4_, h5_, h6_, h7_, hI⟩
    obtain rfl := h7_ d7_
    obtain rfl := h6_ d6_
    obtain rfl := h5_ d5_
    obtain rfl := h4_ d4_
    obtain rfl := h3_ d3_
    obtain rfl := h2_ d2_
    obtain rfl := h1_ d1_
    obtain rfl := h0_ d0_
    clear h0_ h1_ h2_ h3_ h4_ h5_ h6_ h7_
    refine condV (fun hb => by cases hb) (fun _ => ?_)
    refine r_add (by omega) ?_
    rw [e1]
    refine r_indexAddr sl_SiTerm hjm ?_
    refine r_field fo_iTerm_3 ?_
    refine r_load sc_SiTerm (by rw [hI.cellS hS]; exact cellsAt_get hcell 3 _ rfl) ?_
    refine Run.callPure fn_l_heldTermS nm_l_heldTermS hI (ih _ (List.getElem_mem hj') S kv (m + 3) hkR (by omega) (by omega)) fun w' hI => ?_
    refine r_lss ?_
    refine condP (fun hb => by omega) (fun _ => ?_)
    refine r_add (by omega) ?_
    exact ⟨⟨j + 1, _, hj', rfl, rfl, hr1, hr2, by omega, by omega, hI⟩, by simp [intOf]; omega⟩
  · have : j = ts.length := by omega
    subst this
    rw [List.drop_length] at hr2
    exact done hI (by rw [← hr2, mkL])
theorem heldKids_ok : ∀ t : T, HeldOk t.kids := by
  refine T.ind fun k n s ks ih => ?_
  exact heldTermS_of ih
theorem heldTermS_ok (ts : List T) : HeldOk ts := heldTermS_of fun t _ => heldKids_ok t

theorem heldClauseS_ok {p : List C} {S : Store} {v : Value} {k : Int} (h : RdSl S 5 (RdC S) v (mkP p k).1) (hk0 : 0 ≤ k) (hk : k + 3 * cntP p ≤ 4611686018427387904) :
    Pure Tryz.prog n_l_heldClauseS [v, .int .i64 k] S (.int .i64 (mkP p k).2) := by
  intro w hI
  have hlen := h.le
  have hml := mkP_len p k
  simp only [maxLen] at hlen
  refine calls_l_heldClauseS ?_
  unfold sh_l_heldClauseS
  refine ⟨fun i m w' => ∃ (j : Nat) (m' : Int), j ≤ p.length ∧ i = .int .i64 j ∧ m = .int .i64 m' ∧ (mkP p k).1.drop j = (mkP (p.drop j) m').1 ∧ (mkP (p.drop j) m').2 = (mkP p k).2 ∧ 0 ≤ m' ∧ m' + 3 * cntP (p.drop j) ≤ 4611686018427387904 ∧ Inv w [] [] S w',
    fun i _ _ => p.length - (intOf i).toNat, ⟨0, k, Nat.zero_le _, rfl, rfl, rfl, rfl, hk0, hk, hI⟩, ?_⟩
  intro t5 _ _ _ _ _ _ _ _ _ _ _ _ _ _ _ _ _ _ _ _ _ _ _ _ _ _ _ _ _ _ _ _ _ _ _ _ _ _ _ _ _ _ t1 _ _ _ _ _ _ _ _ _ _ _ _ _ _ _ w'
  rintro ⟨j, m, hj, rfl, rfl, hr1, hr2, hm0, hm, hI⟩
  refine r_lenSl h sl_SiClause ?_
  refine r_lss ?_
  refine condP (fun hji => ?_) (fun hji => ?_)
  · have hj' : j < p.length := by omega
    have hjm : j < (mkP p k).1.length := by omega
    rw [mkP_drop p m j hj'] at hr1 hr2
    rw [List.drop_eq_getElem_cons hjm, List.cons.injEq] at hr1
    obtain ⟨hel, hr1⟩ := hr1
    have hce := mkC_end p[j] m
    rw [cntC_eq] at hce
    have hmc : mkC p[j] m = (⟨.mk m (m + 1) (markS (m + 2)) (mkL p[j].head.kids (m + 3)).1, (mkL p[j].body (mkL p[j].head.kids (m + 3)).2).1⟩, (mkL p[j].body (mkL p[j].head.kids (m + 3)).2).2) := rfl
    rw [cntP_split p j hj', cntC_eq] at hm
    have hcn := cntP_pos (p.drop (j + 1))
    have hck := cntL_pos p[j].head.kids
    have hcb := cntL_pos p[j].body
    have hke := mkL_end p[j].head.kids (m + 3)
    obtain ⟨b, o, cap, c, E, fz, hv, hS, hR⟩ := h.at_ hjm
    rw [hel, hmc] at hR
    obtain ⟨hd, ks, hcell, hh, hbR⟩ := hR
    obtain ⟨kv, rfl, _, _, _, hkR⟩ := RdT.iff.1 hh
    subst hv
    have e0 : m + 1 + 1 = m + 2 := by omega
    have e1 : m + 2 + 1 = m + 3 := by omega
    refine r_indexAddr sl_SiClause hjm ?_
    refine r_field fo_iClause_0 ?_
    refine r_field fo_iTerm_0 ?_
    refine r_load sc_int (by rw [hI.cellS hS]; exact cellsAt_get hcell 0 _ rfl) ?_
    refine r_neq ?_
    refine condV (fun hb => by simp [T.kind] at hb) (fun _ => ?_)
    refine r_add (by omega) ?_
    refine r_indexAddr sl_SiClause hjm ?_
    refine r_field fo_iClause_0 ?_
    refine r_field fo_iTerm_1 ?_
    refine r_load sc_int (by rw [hI.cellS hS]; exact cellsAt_get hcell 1 _ rfl) ?_
    refine r_neq ?_
    refine condV (fun hb => by simp [T.n] at hb) (fun _ => ?_)
    refine r_add (by omega) ?_
    rw [e0]
    refine ⟨fun D x40 x39 x38 x37 x36 x35 x34 x33 x32 w_ => (D 0 = true → x32 = .slice (some ⟨b, o, none⟩) (mkP p k).1.length cap) ∧ (D 1 = true → x33 = .int .i64 j) ∧ (D 2 = true → x34 = .pointer (some ⟨b, o + j * 5, none⟩)) ∧ (D 3 = true → x35 = .pointer (some ⟨b, o + j * 5, none⟩)) ∧ (D 4 = true → x36 = .pointer (some ⟨b, o + j * 5 + 2, none⟩)) ∧ (D 5 = true → x37 = .string (markS (m + 2))) ∧ (D 6 = true → x38 = .int .i64 (m + 2)) ∧ (D 7 = true → x39 = .string (markS (m + 2))) ∧ (D 8 = true → x40 = .bool false) ∧ Inv w [] [] S w_, ⟨fun h => Bool.noConfusion h, fun h => Bool.noConfusion h, fun h => Bool.noConfusion h, fun h => Bool.noConfusion h, fun h => Bool.noConfusion h, fun h => Bool.noConfusion h, fun h => Bool.noConfusion h, fun h => Bool.noConfusion h, fun h => Bool.noConfusion h, hI.draw⟩, ⟨?_, ?_, ?_, ?_, ?_, ?_, ?_, ?_, ?_, trivial⟩, ?_⟩
    · intro D hD_  x40 x39 x38 x37 x36 x35 x34 x33 x32 w_
      rintro ⟨h0_, h1_, h2_, h3_, h4_, h5_, h6_, h7_, h8_, hI⟩
      exact ⟨fun _ => rfl, h1_, h2_, h3_, h4_, h5_, h6_, h7_, h8_, hI⟩
    · intro D hD_  x40 x39 x38 x37 x36 x35 x34 x33 x32 w_
      rintro ⟨h0_, h1_, h2_, h3_, h4_, h5_, h6_, h7_, h8_, hI⟩
      exact ⟨h0_, fun _ => rfl, h2_, h3_, h4_, h5_, h6_, h7_, h8_, hI⟩
    · intro D hD_ d0_0 d1_1 x40 x39 x38 x37 x36 x35 x34 x33 x32 w_
      rintro ⟨h0_, h1_, h2_, h3_, h4_, h5_, h6_, h7_, h8_, hI⟩
      obtain rfl := h0_ d0_0
      obtain rfl := h1_ d1_1
      refine r_indexAddr sl_SiClause hjm ?_
      exact ⟨h0_, h1_, fun _ => rfl, h3_, h4_, h5_, h6_, h7_, h8_, hI⟩
    · intro D hD_ d2_0 x40 x39 x38 x37 x36 x35 x34 x33 x32 w_
      rintro ⟨h0_, h1_, h2_, h3_, h4_, h5_, h6_, h7_, h8_, hI⟩
      obtain rfl := h2_ d2_0
      refine r_field fo_iClause_0 ?_
      exact ⟨h0_, h1_, h2_, fun _ => rfl, h4_, h5_, h6_, h7_, h8_, hI⟩
    · intro D hD_ d3_0 x40 x39 x38 x37 x36 x35 x34 x33 x32 w_
      rintro ⟨h0_, h1_, h2_, h3_, h4_, h5_, h6_, h7_, h8_, hI⟩
      obtain rfl := h3_ d3_0
      refine r_field fo_iTerm_2 ?_
      exact ⟨h0_, h1_, h2_, h3_, fun _ => rfl, h5_, h6_, h7_, h8_, hI⟩
    · intro D hD_ d4_0 x40 x39 x38 x37 x36 x35 x34 x33 x32 w_
      rintro ⟨h0_, h1_, h2_, h3_, h4_, h5_, h6_, h7_, h8_, hI⟩
      obtain rfl := h4_ d4_0
      refine r_load sc_string (by rw [hI.cellS hS]; exact cellsAt_get hcell 2 _ rfl) ?_
      exact ⟨h0_, h1_, h2_, h3_, h4_, fun _ => rfl, h6_, h7_, h8_, hI⟩
    · intro D hD_  x40 x39 x38 x37 x36 x35 x34 x33 x32 w_
      rintro ⟨h0_, h1_, h2_, h3_, h4_, h5_, h6_, h7_, h8_, hI⟩
      exact ⟨h0_, h1_, h2_, h3_, h4_, h5_, fun _ => rfl, h7_, h8_, hI⟩
    · intro D hD_ d6_0 x40 x39 x38 x37 x36 x35 x34 x33 x32 w_
      rintro ⟨h0_, h1_, h2_, h3_, h4_, h5_, h6_, h7_, h8_, hI⟩
      obtain rfl := h6_ d6_0
      refine Run.callPure fn_l_markText nm_l_markText hI (markText_calls _ S (by omega)) fun w_ hI => ?_
      exact ⟨h0_, h1_, h2_, h3_, h4_, h5_, h6_, fun _ => rfl, h8_, hI⟩
    · intro D hD_ d5_0 d7_1 x40 x39 x38 x37 x36 x35 x34 x33 x32 w_
      rintro ⟨h0_, h1_, h2_, h3_, h4_, h5_, h6_, h7_, h8_, hI⟩
      obtain rfl := h5_ d5_0
      obtain rfl := h7_ d7_1
      refine r_sneq ?_; rw [decide_eq_true rfl]
      exact ⟨h0_, h1_, h2_, h3_, h4_, h5_, h6_, h7_, fun _ => rfl, hI⟩
    intro D d8_ d7_ d6_ d5_ d4_ d3_ d2_ d1_ d0_ x40 x39 x38 x37 x36 x35 x34 x33 x32 w_
    rintro ⟨h0_, h1_, h2_, h3_, h4_, h5_, h6_, h7_, h8_, hI⟩
    obtain rfl := h8_ d8_
    obtain rfl := h7_ d7_
    obtain rfl := h6_ d6_
    obtain rfl := h5_ d5_
    obtain rfl := h4_ d4_
    obtain rfl := h3_ d3_
    obtain rfl := h2_ d2_
    obtain rfl := h1_ d1_
    obtain rfl := h0_ d0_
    clear h0_ h1_ h2_ h3_ h4_ h5_ h6_ h7_ h8_
    refine condV (fun hb => by cases hb) (fun _ => ?_)
    refine r_add (by omega) ?_
    rw [e1]
    refine r_indexAddr sl_SiClause hjm ?_
    refine r_field fo_iClause_0 ?_
    refine r_field fo_iTerm_3 ?_
    refine r_load sc_SiTerm (by rw [hI.cellS hS]; exact cellsAt_get hcell 3 _ rfl) ?_
    refine Run.callPure fn_l_heldTermS nm_l_heldTermS hI (heldTermS_ok _ S kv (m + 3) hkR (by omega) (by omega)) fun w' hI => ?_
    refine r_lss ?_
    refine condP (fun hb => by omega) (fun _ => ?_)
    refine r_indexAddr sl_SiClause hjm ?_
    refine r_field fo_iClause_1 ?_
    refine r_load sc_SiTerm (by rw [hI.cellS hS]; exact cellsAt_get hcell 4 _ rfl) ?_
    refine Run.callPure fn_l_heldTermS nm_l_heldTermS hI (heldTermS_ok p[j].body S ks _ hbR (by omega) (by omega)) fun w' hI => ?_
    have hbe := mkL_end p[j].body (mkL p[j].head.kids (m + 3)).2
    refine r_lss ?_
    refine condP (fun hb => by omega) (fun _ => ?_)
    refine r_add (by omega) ?_
    exact ⟨⟨j + 1, (mkC p[j] m).2, hj', rfl, rfl, hr1, hr2, by omega, by omega, hI⟩, by simp [intOf]; omega⟩
  · have : j = p.length := by omega
    subst this
    rw [List.drop_length] at hr2
    exact done hI (by rw [← hr2, mkP])
end

end Go.Proofs.YtaaihodhhacapaaGreat

/- Names of goals with their numbers of arguments: built, compared; the clauses for one. -/
namespace Go.Proofs.YtaaihodhhacapaaGreat
open Go Go.RowKit

theorem fields_iPred : Tryz.prog.underlying t_iPred = some (.struct (Tryz.prog.fieldsOf t_iPred)) := by kernel_rfl
theorem held_iPred : Tryz.prog.stoodInHeld t_iPred = false := by kernel_rfl
theorem guard_iPred : Tryz.prog.eqGuardType Tryz.prog.depth t_iPred = false := by kernel_rfl
theorem run_partSc {P : Program} {w : World} {T : TypeId} {cs : Array Value} {off : Nat} {v : Value} (h : isSc P T = true) (hx : cs[off]? = some v) : (part T cs off).run P w = .ok v w := by
  simp [part, (isSc_true (w := w) h).1, hx]
theorem eq_iPred {w : World} (s s' : ByteArray) (n n' : Int) :
    (Op.equalIn 10000 t_iPred (.agg #[.string s, .int .i64 n]) (.agg #[.string s', .int .i64 n'])).run Tryz.prog w = .ok (decide (s = s') && decide (n = n')) w := by
  rw [show (10000 : Nat) = 9999 + 1 from rfl, run_equalIn_struct w 9999 t_iPred _ _ fields_iPred held_iPred]
  have hf : (Tryz.prog.fieldsOf t_iPred).toList = [(Tryz.prog.fieldsOf t_iPred)[0]!, (Tryz.prog.fieldsOf t_iPred)[1]!] := by kernel_rfl
  have h0 : ((Tryz.prog.fieldsOf t_iPred)[0]!).type = t_string := by kernel_rfl
  have h1 : ((Tryz.prog.fieldsOf t_iPred)[1]!).type = t_int := by kernel_rfl
  have o0 : ((Tryz.prog.fieldsOf t_iPred)[0]!).offset = 0 := by kernel_rfl
  have o1 : ((Tryz.prog.fieldsOf t_iPred)[1]!).offset = 1 := by kernel_rfl
  have n0 : ((Tryz.prog.fieldsOf t_iPred)[0]!).name ≠ "_" := by decide +kernel
  have n1 : ((Tryz.prog.fieldsOf t_iPred)[1]!).name ≠ "_" := by decide +kernel
  rw [hf]
  have e0 : (Op.equalIn (9998 + 1) t_string (.string s) (.string s')).run Tryz.prog w = .ok (decide (s = s')) w := by
    rw [run_equalIn_string w 9998 t_string s s' un_string, bytes_eq]
  have e1 : (Op.equalIn (9998 + 1) t_int (.int .i64 n) (.int .i64 n')).run Tryz.prog w = .ok (decide (n = n')) w := by
    rw [run_equalIn_int w 9998 t_int .i64 .i64 n n' un_int]; rfl
  rw [show (9999 : Nat) = 9998 + 1 from rfl]
  generalize hg0 : (Tryz.prog.fieldsOf t_iPred)[0]! = g0 at *
  generalize hg1 : (Tryz.prog.fieldsOf t_iPred)[1]! = g1 at *
  simp only [Op.eqFields, n0, n1, ne_eq, not_false_eq_true, if_true, Sem.run_bind, h0, h1, o0, o1]
  rw [run_partSc sc_string (v := .string s) rfl, Result.andThen_ok, run_partSc sc_string (v := .string s') rfl, Result.andThen_ok, e0, Result.andThen_ok]
  cases decide (s = s') with
  | false => rfl
  | true =>
    simp only [Bool.not_true, Bool.false_eq_true, if_false, Sem.run_bind]
    rw [run_partSc sc_int (v := .int .i64 n) rfl, Result.andThen_ok, run_partSc sc_int (v := .int .i64 n') rfl, Result.andThen_ok, e1, Result.andThen_ok]
    cases decide (n = n') with
    | false => rfl
    | true => rfl
section
variable {w : World} {K : Value → World → Prop}
attribute [local irreducible] Run
theorem run_peql {cx cy : Bool} {s s' : ByteArray} {n n' : Int} :
    (sBin .eql t_iPred cx cy (.agg #[.string s, .int .i64 n]) (.agg #[.string s', .int .i64 n'])).run Tryz.prog w = .ok (.value (.bool (decide (s = s') && decide (n = n')))) w := by
  unfold sBin
  rw [Sem.run_bind, run_eqGuard_agg w .eql t_iPred _ _ _ _ guard_iPred, Result.andThen_ok, Sem.run_bind, run_eql_struct, eq_iPred, Result.andThen_ok, Result.andThen_ok]
  rfl
theorem run_buildPred {s : ByteArray} {n : Int} : (sBuild t_iPred [(0, .string s), (1, .int .i64 n)]).run Tryz.prog w = .ok (.value (.agg #[.string s, .int .i64 n])) w := by
  unfold sBuild
  rw [Sem.run_bind, run_build w t_iPred _ #[.string s, .int .i64 n] (by kernel_rfl), Result.andThen_ok]
  rfl
theorem r_peql {cx cy : Bool} {s s' : ByteArray} {n n' : Int} (hk : K (.bool (decide (s = s') && decide (n = n'))) w) : Run Tryz.prog (sBin .eql t_iPred cx cy (.agg #[.string s, .int .i64 n]) (.agg #[.string s', .int .i64 n'])) w K :=
  Run.of run_peql hk
theorem r_buildPred {s : ByteArray} {n : Int} (hk : K (.agg #[.string s, .int .i64 n]) w) : Run Tryz.prog (sBuild t_iPred [(0, .string s), (1, .int .i64 n)]) w K :=
  Run.of run_buildPred hk
end

attribute [local irreducible] Run CondV GuardV LoadV
structure Pd where
  name : ByteArray
  arity : Int
deriving DecidableEq
def Pd.cells (x : Pd) : List Value := [.string x.name, .int .i64 x.arity]
def predT (t : T) : Pd := ⟨t.name, t.kids.length⟩
def eqPd (x y : Pd) : Bool := decide (x.name = y.name) && decide (x.arity = y.arity)
theorem i_pred_calls {t : T} {S : Store} {cs : List Value} (h : RdT S cs t) : Pure Tryz.prog n_i_pred [.agg cs.toArray] S (.agg (predT t).cells.toArray) := by
  intro w hI
  obtain ⟨kv, rfl, _, _, hs, hks⟩ := RdT.iff.1 h
  obtain ⟨k, n, s, ks⟩ := t
  simp only [T.name, T.kids, T.kind, T.n] at hs hks ⊢
  refine calls_i_pred ?_
  unfold sh_i_pred
  refine r_box hI fun b1 w' hI => ?_
  refine r_alloc hI zo_iPred fun b2 w' hI => ?_
  refine r_fieldL hI 0 rfl fo_iTerm_2 sc_string rfl ?_
  refine r_fieldL hI 0 rfl fo_iTerm_3 sc_SiTerm rfl ?_
  refine r_lenSl hks sl_SiTerm ?_
  refine r_buildPred ?_
  refine r_storeW hI 1 rfl ag_iPred rfl rfl (by simp [Value.oneCell']) fun w' hI => ?_
  refine loadV_W hI 1 ag_iPred rfl rfl ?_
  exact done hI rfl
def posOf (f : C → Bool) : List C → Nat → List Int
  | [], _ => []
  | c :: cs, k => if f c = true then (k : Int) :: posOf f cs (k + 1) else posOf f cs (k + 1)
theorem posOf_at (f : C → Bool) : ∀ (p : List C) (k : Nat) (n : Int), n ∈ posOf f p k → ∃ i : Nat, (k : Int) ≤ n ∧ n = k + i ∧ ∃ h : i < p.length, f p[i] = true
  | [], k, n, h => by simp [posOf] at h
  | c :: cs, k, n, h => by
    have hrec : n ∈ posOf f cs (k + 1) → ∃ i : Nat, (k : Int) ≤ n ∧ n = k + i ∧ ∃ h : i < (c :: cs).length, f (c :: cs)[i] = true := by
      intro h
      obtain ⟨i, h1, h2, h3, h4⟩ := posOf_at f cs (k + 1) n h
      exact ⟨i + 1, by omega, by omega, by simpa using h3, by simpa using h4⟩
    rw [posOf] at h
    split at h
    · rcases List.mem_cons.1 h with rfl | h
      · exact ⟨0, by omega, by omega, by simp, by simpa using ‹f c = true›⟩
      · exact hrec h
    · exact hrec h
theorem posOf_len (f : C → Bool) : ∀ (p : List C) (k : Nat), (posOf f p k).length ≤ p.length
  | [], k => by simp [posOf]
  | c :: cs, k => by
    have := posOf_len f cs (k + 1)
    rw [posOf]
    split <;> simp <;> omega

end Go.Proofs.YtaaihodhhacapaaGreat

/- The clauses for a goal; which clauses can be unfolded: both sides. -/
namespace Go.Proofs.YtaaihodhhacapaaGreat
open Go Go.RowKit
attribute [local irreducible] Run CondV GuardV LoadV

theorem posOf_step (f : C → Bool) (p : List C) (k : Nat) (h : k < p.length) (l : List Int) : (if f p[k] = true then l ++ [(k : Int)] else l) ++ posOf f (p.drop (k + 1)) (k + 1) = l ++ posOf f (p.drop k) k := by
  rw [List.drop_eq_getElem_cons h, posOf]
  split
  · rw [List.append_assoc]; rfl
  · rfl

theorem clausesFor_calls {p : List C} {S : Store} {v : Value} (x : Pd) (h : RdSl S 5 (RdC S) v p) (hp : p.length ≤ 2000000) : Tri Tryz.prog n_i_clausesFor [v, .agg x.cells.toArray] [] S (PostV S (posOf (fun c => eqPd (predT c.head) x) p 0)) := by
  intro w hI
  obtain ⟨xs, xn⟩ := x
  refine calls_i_clausesFor ?_
  unfold sh_i_clausesFor
  refine r_box hI fun b3 w' hI => ?_
  refine r_lenSl h sl_SiClause ?_
  refine ⟨fun i t w' => ∃ (k : Nat) (l : List Int), k ≤ p.length ∧ i = .int .i64 k ∧ l ++ posOf (fun c => eqPd (predT c.head) ⟨xs, xn⟩) (p.drop k) k = posOf (fun c => eqPd (predT c.head) ⟨xs, xn⟩) p 0 ∧ l.length ≤ k ∧
      Inv w [] [.blk b3 (.cells #[.string xs, .int .i64 xn] t_iPred), rowI t l] S w', fun i _ _ => p.length - (intOf i).toNat, ⟨0, [], Nat.zero_le _, rfl, rfl, Nat.le_refl _, hI.rowNil t_int 1⟩, ?_⟩
  intro t10 _ t5 _ _ _ _ t19 t18 t17 t16 t15 _ _ _ _ _ _ w'
  rintro ⟨k, l, hk, rfl, hrel, hl, hI⟩
  refine r_lss ?_
  refine condP (fun hki => ?_) (fun hki => ?_)
  · have hk' : k < p.length := by omega
    refine ⟨fun t w' => Inv w [] [.blk b3 (.cells #[.string xs, .int .i64 xn] t_iPred), rowI t (if eqPd (predT p[k].head) ⟨xs, xn⟩ = true then l ++ [(k : Int)] else l)] S w', ?_, ?_⟩
    · refine r_elem hI h sl_SiClause ag_iClause hk' (fun _ _ => RdC.length) fun cs hcs => ?_
      obtain ⟨hd, ks, rfl, h1, h2⟩ := hcs
      have h1' := h1
      obtain ⟨kv, rfl, _, _, hs, hks⟩ := RdT.iff.1 h1
      have hkv : kv.oneCell' = true ∧ ks.oneCell' = true := by
        obtain ⟨a, cap, rfl, _⟩ := hks
        obtain ⟨a, cap, rfl, _⟩ := h2
        exact ⟨rfl, rfl⟩
      refine r_alloc hI zo_iClause fun b7 w' hI => ?_
      refine r_storeW hI 2 rfl ag_iClause rfl rfl (by
        intro u hu
        have hu' : u ∈ ([.int .i64 p[k].head.kind, .int .i64 p[k].head.n, .string p[k].head.name, kv, ks] : List Value) := hu
        simp at hu'
        rcases hu' with rfl | rfl | rfl | rfl | rfl <;> first | rfl | exact hkv.1 | exact hkv.2) fun w' hI => ?_
      have hI : Inv w [] [.blk b3 (.cells #[.string xs, .int .i64 xn] t_iPred), rowI t5 l, .blk b7 (.cells #[.int .i64 p[k].head.kind, .int .i64 p[k].head.n, .string p[k].head.name, kv, ks] t_iClause)] S w' := hI
      refine ⟨fun D x19 x18 x17 x16 x15 w_ => (D 0 = true → x15 = .pointer (some ⟨b7, 0, none⟩)) ∧ (D 1 = true → x16 = .agg #[.int .i64 p[k].head.kind, .int .i64 p[k].head.n, .string p[k].head.name, kv]) ∧ (D 2 = true → x17 = .agg #[.string p[k].head.name, .int .i64 p[k].head.kids.length]) ∧ (D 3 = true → x18 = .agg #[.string xs, .int .i64 xn]) ∧ (D 4 = true → x19 = .bool (eqPd (predT p[k].head) ⟨xs, xn⟩)) ∧ Inv w [] [.blk b3 (.cells #[.string xs, .int .i64 xn] t_iPred), rowI t5 l, .blk b7 (.cells #[.int .i64 p[k].head.kind, .int .i64 p[k].head.n, .string p[k].head.name, kv, ks] t_iClause)] S w_, ⟨fun h => Bool.noConfusion h, fun h => Bool.noConfusion h, fun h => Bool.noConfusion h, fun h => Bool.noConfusion h, fun h => Bool.noConfusion h, hI.draw⟩, ⟨?_, ?_, ?_, ?_, ?_, trivial⟩, ?_⟩
      · intro D hD_  x19 x18 x17 x16 x15 w_
        rintro ⟨h0_, h1_, h2_, h3_, h4_, hI⟩
        refine r_field fo_iClause_0 ?_
        exact ⟨fun _ => rfl, h1_, h2_, h3_, h4_, hI⟩
      · intro D hD_ d0_0 x19 x18 x17 x16 x15 w_
        rintro ⟨h0_, h1_, h2_, h3_, h4_, hI⟩
        obtain rfl := h0_ d0_0
        refine r_loadLA hI 2 [.int .i64 p[k].head.kind, .int .i64 p[k].head.n, .string p[k].head.name, kv] ag_iTerm rfl rfl sub4 ?_
        exact ⟨h0_, fun _ => rfl, h2_, h3_, h4_, hI⟩
      · intro D hD_ d1_0 x19 x18 x17 x16 x15 w_
        rintro ⟨h0_, h1_, h2_, h3_, h4_, hI⟩
        obtain rfl := h1_ d1_0
        refine Run.callPure fn_i_pred nm_i_pred hI (i_pred_calls h1') fun w_ hI => ?_
        exact ⟨h0_, h1_, fun _ => rfl, h3_, h4_, hI⟩
      · intro D hD_  x19 x18 x17 x16 x15 w_
        rintro ⟨h0_, h1_, h2_, h3_, h4_, hI⟩
        refine r_loadW hI 0 ag_iPred rfl rfl ?_
        exact ⟨h0_, h1_, h2_, fun _ => rfl, h4_, hI⟩
      · intro D hD_ d2_0 d3_1 x19 x18 x17 x16 x15 w_
        rintro ⟨h0_, h1_, h2_, h3_, h4_, hI⟩
        obtain rfl := h2_ d2_0
        obtain rfl := h3_ d3_1
        refine r_peql ?_
        exact ⟨h0_, h1_, h2_, h3_, fun _ => rfl, hI⟩
      intro D d4_ d3_ d2_ d1_ d0_ x19 x18 x17 x16 x15 w_
      rintro ⟨h0_, h1_, h2_, h3_, h4_, hI⟩
      obtain rfl := h4_ d4_
      obtain rfl := h3_ d3_
      obtain rfl := h2_ d2_
      obtain rfl := h1_ d1_
      obtain rfl := h0_ d0_
      clear h0_ h1_ h2_ h3_ h4_
      refine condV (fun hb => ?_) (fun hb => ?_)
      · refine r_slice1 hI mk_Sint rfl (by omega) (by omega) fun b w' hI => ?_
        refine r_append hI 1 (k := 1) [.int .i64 k] mk_Sint (by omega) rfl rfl ?_ ?_ (by omega) (by omega) fun v' w' hI => ?_
        · intro j u hj
          rw [hI.cellL (i := 3) rfl]
          match j with
          | 0 => simpa [Value.cells] using hj
          | j + 1 => simp at hj
        · simp [Value.oneCell']
        · rw [ints_snoc] at hI
          have hI := hI.pick [true, true, false, false]
          rw [if_pos hb]
          have e : Item.row v' t_int 1 (l.length + 1) (ints (l ++ [(k : Int)])) = rowI v' (l ++ [(k : Int)]) := by simp [rowI]
          rw [show List.length l + 1 = l.length + 1 from rfl, e] at hI
          exact hI
      · rw [if_neg (by rw [hb]; decide)]
        exact hI.pick [true, true, false]
    intro t5 _ _ _ _ _ _ _ _ _ _ _ _ _ _ w' hI
    refine r_add (by omega) ?_
    refine ⟨⟨k + 1, _, hk', rfl, ?_, ?_, hI⟩, by simp [intOf]; omega⟩
    · rw [posOf_step (fun c => eqPd (predT c.head) ⟨xs, xn⟩) p k hk' l, hrel]
    · split
      · simp; omega
      · omega
  · have : k = p.length := by omega
    subst this
    rw [List.drop_length, posOf, List.append_nil] at hrel
    subst hrel
    exact ⟨_, _, _, rfl, hI.pick [false, true], Ext.refl _ _ _, rfl, rfl⟩

theorem l4For_calls {p : List C} {g : T} {S : Store} {v : Value} {cs : List Value} (h : RdSl S 5 (RdC S) v p) (hg : RdT S cs g) (hp : p.length ≤ 2000000) :
    Tri Tryz.prog n_s_l4For [v, .agg cs.toArray] [] S (PostV S (posOf (fun c => eqPd (predT c.head) (predT g)) p 0)) := by
  intro w hI
  obtain ⟨gv, rfl, _, _, hgs, hgk⟩ := RdT.iff.1 hg
  obtain ⟨gk, gn, gs, gks⟩ := g
  simp only [T.name, T.kids, T.kind, T.n] at hgs hgk ⊢
  refine calls_s_l4For ?_
  unfold sh_s_l4For
  refine r_box hI fun b3 w' hI => ?_
  refine r_slice0 hI mk_Sint fun v0 w' hI => ?_
  refine ⟨fun i t w' => ∃ (k : Nat) (l : List Int), k ≤ p.length ∧ i = .int .i64 k ∧ l ++ posOf (fun c => eqPd (predT c.head) (predT (.mk gk gn gs gks))) (p.drop k) k = posOf (fun c => eqPd (predT c.head) (predT (.mk gk gn gs gks))) p 0 ∧ l.length ≤ k ∧
      Inv w [] [.blk b3 (.cells #[.int .i64 gk, .int .i64 gn, .string gs, gv] t_iTerm), rowI t l] S w', fun i _ _ => p.length - (intOf i).toNat, ⟨0, [], Nat.zero_le _, rfl, rfl, Nat.le_refl _, hI⟩, ?_⟩
  intro t6 _ _ t5 _ _ _ _ t35 t34 t33 t32 t31 t30 t29 t28 t27 t26 t25 t24 t23 t22 t21 t20 t19 t18 t17 t16 t15 t14 _ _ _ _ w'
  rintro ⟨k, l, hk, rfl, hrel, hl, hI⟩
  refine r_lenSl h sl_SiClause ?_
  refine r_lss ?_
  refine condP (fun hki => ?_) (fun hki => ?_)
  · have hk' : k < p.length := by omega
    refine ⟨fun t w' => Inv w [] [.blk b3 (.cells #[.int .i64 gk, .int .i64 gn, .string gs, gv] t_iTerm), rowI t (if eqPd (predT p[k].head) (predT (.mk gk gn gs gks)) = true then l ++ [(k : Int)] else l)] S w', ?_, ?_⟩
    · obtain ⟨b, o, cap, c, E, fz, rfl, hS, hR⟩ := h.at_ hk'
      obtain ⟨hd, ks2, hcs, h1, h2⟩ := hR
      obtain ⟨kv, rfl, _, _, hs1, hk1⟩ := RdT.iff.1 h1
      have hf0 : eqPd (predT p[k].head) (predT (.mk gk gn gs gks)) = (decide (p[k].head.name = gs) && decide ((p[k].head.kids.length : Int) = gks.length)) := rfl
      cases hq : decide (p[k].head.name = gs)
      · have hf : eqPd (predT p[k].head) (predT (.mk gk gn gs gks)) = false := by rw [hf0, hq]; rfl
        refine ⟨fun D x35 x34 x33 x32 x31 x30 x29 x28 x27 x26 x25 x24 x23 x22 x21 x20 x19 x18 x17 x16 x15 x14 w_ => (D 0 = true → x14 = .slice (some ⟨b, o, none⟩) p.length cap) ∧ (D 1 = true → x15 = .int .i64 k) ∧ (D 2 = true → x16 = .pointer (some ⟨b, o + k * 5, none⟩)) ∧ (D 3 = true → x17 = .pointer (some ⟨b, o + k * 5, none⟩)) ∧ (D 4 = true → x18 = .pointer (some ⟨b, o + k * 5 + 2, none⟩)) ∧ (D 5 = true → x19 = .string p[k].head.name) ∧ (D 6 = true → x20 = .pointer (some ⟨b3, 2, none⟩)) ∧ (D 7 = true → x21 = .string gs) ∧ (D 8 = true → x22 = .bool false) ∧ (D 9 = true → x23 = .bool false) ∧ (D 10 = true → x24 = undef) ∧ (D 11 = true → x25 = undef) ∧ (D 12 = true → x26 = undef) ∧ (D 13 = true → x27 = undef) ∧ (D 14 = true → x28 = undef) ∧ (D 15 = true → x29 = undef) ∧ (D 16 = true → x30 = undef) ∧ (D 17 = true → x31 = undef) ∧ (D 18 = true → x32 = undef) ∧ (D 19 = true → x33 = undef) ∧ (D 20 = true → x34 = undef) ∧ (D 21 = true → x35 = .bool false) ∧ Inv w [] [.blk b3 (.cells #[.int .i64 gk, .int .i64 gn, .string gs, gv] t_iTerm), rowI t5 l] S w_, ⟨fun h => Bool.noConfusion h, fun h => Bool.noConfusion h, fun h => Bool.noConfusion h, fun h => Bool.noConfusion h, fun h => Bool.noConfusion h, fun h => Bool.noConfusion h, fun h => Bool.noConfusion h, fun h => Bool.noConfusion h, fun h => Bool.noConfusion h, fun h => Bool.noConfusion h, fun h => Bool.noConfusion h, fun h => Bool.noConfusion h, fun h => Bool.noConfusion h, fun h => Bool.noConfusion h, fun h => Bool.noConfusion h, fun h => Bool.noConfusion h, fun h => Bool.noConfusion h, fun h => Bool.noConfusion h, fun h => Bool.noConfusion h, fun h => Bool.noConfusion h, fun h => Bool.noConfusion h, fun h => Bool.noConfusion h, hI.draw⟩, ⟨?_, ?_, ?_, ?_, ?_, ?_, ?_, ?_, ?_, ?_, ?_, ?_, ?_, ?_, ?_, ?_, ?_, ?_, ?_, ?_, ?_, ?_, trivial⟩, ?_⟩
        · intro D hD_  x35 x34 x33 x32 x31 x30 x29 x28 x27 x26 x25 x24 x23 x22 x21 x20 x19 x18 x17 x16 x15 x14 w_
          rintro ⟨h0_, h1_, h2_, h3_, h4_, h5_, h6_, h7_, h8_, h9_, h10_, h11_, h12_, h13_, h14_, h15_, h16_, h17_, h18_, h19_, h20_, h21_, hI⟩
          exact ⟨fun _ => rfl, h1_, h2_, h3_, h4_, h5_, h6_, h7_, h8_, h9_, h10_, h11_, h12_, h13_, h14_, h15_, h16_, h17_, h18_, h19_, h20_, h21_, hI⟩
        · intro D hD_  x35 x34 x33 x32 x31 x30 x29 x28 x27 x26 x25 x24 x23 x22 x21 x20 x19 x18 x17 x16 x15 x14 w_
          rintro ⟨h0_, h1_, h2_, h3_, h4_, h5_, h6_, h7_, h8_, h9_, h10_, h11_, h12_, h13_, h14_, h15_, h16_, h17_, h18_, h19_, h20_, h21_, hI⟩
          exact ⟨h0_, fun _ => rfl, h2_, h3_, h4_, h5_, h6_, h7_, h8_, h9_, h10_, h11_, h12_, h13_, h14_, h15_, h16_, h17_, h18_, h19_, h20_, h21_, hI⟩
        · intro D hD_ d0_0 d1_1 x35 x34 x33 x32 x31 x30 x29 x28 x27 x26 x25 x24 x23 x22 x21 x20 x19 x18 x17 x16 x15 x14 w_
          rintro ⟨h0_, h1_, h2_, h3_, h4_, h5_, h6_, h7_, h8_, h9_, h10_, h11_, h12_, h13_, h14_, h15_, h16_, h17_, h18_, h19_, h20_, h21_, hI⟩
          obtain rfl := h0_ d0_0
          obtain rfl := h1_ d1_1
          refine r_indexAddr sl_SiClause hk' ?_
          exact ⟨h0_, h1_, fun _ => rfl, h3_, h4_, h5_, h6_, h7_, h8_, h9_, h10_, h11_, h12_, h13_, h14_, h15_, h16_, h17_, h18_, h19_, h20_, h21_, hI⟩
        · intro D hD_ d2_0 x35 x34 x33 x32 x31 x30 x29 x28 x27 x26 x25 x24 x23 x22 x21 x20 x19 x18 x17 x16 x15 x14 w_
          rintro ⟨h0_, h1_, h2_, h3_, h4_, h5_, h6_, h7_, h8_, h9_, h10_, h11_, h12_, h13_, h14_, h15_, h16_, h17_, h18_, h19_, h20_, h21_, hI⟩
          obtain rfl := h2_ d2_0
          refine r_field fo_iClause_0 ?_
          exact ⟨h0_, h1_, h2_, fun _ => rfl, h4_, h5_, h6_, h7_, h8_, h9_, h10_, h11_, h12_, h13_, h14_, h15_, h16_, h17_, h18_, h19_, h20_, h21_, hI⟩
        · intro D hD_ d3_0 x35 x34 x33 x32 x31 x30 x29 x28 x27 x26 x25 x24 x23 x22 x21 x20 x19 x18 x17 x16 x15 x14 w_
          rintro ⟨h0_, h1_, h2_, h3_, h4_, h5_, h6_, h7_, h8_, h9_, h10_, h11_, h12_, h13_, h14_, h15_, h16_, h17_, h18_, h19_, h20_, h21_, hI⟩
          obtain rfl := h3_ d3_0
          refine r_field fo_iTerm_2 ?_
          exact ⟨h0_, h1_, h2_, h3_, fun _ => rfl, h5_, h6_, h7_, h8_, h9_, h10_, h11_, h12_, h13_, h14_, h15_, h16_, h17_, h18_, h19_, h20_, h21_, hI⟩
        · intro D hD_ d4_0 x35 x34 x33 x32 x31 x30 x29 x28 x27 x26 x25 x24 x23 x22 x21 x20 x19 x18 x17 x16 x15 x14 w_
          rintro ⟨h0_, h1_, h2_, h3_, h4_, h5_, h6_, h7_, h8_, h9_, h10_, h11_, h12_, h13_, h14_, h15_, h16_, h17_, h18_, h19_, h20_, h21_, hI⟩
          obtain rfl := h4_ d4_0
          refine r_load sc_string (by rw [hI.cellS hS]; exact cellsAt_get hcs 2 _ rfl) ?_
          exact ⟨h0_, h1_, h2_, h3_, h4_, fun _ => rfl, h6_, h7_, h8_, h9_, h10_, h11_, h12_, h13_, h14_, h15_, h16_, h17_, h18_, h19_, h20_, h21_, hI⟩
        · intro D hD_  x35 x34 x33 x32 x31 x30 x29 x28 x27 x26 x25 x24 x23 x22 x21 x20 x19 x18 x17 x16 x15 x14 w_
          rintro ⟨h0_, h1_, h2_, h3_, h4_, h5_, h6_, h7_, h8_, h9_, h10_, h11_, h12_, h13_, h14_, h15_, h16_, h17_, h18_, h19_, h20_, h21_, hI⟩
          refine r_field fo_iTerm_2 ?_
          exact ⟨h0_, h1_, h2_, h3_, h4_, h5_, fun _ => rfl, h7_, h8_, h9_, h10_, h11_, h12_, h13_, h14_, h15_, h16_, h17_, h18_, h19_, h20_, h21_, hI⟩
        · intro D hD_ d6_0 x35 x34 x33 x32 x31 x30 x29 x28 x27 x26 x25 x24 x23 x22 x21 x20 x19 x18 x17 x16 x15 x14 w_
          rintro ⟨h0_, h1_, h2_, h3_, h4_, h5_, h6_, h7_, h8_, h9_, h10_, h11_, h12_, h13_, h14_, h15_, h16_, h17_, h18_, h19_, h20_, h21_, hI⟩
          obtain rfl := h6_ d6_0
          refine r_loadL hI 0 sc_string rfl rfl ?_
          exact ⟨h0_, h1_, h2_, h3_, h4_, h5_, h6_, fun _ => rfl, h8_, h9_, h10_, h11_, h12_, h13_, h14_, h15_, h16_, h17_, h18_, h19_, h20_, h21_, hI⟩
        · intro D hD_ d5_0 d7_1 x35 x34 x33 x32 x31 x30 x29 x28 x27 x26 x25 x24 x23 x22 x21 x20 x19 x18 x17 x16 x15 x14 w_
          rintro ⟨h0_, h1_, h2_, h3_, h4_, h5_, h6_, h7_, h8_, h9_, h10_, h11_, h12_, h13_, h14_, h15_, h16_, h17_, h18_, h19_, h20_, h21_, hI⟩
          obtain rfl := h5_ d5_0
          obtain rfl := h7_ d7_1
          refine r_seql ?_; rw [hq]
          exact ⟨h0_, h1_, h2_, h3_, h4_, h5_, h6_, h7_, fun _ => rfl, h9_, h10_, h11_, h12_, h13_, h14_, h15_, h16_, h17_, h18_, h19_, h20_, h21_, hI⟩
        · intro D hD_ d8_0 x35 x34 x33 x32 x31 x30 x29 x28 x27 x26 x25 x24 x23 x22 x21 x20 x19 x18 x17 x16 x15 x14 w_
          rintro ⟨h0_, h1_, h2_, h3_, h4_, h5_, h6_, h7_, h8_, h9_, h10_, h11_, h12_, h13_, h14_, h15_, h16_, h17_, h18_, h19_, h20_, h21_, hI⟩
          obtain rfl := h8_ d8_0
          exact ⟨h0_, h1_, h2_, h3_, h4_, h5_, h6_, h7_, h8_, fun _ => rfl, h10_, h11_, h12_, h13_, h14_, h15_, h16_, h17_, h18_, h19_, h20_, h21_, hI⟩
        · intro D hD_ d9_0 x35 x34 x33 x32 x31 x30 x29 x28 x27 x26 x25 x24 x23 x22 x21 x20 x19 x18 x17 x16 x15 x14 w_
          rintro ⟨h0_, h1_, h2_, h3_, h4_, h5_, h6_, h7_, h8_, h9_, h10_, h11_, h12_, h13_, h14_, h15_, h16_, h17_, h18_, h19_, h20_, h21_, hI⟩
          obtain rfl := h9_ d9_0
          refine guard_ne (c := false) (b := true) (by decide) ?_
          exact ⟨h0_, h1_, h2_, h3_, h4_, h5_, h6_, h7_, h8_, h9_, fun _ => rfl, h11_, h12_, h13_, h14_, h15_, h16_, h17_, h18_, h19_, h20_, h21_, hI⟩
        · intro D hD_ d9_0 x35 x34 x33 x32 x31 x30 x29 x28 x27 x26 x25 x24 x23 x22 x21 x20 x19 x18 x17 x16 x15 x14 w_
          rintro ⟨h0_, h1_, h2_, h3_, h4_, h5_, h6_, h7_, h8_, h9_, h10_, h11_, h12_, h13_, h14_, h15_, h16_, h17_, h18_, h19_, h20_, h21_, hI⟩
          obtain rfl := h9_ d9_0
          refine guard_ne (c := false) (b := true) (by decide) ?_
          exact ⟨h0_, h1_, h2_, h3_, h4_, h5_, h6_, h7_, h8_, h9_, h10_, fun _ => rfl, h12_, h13_, h14_, h15_, h16_, h17_, h18_, h19_, h20_, h21_, hI⟩
        · intro D hD_ d10_0 d11_1 d9_2 x35 x34 x33 x32 x31 x30 x29 x28 x27 x26 x25 x24 x23 x22 x21 x20 x19 x18 x17 x16 x15 x14 w_
          rintro ⟨h0_, h1_, h2_, h3_, h4_, h5_, h6_, h7_, h8_, h9_, h10_, h11_, h12_, h13_, h14_, h15_, h16_, h17_, h18_, h19_, h20_, h21_, hI⟩
          obtain rfl := h10_ d10_0
          obtain rfl := h11_ d11_1
          obtain rfl := h9_ d9_2
          refine guard_ne (c := false) (b := true) (by decide) ?_
          exact ⟨h0_, h1_, h2_, h3_, h4_, h5_, h6_, h7_, h8_, h9_, h10_, h11_, fun _ => rfl, h13_, h14_, h15_, h16_, h17_, h18_, h19_, h20_, h21_, hI⟩
        · intro D hD_ d12_0 d9_1 x35 x34 x33 x32 x31 x30 x29 x28 x27 x26 x25 x24 x23 x22 x21 x20 x19 x18 x17 x16 x15 x14 w_
          rintro ⟨h0_, h1_, h2_, h3_, h4_, h5_, h6_, h7_, h8_, h9_, h10_, h11_, h12_, h13_, h14_, h15_, h16_, h17_, h18_, h19_, h20_, h21_, hI⟩
          obtain rfl := h12_ d12_0
          obtain rfl := h9_ d9_1
          refine guard_ne (c := false) (b := true) (by decide) ?_
          exact ⟨h0_, h1_, h2_, h3_, h4_, h5_, h6_, h7_, h8_, h9_, h10_, h11_, h12_, fun _ => rfl, h14_, h15_, h16_, h17_, h18_, h19_, h20_, h21_, hI⟩
        · intro D hD_ d13_0 d9_1 x35 x34 x33 x32 x31 x30 x29 x28 x27 x26 x25 x24 x23 x22 x21 x20 x19 x18 x17 x16 x15 x14 w_
          rintro ⟨h0_, h1_, h2_, h3_, h4_, h5_, h6_, h7_, h8_, h9_, h10_, h11_, h12_, h13_, h14_, h15_, h16_, h17_, h18_, h19_, h20_, h21_, hI⟩
          obtain rfl := h13_ d13_0
          obtain rfl := h9_ d9_1
          refine guard_ne (c := false) (b := true) (by decide) ?_
          exact ⟨h0_, h1_, h2_, h3_, h4_, h5_, h6_, h7_, h8_, h9_, h10_, h11_, h12_, h13_, fun _ => rfl, h15_, h16_, h17_, h18_, h19_, h20_, h21_, hI⟩
        · intro D hD_ d14_0 d9_1 x35 x34 x33 x32 x31 x30 x29 x28 x27 x26 x25 x24 x23 x22 x21 x20 x19 x18 x17 x16 x15 x14 w_
          rintro ⟨h0_, h1_, h2_, h3_, h4_, h5_, h6_, h7_, h8_, h9_, h10_, h11_, h12_, h13_, h14_, h15_, h16_, h17_, h18_, h19_, h20_, h21_, hI⟩
          obtain rfl := h14_ d14_0
          obtain rfl := h9_ d9_1
          refine guard_ne (c := false) (b := true) (by decide) ?_
          exact ⟨h0_, h1_, h2_, h3_, h4_, h5_, h6_, h7_, h8_, h9_, h10_, h11_, h12_, h13_, h14_, fun _ => rfl, h16_, h17_, h18_, h19_, h20_, h21_, hI⟩
        · intro D hD_ d15_0 d9_1 x35 x34 x33 x32 x31 x30 x29 x28 x27 x26 x25 x24 x23 x22 x21 x20 x19 x18 x17 x16 x15 x14 w_
          rintro ⟨h0_, h1_, h2_, h3_, h4_, h5_, h6_, h7_, h8_, h9_, h10_, h11_, h12_, h13_, h14_, h15_, h16_, h17_, h18_, h19_, h20_, h21_, hI⟩
          obtain rfl := h15_ d15_0
          obtain rfl := h9_ d9_1
          refine guard_ne (c := false) (b := true) (by decide) ?_
          exact ⟨h0_, h1_, h2_, h3_, h4_, h5_, h6_, h7_, h8_, h9_, h10_, h11_, h12_, h13_, h14_, h15_, fun _ => rfl, h17_, h18_, h19_, h20_, h21_, hI⟩
        · intro D hD_ d9_0 x35 x34 x33 x32 x31 x30 x29 x28 x27 x26 x25 x24 x23 x22 x21 x20 x19 x18 x17 x16 x15 x14 w_
          rintro ⟨h0_, h1_, h2_, h3_, h4_, h5_, h6_, h7_, h8_, h9_, h10_, h11_, h12_, h13_, h14_, h15_, h16_, h17_, h18_, h19_, h20_, h21_, hI⟩
          obtain rfl := h9_ d9_0
          refine guard_ne (c := false) (b := true) (by decide) ?_
          exact ⟨h0_, h1_, h2_, h3_, h4_, h5_, h6_, h7_, h8_, h9_, h10_, h11_, h12_, h13_, h14_, h15_, h16_, fun _ => rfl, h18_, h19_, h20_, h21_, hI⟩
        · intro D hD_ d17_0 d9_1 x35 x34 x33 x32 x31 x30 x29 x28 x27 x26 x25 x24 x23 x22 x21 x20 x19 x18 x17 x16 x15 x14 w_
          rintro ⟨h0_, h1_, h2_, h3_, h4_, h5_, h6_, h7_, h8_, h9_, h10_, h11_, h12_, h13_, h14_, h15_, h16_, h17_, h18_, h19_, h20_, h21_, hI⟩
          obtain rfl := h17_ d17_0
          obtain rfl := h9_ d9_1
          refine guard_ne (c := false) (b := true) (by decide) ?_
          exact ⟨h0_, h1_, h2_, h3_, h4_, h5_, h6_, h7_, h8_, h9_, h10_, h11_, h12_, h13_, h14_, h15_, h16_, h17_, fun _ => rfl, h19_, h20_, h21_, hI⟩
        · intro D hD_ d18_0 d9_1 x35 x34 x33 x32 x31 x30 x29 x28 x27 x26 x25 x24 x23 x22 x21 x20 x19 x18 x17 x16 x15 x14 w_
          rintro ⟨h0_, h1_, h2_, h3_, h4_, h5_, h6_, h7_, h8_, h9_, h10_, h11_, h12_, h13_, h14_, h15_, h16_, h17_, h18_, h19_, h20_, h21_, hI⟩
          obtain rfl := h18_ d18_0
          obtain rfl := h9_ d9_1
          refine guard_ne (c := false) (b := true) (by decide) ?_
          exact ⟨h0_, h1_, h2_, h3_, h4_, h5_, h6_, h7_, h8_, h9_, h10_, h11_, h12_, h13_, h14_, h15_, h16_, h17_, h18_, fun _ => rfl, h20_, h21_, hI⟩
        · intro D hD_ d16_0 d19_1 d9_2 x35 x34 x33 x32 x31 x30 x29 x28 x27 x26 x25 x24 x23 x22 x21 x20 x19 x18 x17 x16 x15 x14 w_
          rintro ⟨h0_, h1_, h2_, h3_, h4_, h5_, h6_, h7_, h8_, h9_, h10_, h11_, h12_, h13_, h14_, h15_, h16_, h17_, h18_, h19_, h20_, h21_, hI⟩
          obtain rfl := h16_ d16_0
          obtain rfl := h19_ d19_1
          obtain rfl := h9_ d9_2
          refine guard_ne (c := false) (b := true) (by decide) ?_
          exact ⟨h0_, h1_, h2_, h3_, h4_, h5_, h6_, h7_, h8_, h9_, h10_, h11_, h12_, h13_, h14_, h15_, h16_, h17_, h18_, h19_, fun _ => rfl, h21_, hI⟩
        · intro D hD_ d9_0 d20_1 x35 x34 x33 x32 x31 x30 x29 x28 x27 x26 x25 x24 x23 x22 x21 x20 x19 x18 x17 x16 x15 x14 w_
          rintro ⟨h0_, h1_, h2_, h3_, h4_, h5_, h6_, h7_, h8_, h9_, h10_, h11_, h12_, h13_, h14_, h15_, h16_, h17_, h18_, h19_, h20_, h21_, hI⟩
          obtain rfl := h9_ d9_0
          obtain rfl := h20_ d20_1
          refine r_pickF ?_
          exact ⟨h0_, h1_, h2_, h3_, h4_, h5_, h6_, h7_, h8_, h9_, h10_, h11_, h12_, h13_, h14_, h15_, h16_, h17_, h18_, h19_, h20_, fun _ => rfl, hI⟩
        intro D d21_ d20_ d19_ d18_ d17_ d16_ d15_ d14_ d13_ d12_ d11_ d10_ d9_ d8_ d7_ d6_ d5_ d4_ d3_ d2_ d1_ d0_ x35 x34 x33 x32 x31 x30 x29 x28 x27 x26 x25 x24 x23 x22 x21 x20 x19 x18 x17 x16 x15 x14 w_
        rintro ⟨h0_, h1_, h2_, h3_, h4_, h5_, h6_, h7_, h8_, h9_, h10_, h11_, h12_, h13_, h14_, h15_, h16_, h17_, h18_, h19_, h20_, h21_, hI⟩
        obtain rfl := h21_ d21_
        obtain rfl := h20_ d20_
        obtain rfl := h19_ d19_
        obtain rfl := h18_ d18_
        obtain rfl := h17_ d17_
        obtain rfl := h16_ d16_
        obtain rfl := h15_ d15_
        obtain rfl := h14_ d14_
        obtain rfl := h13_ d13_
        obtain rfl := h12_ d12_
        obtain rfl := h11_ d11_
        obtain rfl := h10_ d10_
        obtain rfl := h9_ d9_
        obtain rfl := h8_ d8_
        obtain rfl := h7_ d7_
        obtain rfl := h6_ d6_
        obtain rfl := h5_ d5_
        obtain rfl := h4_ d4_
        obtain rfl := h3_ d3_
        obtain rfl := h2_ d2_
        obtain rfl := h1_ d1_
        obtain rfl := h0_ d0_
        clear h0_ h1_ h2_ h3_ h4_ h5_ h6_ h7_ h8_ h9_ h10_ h11_ h12_ h13_ h14_ h15_ h16_ h17_ h18_ h19_ h20_ h21_
        refine condV (fun hb => by cases hb) (fun hb => ?_)
        rw [hf, if_neg (by decide)]
        exact hI
      · have hf : eqPd (predT p[k].head) (predT (.mk gk gn gs gks)) = decide ((p[k].head.kids.length : Int) = gks.length) := by rw [hf0, hq]; rfl
        refine ⟨fun D x35 x34 x33 x32 x31 x30 x29 x28 x27 x26 x25 x24 x23 x22 x21 x20 x19 x18 x17 x16 x15 x14 w_ => (D 0 = true → x14 = .slice (some ⟨b, o, none⟩) p.length cap) ∧ (D 1 = true → x15 = .int .i64 k) ∧ (D 2 = true → x16 = .pointer (some ⟨b, o + k * 5, none⟩)) ∧ (D 3 = true → x17 = .pointer (some ⟨b, o + k * 5, none⟩)) ∧ (D 4 = true → x18 = .pointer (some ⟨b, o + k * 5 + 2, none⟩)) ∧ (D 5 = true → x19 = .string p[k].head.name) ∧ (D 6 = true → x20 = .pointer (some ⟨b3, 2, none⟩)) ∧ (D 7 = true → x21 = .string gs) ∧ (D 8 = true → x22 = .bool true) ∧ (D 9 = true → x23 = .bool true) ∧ (D 10 = true → x24 = .slice (some ⟨b, o, none⟩) p.length cap) ∧ (D 11 = true → x25 = .int .i64 k) ∧ (D 12 = true → x26 = .pointer (some ⟨b, o + k * 5, none⟩)) ∧ (D 13 = true → x27 = .pointer (some ⟨b, o + k * 5, none⟩)) ∧ (D 14 = true → x28 = .pointer (some ⟨b, o + k * 5 + 3, none⟩)) ∧ (D 15 = true → x29 = kv) ∧ (D 16 = true → x30 = .int .i64 p[k].head.kids.length) ∧ (D 17 = true → x31 = .pointer (some ⟨b3, 3, none⟩)) ∧ (D 18 = true → x32 = gv) ∧ (D 19 = true → x33 = .int .i64 gks.length) ∧ (D 20 = true → x34 = .bool (decide ((p[k].head.kids.length : Int) = gks.length))) ∧ (D 21 = true → x35 = .bool (decide ((p[k].head.kids.length : Int) = gks.length))) ∧ Inv w [] [.blk b3 (.cells #[.int .i64 gk, .int .i64 gn, .string gs, gv] t_iTerm), rowI t5 l] S w_, ⟨fun h => Bool.noConfusion h, fun h => Bool.noConfusion h, fun h => Bool.noConfusion h, fun h => Bool.noConfusion h, fun h => Bool.noConfusion h, fun h => Bool.noConfusion h, fun h => Bool.noConfusion h, fun h => Bool.noConfusion h, fun h => Bool.noConfusion h, fun h => Bool.noConfusion h, fun h => Bool.noConfusion h, fun h => Bool.noConfusion h, fun h => Bool.noConfusion h, fun h => Bool.noConfusion h, fun h => Bool.noConfusion h, fun h => Bool.noConfusion h, fun h => Bool.noConfusion h, fun h => Bool.noConfusion h, fun h => Bool.noConfusion h, fun h => Bool.noConfusion h, fun h => Bool.noConfusion h, fun h => Bool.noConfusion h, hI.draw⟩, ⟨?_, ?_, ?_, ?_, ?_, ?_, ?_, ?_, ?_, ?_, ?_, ?_, ?_, ?_, ?_, ?_, ?_, ?_, ?_, ?_, ?_, ?_, trivial⟩, ?_⟩
        · intro D hD_  x35 x34 x33 x32 x31 x30 x29 x28 x27 x26 x25 x24 x23 x22 x21 x20 x19 x18 x17 x16 x15 x14 w_
          rintro ⟨h0_, h1_, h2_, h3_, h4_, h5_, h6_, h7_, h8_, h9_, h10_, h11_, h12_, h13_, h14_, h15_, h16_, h17_, h18_, h19_, h20_, h21_, hI⟩
          exact ⟨fun _ => rfl, h1_, h2_, h3_, h4_, h5_, h6_, h7_, h8_, h9_, h10_, h11_, h12_, h13_, h14_, h15_, h16_, h17_, h18_, h19_, h20_, h21_, hI⟩
        · intro D hD_  x35 x34 x33 x32 x31 x30 x29 x28 x27 x26 x25 x24 x23 x22 x21 x20 x19 x18 x17 x16 x15 x14 w_
          rintro ⟨h0_, h1_, h2_, h3_, h4_, h5_, h6_, h7_, h8_, h9_, h10_, h11_, h12_, h13_, h14_, h15_, h16_, h17_, h18_, h19_, h20_, h21_, hI⟩
          exact ⟨h0_, fun _ => rfl, h2_, h3_, h4_, h5_, h6_, h7_, h8_, h9_, h10_, h11_, h12_, h13_, h14_, h15_, h16_, h17_, h18_, h19_, h20_, h21_, hI⟩
        · intro D hD_ d0_0 d1_1 x35 x34 x33 x32 x31 x30 x29 x28 x27 x26 x25 x24 x23 x22 x21 x20 x19 x18 x17 x16 x15 x14 w_
          rintro ⟨h0_, h1_, h2_, h3_, h4_, h5_, h6_, h7_, h8_, h9_, h10_, h11_, h12_, h13_, h14_, h15_, h16_, h17_, h18_, h19_, h20_, h21_, hI⟩
          obtain rfl := h0_ d0_0
          obtain rfl := h1_ d1_1
          refine r_indexAddr sl_SiClause hk' ?_
          exact ⟨h0_, h1_, fun _ => rfl, h3_, h4_, h5_, h6_, h7_, h8_, h9_, h10_, h11_, h12_, h13_, h14_, h15_, h16_, h17_, h18_, h19_, h20_, h21_, hI⟩
        · intro D hD_ d2_0 x35 x34 x33 x32 x31 x30 x29 x28 x27 x26 x25 x24 x23 x22 x21 x20 x19 x18 x17 x16 x15 x14 w_
          rintro ⟨h0_, h1_, h2_, h3_, h4_, h5_, h6_, h7_, h8_, h9_, h10_, h11_, h12_, h13_, h14_, h15_, h16_, h17_, h18_, h19_, h20_, h21_, hI⟩
          obtain rfl := h2_ d2_0
          refine r_field fo_iClause_0 ?_
          exact ⟨h0_, h1_, h2_, fun _ => rfl, h4_, h5_, h6_, h7_, h8_, h9_, h10_, h11_, h12_, h13_, h14_, h15_, h16_, h17_, h18_, h19_, h20_, h21_, hI⟩
        · intro D hD_ d3_0 x35 x34 x33 x32 x31 x30 x29 x28 x27 x26 x25 x24 x23 x22 x21 x20 x19 x18 x17 x16 x15 x14 w_
          rintro ⟨h0_, h1_, h2_, h3_, h4_, h5_, h6_, h7_, h8_, h9_, h10_, h11_, h12_, h13_, h14_, h15_, h16_, h17_, h18_, h19_, h20_, h21_, hI⟩
          obtain rfl := h3_ d3_0
          refine r_field fo_iTerm_2 ?_
          exact ⟨h0_, h1_, h2_, h3_, fun _ => rfl, h5_, h6_, h7_, h8_, h9_, h10_, h11_, h12_, h13_, h14_, h15_, h16_, h17_, h18_, h19_, h20_, h21_, hI⟩
        · intro D hD_ d4_0 x35 x34 x33 x32 x31 x30 x29 x28 x27 x26 x25 x24 x23 x22 x21 x20 x19 x18 x17 x16 x15 x14 w_
          rintro ⟨h0_, h1_, h2_, h3_, h4_, h5_, h6_, h7_, h8_, h9_, h10_, h11_, h12_, h13_, h14_, h15_, h16_, h17_, h18_, h19_, h20_, h21_, hI⟩
          obtain rfl := h4_ d4_0
          refine r_load sc_string (by rw [hI.cellS hS]; exact cellsAt_get hcs 2 _ rfl) ?_
          exact ⟨h0_, h1_, h2_, h3_, h4_, fun _ => rfl, h6_, h7_, h8_, h9_, h10_, h11_, h12_, h13_, h14_, h15_, h16_, h17_, h18_, h19_, h20_, h21_, hI⟩
        · intro D hD_  x35 x34 x33 x32 x31 x30 x29 x28 x27 x26 x25 x24 x23 x22 x21 x20 x19 x18 x17 x16 x15 x14 w_
          rintro ⟨h0_, h1_, h2_, h3_, h4_, h5_, h6_, h7_, h8_, h9_, h10_, h11_, h12_, h13_, h14_, h15_, h16_, h17_, h18_, h19_, h20_, h21_, hI⟩
          refine r_field fo_iTerm_2 ?_
          exact ⟨h0_, h1_, h2_, h3_, h4_, h5_, fun _ => rfl, h7_, h8_, h9_, h10_, h11_, h12_, h13_, h14_, h15_, h16_, h17_, h18_, h19_, h20_, h21_, hI⟩
        · intro D hD_ d6_0 x35 x34 x33 x32 x31 x30 x29 x28 x27 x26 x25 x24 x23 x22 x21 x20 x19 x18 x17 x16 x15 x14 w_
          rintro ⟨h0_, h1_, h2_, h3_, h4_, h5_, h6_, h7_, h8_, h9_, h10_, h11_, h12_, h13_, h14_, h15_, h16_, h17_, h18_, h19_, h20_, h21_, hI⟩
          obtain rfl := h6_ d6_0
          refine r_loadL hI 0 sc_string rfl rfl ?_
          exact ⟨h0_, h1_, h2_, h3_, h4_, h5_, h6_, fun _ => rfl, h8_, h9_, h10_, h11_, h12_, h13_, h14_, h15_, h16_, h17_, h18_, h19_, h20_, h21_, hI⟩
        · intro D hD_ d5_0 d7_1 x35 x34 x33 x32 x31 x30 x29 x28 x27 x26 x25 x24 x23 x22 x21 x20 x19 x18 x17 x16 x15 x14 w_
          rintro ⟨h0_, h1_, h2_, h3_, h4_, h5_, h6_, h7_, h8_, h9_, h10_, h11_, h12_, h13_, h14_, h15_, h16_, h17_, h18_, h19_, h20_, h21_, hI⟩
          obtain rfl := h5_ d5_0
          obtain rfl := h7_ d7_1
          refine r_seql ?_; rw [hq]
          exact ⟨h0_, h1_, h2_, h3_, h4_, h5_, h6_, h7_, fun _ => rfl, h9_, h10_, h11_, h12_, h13_, h14_, h15_, h16_, h17_, h18_, h19_, h20_, h21_, hI⟩
        · intro D hD_ d8_0 x35 x34 x33 x32 x31 x30 x29 x28 x27 x26 x25 x24 x23 x22 x21 x20 x19 x18 x17 x16 x15 x14 w_
          rintro ⟨h0_, h1_, h2_, h3_, h4_, h5_, h6_, h7_, h8_, h9_, h10_, h11_, h12_, h13_, h14_, h15_, h16_, h17_, h18_, h19_, h20_, h21_, hI⟩
          obtain rfl := h8_ d8_0
          exact ⟨h0_, h1_, h2_, h3_, h4_, h5_, h6_, h7_, h8_, fun _ => rfl, h10_, h11_, h12_, h13_, h14_, h15_, h16_, h17_, h18_, h19_, h20_, h21_, hI⟩
        · intro D hD_ d9_0 x35 x34 x33 x32 x31 x30 x29 x28 x27 x26 x25 x24 x23 x22 x21 x20 x19 x18 x17 x16 x15 x14 w_
          rintro ⟨h0_, h1_, h2_, h3_, h4_, h5_, h6_, h7_, h8_, h9_, h10_, h11_, h12_, h13_, h14_, h15_, h16_, h17_, h18_, h19_, h20_, h21_, hI⟩
          obtain rfl := h9_ d9_0
          refine guard_true ?_
          exact ⟨h0_, h1_, h2_, h3_, h4_, h5_, h6_, h7_, h8_, h9_, fun _ => rfl, h11_, h12_, h13_, h14_, h15_, h16_, h17_, h18_, h19_, h20_, h21_, hI⟩
        · intro D hD_ d9_0 x35 x34 x33 x32 x31 x30 x29 x28 x27 x26 x25 x24 x23 x22 x21 x20 x19 x18 x17 x16 x15 x14 w_
          rintro ⟨h0_, h1_, h2_, h3_, h4_, h5_, h6_, h7_, h8_, h9_, h10_, h11_, h12_, h13_, h14_, h15_, h16_, h17_, h18_, h19_, h20_, h21_, hI⟩
          obtain rfl := h9_ d9_0
          refine guard_true ?_
          exact ⟨h0_, h1_, h2_, h3_, h4_, h5_, h6_, h7_, h8_, h9_, h10_, fun _ => rfl, h12_, h13_, h14_, h15_, h16_, h17_, h18_, h19_, h20_, h21_, hI⟩
        · intro D hD_ d10_0 d11_1 d9_2 x35 x34 x33 x32 x31 x30 x29 x28 x27 x26 x25 x24 x23 x22 x21 x20 x19 x18 x17 x16 x15 x14 w_
          rintro ⟨h0_, h1_, h2_, h3_, h4_, h5_, h6_, h7_, h8_, h9_, h10_, h11_, h12_, h13_, h14_, h15_, h16_, h17_, h18_, h19_, h20_, h21_, hI⟩
          obtain rfl := h10_ d10_0
          obtain rfl := h11_ d11_1
          obtain rfl := h9_ d9_2
          refine guard_true ?_; refine r_indexAddr sl_SiClause hk' ?_
          exact ⟨h0_, h1_, h2_, h3_, h4_, h5_, h6_, h7_, h8_, h9_, h10_, h11_, fun _ => rfl, h13_, h14_, h15_, h16_, h17_, h18_, h19_, h20_, h21_, hI⟩
        · intro D hD_ d12_0 d9_1 x35 x34 x33 x32 x31 x30 x29 x28 x27 x26 x25 x24 x23 x22 x21 x20 x19 x18 x17 x16 x15 x14 w_
          rintro ⟨h0_, h1_, h2_, h3_, h4_, h5_, h6_, h7_, h8_, h9_, h10_, h11_, h12_, h13_, h14_, h15_, h16_, h17_, h18_, h19_, h20_, h21_, hI⟩
          obtain rfl := h12_ d12_0
          obtain rfl := h9_ d9_1
          refine guard_true ?_; refine r_field fo_iClause_0 ?_
          exact ⟨h0_, h1_, h2_, h3_, h4_, h5_, h6_, h7_, h8_, h9_, h10_, h11_, h12_, fun _ => rfl, h14_, h15_, h16_, h17_, h18_, h19_, h20_, h21_, hI⟩
        · intro D hD_ d13_0 d9_1 x35 x34 x33 x32 x31 x30 x29 x28 x27 x26 x25 x24 x23 x22 x21 x20 x19 x18 x17 x16 x15 x14 w_
          rintro ⟨h0_, h1_, h2_, h3_, h4_, h5_, h6_, h7_, h8_, h9_, h10_, h11_, h12_, h13_, h14_, h15_, h16_, h17_, h18_, h19_, h20_, h21_, hI⟩
          obtain rfl := h13_ d13_0
          obtain rfl := h9_ d9_1
          refine guard_true ?_; refine r_field fo_iTerm_3 ?_
          exact ⟨h0_, h1_, h2_, h3_, h4_, h5_, h6_, h7_, h8_, h9_, h10_, h11_, h12_, h13_, fun _ => rfl, h15_, h16_, h17_, h18_, h19_, h20_, h21_, hI⟩
        · intro D hD_ d14_0 d9_1 x35 x34 x33 x32 x31 x30 x29 x28 x27 x26 x25 x24 x23 x22 x21 x20 x19 x18 x17 x16 x15 x14 w_
          rintro ⟨h0_, h1_, h2_, h3_, h4_, h5_, h6_, h7_, h8_, h9_, h10_, h11_, h12_, h13_, h14_, h15_, h16_, h17_, h18_, h19_, h20_, h21_, hI⟩
          obtain rfl := h14_ d14_0
          obtain rfl := h9_ d9_1
          refine guard_true ?_; refine r_load sc_SiTerm (by rw [hI.cellS hS]; exact cellsAt_get hcs 3 _ rfl) ?_
          exact ⟨h0_, h1_, h2_, h3_, h4_, h5_, h6_, h7_, h8_, h9_, h10_, h11_, h12_, h13_, h14_, fun _ => rfl, h16_, h17_, h18_, h19_, h20_, h21_, hI⟩
        · intro D hD_ d15_0 d9_1 x35 x34 x33 x32 x31 x30 x29 x28 x27 x26 x25 x24 x23 x22 x21 x20 x19 x18 x17 x16 x15 x14 w_
          rintro ⟨h0_, h1_, h2_, h3_, h4_, h5_, h6_, h7_, h8_, h9_, h10_, h11_, h12_, h13_, h14_, h15_, h16_, h17_, h18_, h19_, h20_, h21_, hI⟩
          obtain rfl := h15_ d15_0
          obtain rfl := h9_ d9_1
          refine guard_true ?_; refine r_lenSl hk1 sl_SiTerm ?_
          exact ⟨h0_, h1_, h2_, h3_, h4_, h5_, h6_, h7_, h8_, h9_, h10_, h11_, h12_, h13_, h14_, h15_, fun _ => rfl, h17_, h18_, h19_, h20_, h21_, hI⟩
        · intro D hD_ d9_0 x35 x34 x33 x32 x31 x30 x29 x28 x27 x26 x25 x24 x23 x22 x21 x20 x19 x18 x17 x16 x15 x14 w_
          rintro ⟨h0_, h1_, h2_, h3_, h4_, h5_, h6_, h7_, h8_, h9_, h10_, h11_, h12_, h13_, h14_, h15_, h16_, h17_, h18_, h19_, h20_, h21_, hI⟩
          obtain rfl := h9_ d9_0
          refine guard_true ?_; refine r_field fo_iTerm_3 ?_
          exact ⟨h0_, h1_, h2_, h3_, h4_, h5_, h6_, h7_, h8_, h9_, h10_, h11_, h12_, h13_, h14_, h15_, h16_, fun _ => rfl, h18_, h19_, h20_, h21_, hI⟩
        · intro D hD_ d17_0 d9_1 x35 x34 x33 x32 x31 x30 x29 x28 x27 x26 x25 x24 x23 x22 x21 x20 x19 x18 x17 x16 x15 x14 w_
          rintro ⟨h0_, h1_, h2_, h3_, h4_, h5_, h6_, h7_, h8_, h9_, h10_, h11_, h12_, h13_, h14_, h15_, h16_, h17_, h18_, h19_, h20_, h21_, hI⟩
          obtain rfl := h17_ d17_0
          obtain rfl := h9_ d9_1
          refine guard_true ?_; refine r_loadL hI 0 sc_SiTerm rfl rfl ?_
          exact ⟨h0_, h1_, h2_, h3_, h4_, h5_, h6_, h7_, h8_, h9_, h10_, h11_, h12_, h13_, h14_, h15_, h16_, h17_, fun _ => rfl, h19_, h20_, h21_, hI⟩
        · intro D hD_ d18_0 d9_1 x35 x34 x33 x32 x31 x30 x29 x28 x27 x26 x25 x24 x23 x22 x21 x20 x19 x18 x17 x16 x15 x14 w_
          rintro ⟨h0_, h1_, h2_, h3_, h4_, h5_, h6_, h7_, h8_, h9_, h10_, h11_, h12_, h13_, h14_, h15_, h16_, h17_, h18_, h19_, h20_, h21_, hI⟩
          obtain rfl := h18_ d18_0
          obtain rfl := h9_ d9_1
          refine guard_true ?_; refine r_lenSl hgk sl_SiTerm ?_
          exact ⟨h0_, h1_, h2_, h3_, h4_, h5_, h6_, h7_, h8_, h9_, h10_, h11_, h12_, h13_, h14_, h15_, h16_, h17_, h18_, fun _ => rfl, h20_, h21_, hI⟩
        · intro D hD_ d16_0 d19_1 d9_2 x35 x34 x33 x32 x31 x30 x29 x28 x27 x26 x25 x24 x23 x22 x21 x20 x19 x18 x17 x16 x15 x14 w_
          rintro ⟨h0_, h1_, h2_, h3_, h4_, h5_, h6_, h7_, h8_, h9_, h10_, h11_, h12_, h13_, h14_, h15_, h16_, h17_, h18_, h19_, h20_, h21_, hI⟩
          obtain rfl := h16_ d16_0
          obtain rfl := h19_ d19_1
          obtain rfl := h9_ d9_2
          refine guard_true ?_; refine r_eql ?_
          exact ⟨h0_, h1_, h2_, h3_, h4_, h5_, h6_, h7_, h8_, h9_, h10_, h11_, h12_, h13_, h14_, h15_, h16_, h17_, h18_, h19_, fun _ => rfl, h21_, hI⟩
        · intro D hD_ d9_0 d20_1 x35 x34 x33 x32 x31 x30 x29 x28 x27 x26 x25 x24 x23 x22 x21 x20 x19 x18 x17 x16 x15 x14 w_
          rintro ⟨h0_, h1_, h2_, h3_, h4_, h5_, h6_, h7_, h8_, h9_, h10_, h11_, h12_, h13_, h14_, h15_, h16_, h17_, h18_, h19_, h20_, h21_, hI⟩
          obtain rfl := h9_ d9_0
          obtain rfl := h20_ d20_1
          refine r_pickT ?_
          exact ⟨h0_, h1_, h2_, h3_, h4_, h5_, h6_, h7_, h8_, h9_, h10_, h11_, h12_, h13_, h14_, h15_, h16_, h17_, h18_, h19_, h20_, fun _ => rfl, hI⟩
        intro D d21_ d20_ d19_ d18_ d17_ d16_ d15_ d14_ d13_ d12_ d11_ d10_ d9_ d8_ d7_ d6_ d5_ d4_ d3_ d2_ d1_ d0_ x35 x34 x33 x32 x31 x30 x29 x28 x27 x26 x25 x24 x23 x22 x21 x20 x19 x18 x17 x16 x15 x14 w_
        rintro ⟨h0_, h1_, h2_, h3_, h4_, h5_, h6_, h7_, h8_, h9_, h10_, h11_, h12_, h13_, h14_, h15_, h16_, h17_, h18_, h19_, h20_, h21_, hI⟩
        obtain rfl := h21_ d21_
        obtain rfl := h20_ d20_
        obtain rfl := h19_ d19_
        obtain rfl := h18_ d18_
        obtain rfl := h17_ d17_
        obtain rfl := h16_ d16_
        obtain rfl := h15_ d15_
        obtain rfl := h14_ d14_
        obtain rfl := h13_ d13_
        obtain rfl := h12_ d12_
        obtain rfl := h11_ d11_
        obtain rfl := h10_ d10_
        obtain rfl := h9_ d9_
        obtain rfl := h8_ d8_
        obtain rfl := h7_ d7_
        obtain rfl := h6_ d6_
        obtain rfl := h5_ d5_
        obtain rfl := h4_ d4_
        obtain rfl := h3_ d3_
        obtain rfl := h2_ d2_
        obtain rfl := h1_ d1_
        obtain rfl := h0_ d0_
        clear h0_ h1_ h2_ h3_ h4_ h5_ h6_ h7_ h8_ h9_ h10_ h11_ h12_ h13_ h14_ h15_ h16_ h17_ h18_ h19_ h20_ h21_
        refine condV (fun hb => ?_) (fun hb => ?_)
        · refine r_slice1 hI mk_Sint rfl (by omega) (by omega) fun b w' hI => ?_
          refine r_append hI 1 (k := 1) [.int .i64 k] mk_Sint (by omega) rfl rfl ?_ ?_ (by omega) (by omega) fun v' w' hI => ?_
          · intro j u hj
            rw [hI.cellL (i := 2) rfl]
            match j with
            | 0 => simpa [Value.cells] using hj
            | j + 1 => simp at hj
          · simp [Value.oneCell']
          · rw [ints_snoc] at hI
            have hI := hI.pick [true, true, false]
            rw [hf, if_pos hb]
            have e : Item.row v' t_int 1 (l.length + 1) (ints (l ++ [(k : Int)])) = rowI v' (l ++ [(k : Int)]) := by simp [rowI]
            rw [show List.length l + 1 = l.length + 1 from rfl, e] at hI
            exact hI
        · rw [hf, if_neg (by rw [hb]; decide)]
          exact hI
    intro t5 _ _ _ _ _ _ _ _ _ _ _ _ _ _ _ _ _ _ _ _ _ _ _ _ _ _ w' hI
    refine r_add (by omega) ?_
    refine ⟨⟨k + 1, _, hk', rfl, ?_, ?_, hI⟩, by simp [intOf]; omega⟩
    · rw [posOf_step (fun c => eqPd (predT c.head) (predT (.mk gk gn gs gks))) p k hk' l, hrel]
    · split
      · simp; omega
      · omega
  · have : k = p.length := by omega
    subst this
    rw [List.drop_length, posOf, List.append_nil] at hrel
    subst hrel
    exact ⟨_, _, _, rfl, hI.pick [false, true], Ext.refl _ _ _, rfl, rfl⟩

end Go.Proofs.YtaaihodhhacapaaGreat

/- Lists of predicates: asked and grown, on both sides. -/
namespace Go.Proofs.YtaaihodhhacapaaGreat
open Go Go.RowKit
attribute [local irreducible] Run CondV GuardV LoadV

end Go.Proofs.YtaaihodhhacapaaGreat

/- Marks in rows of predicates; trees lent and taken back. -/
namespace Go.Proofs.YtaaihodhhacapaaGreat
open Go Go.RowKit

/- a tree of the function's own, handed to readers, and taken back -/
theorem Inv.lendAll {w0 w : World} {X : List Nat} {A : List Item} (M : Heaplet) {S : Store} (h : Inv w0 X (A ++ blks M) S w) :
    ∃ S', Sle S S' ∧ Ins S' M ∧ Inv w0 X A S' w ∧ ∀ B w', Inv w0 X B S' w' → Inv w0 X (B ++ blks M) S w' := by
  obtain ⟨S', h1, h2, h3, h4⟩ := Inv.publishAll M h
  have hnd := h.nd
  rw [feet_append, List.nodup_append] at hnd
  refine ⟨S', h2, h3, h1, fun B w' hB => ⟨hB.size, hB.os, hB.tape, hB.output, hB.old, fun it hit => ?_, ?_, fun b hb => ?_, fun b o hb => ⟨(hB.pub b o (h2 b o hb)).1, fun hb' => ?_⟩⟩⟩
  · rcases List.mem_append.1 hit with hit | hit
    · exact hB.its it hit
    · obtain ⟨p, hp, rfl⟩ := List.mem_map.1 hit
      exact (hB.pub _ _ (h3 p hp)).1
  · rw [feet_append, List.nodup_append]
    refine ⟨hB.nd, hnd.2.1, fun a ha b hb e => ?_⟩
    subst e
    obtain ⟨p, hp, rfl⟩ := mem_feet_blks.1 hb
    exact (hB.pub _ _ (h3 p hp)).2 ha
  · rw [feet_append] at hb
    rcases List.mem_append.1 hb with hb | hb
    · exact hB.new b hb
    · exact h.new b (by rw [feet_append]; exact List.mem_append_right _ hb)
  · rw [feet_append] at hb'
    rcases List.mem_append.1 hb' with hb' | hb'
    · exact (hB.pub b o (h2 b o hb)).2 hb'
    · exact (h.pub b o hb).2 (by rw [feet_append]; exact List.mem_append_right _ hb')
/- a row seen as its block -/
theorem Inv.openRow {w0 w : World} {X : List Nat} {A : List Item} {S : Store} {v : Value} {e : TypeId} {k n : Nat} {xs : List Value} (h : Inv w0 X (A ++ [.row v e k n xs]) S w) :
    xs.length = n * k ∧ ((v = .slice none 0 0 ∧ n = 0) ∨ ∃ g cap cur, v = .slice (some ⟨g, 0, none⟩) n cap ∧ n ≤ cap ∧ cap ≤ maxLen ∧ cur.size = cap * k ∧ cur.toList.take (n * k) = xs ∧ Inv w0 X (A ++ [.blk g (.cells cur e)]) S w) := by
  have hm : w.ownsRow 0 e k v n xs := h.its (.row v e k n xs) (by simp)
  obtain ⟨hl, hm⟩ := hm
  refine ⟨hl, ?_⟩
  rcases hm with hn | ⟨g, cap, cur, rfl, _, hg, hnc, hcm, hcs, ht⟩
  · exact .inl hn
  · have hf : feet (A ++ [Item.blk g (.cells cur e)]) = feet (A ++ [Item.row (.slice (some ⟨g, 0, none⟩) n cap) e k n xs]) := by
      simp [feet, Item.foot, Value.ownBlock]
    refine .inr ⟨g, cap, cur, rfl, hnc, hcm, hcs, ht, h.size, h.os, h.tape, h.output, h.old, fun it hit => ?_, by rw [hf]; exact h.nd, by rw [hf]; exact h.new, by rw [hf]; exact h.pub⟩
    rcases List.mem_append.1 hit with hit | hit
    · exact h.its it (List.mem_append_left _ hit)
    · simp at hit
      subst hit
      exact hg
theorem Inv.closeRow {w0 w : World} {X : List Nat} {A : List Item} {S : Store} {g cap k n : Nat} {cur : Array Value} {e : TypeId} (h : Inv w0 X (A ++ [.blk g (.cells cur e)]) S w) (hn : n ≤ cap) (hc : cap ≤ maxLen) (hs : cur.size = cap * k) :
    Inv w0 X (A ++ [.row (.slice (some ⟨g, 0, none⟩) n cap) e k n (cur.toList.take (n * k))]) S w := by
  have hg : w.heap[g]? = some (.cells cur e) := h.its (.blk g (.cells cur e)) (by simp)
  have hf : feet (A ++ [Item.row (.slice (some ⟨g, 0, none⟩) n cap) e k n (cur.toList.take (n * k))]) = feet (A ++ [Item.blk g (.cells cur e)]) := by
    simp [feet, Item.foot, Value.ownBlock]
  refine ⟨h.size, h.os, h.tape, h.output, h.old, fun it hit => ?_, by rw [hf]; exact h.nd, by rw [hf]; exact h.new, by rw [hf]; exact h.pub⟩
  rcases List.mem_append.1 hit with hit | hit
  · exact h.its it (List.mem_append_left _ hit)
  · simp at hit
    subst hit
    refine ⟨?_, .inr ⟨g, cap, cur, rfl, Nat.zero_le _, hg, hn, hc, hs, rfl⟩⟩
    rw [List.length_take, Array.length_toList, hs]
    exact Nat.min_eq_left (Nat.mul_le_mul_right k hn)

section
attribute [local irreducible] Run CondV GuardV LoadV
end

end Go.Proofs.YtaaihodhhacapaaGreat

/- Steps that the laws' walks share: copies lent and marked, results compared, marked and read again. -/
namespace Go.Proofs.YtaaihodhhacapaaGreat
open Go Go.RowKit
section
variable {w w0 : World} {X : List Nat} {L A : List Item} {S : Store} {K : Value → World → Prop}
attribute [local irreducible] Run CondV GuardV LoadV
/- copies that will be marked: their blocks are known -/
theorem Run.toClauseM {p : List C} {v : Value} (hI : Inv w0 X L S w) (h : RdSl S 5 (RdC S) v p) (hw : p.length + wP p ≤ 1048576)
    (hk : ∀ v' M S' w', Sle S S' → RdSl S' 5 (RdC S') v' p → TrSl 5 TrC M v' p → Inv w0 X L S' w' → (∀ B w'', Inv w0 X B S' w'' → Inv w0 X (B ++ blks M) S w'') → K v' w') :
    Run Tryz.prog (sCall (.func (.func n_l_toClauseS) #[] #[]) [v]) w K := by
  refine Run.call0 fn_l_toClauseS nm_l_toClauseS hI (toClauseS_calls h hw) fun v' I' S' w' => ?_
  rintro ⟨rfl, M, rfl, hT⟩ _ hI
  obtain ⟨S2, hle, hins, hI, hb⟩ := Inv.lendAll M hI
  exact hk _ M _ _ hle (hT.rd hins fun _ _ _ hi h => h.rd hi) hT hI hb
/- they are marked, and nobody looks at them again -/
theorem Run.markP {p : List C} {v : Value} {M : Heaplet} {k : Int} (hI : Inv w0 X (A ++ blks M) S w) (hT : TrSl 5 TrC M v p) (hk0 : 0 ≤ k) (hk1 : k + 3 * cntP p ≤ 4611686018427387904)
    (hk : ∀ w', Inv w0 X A S w' → K (.int .i64 (k + 3 * cntP p)) w') : Run Tryz.prog (sCall (.func (.func n_l_markClauseS) #[] #[]) [v, .int .i64 k]) w K := by
  refine Run.call fn_l_markClauseS nm_l_markClauseS hI (markClauseS_ok hT hk0 hk1) fun v' I' S' w' => ?_
  rintro ⟨rfl, rfl, _⟩ _ hI
  rw [mkP_end]
  exact hk _ (hI.sub (List.sublist_append_left _ _))
/- rows of predicates -/
end

end Go.Proofs.YtaaihodhhacapaaGreat

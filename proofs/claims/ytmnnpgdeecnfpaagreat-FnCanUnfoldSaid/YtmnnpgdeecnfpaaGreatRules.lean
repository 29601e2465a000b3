/- One rule for each kind of operation, in the form that the shallow functions have. -/
import Derived.Test.YtmnnpgdeecnfpaaGreatInv
import Derived.Laws.Cells
import Derived.Laws.CopyRow
import Derived.Laws.Entries
import Derived.IntWalk
import Derived.Lib.IndexBytes
namespace Go.Proofs.YtmnnpgdeecnfpaaGreat
open Go Go.RowKit

theorem Run.of {P : Program} {s : Sem Next} {w w' : World} {v : Value} {K : Value → World → Prop} (h : s.run P w = .ok (.value v) w') (hk : K v w') : Run P s w K := by
  unfold Run; rw [h]; exact hk
theorem Run.ofSkip {P : Program} {s : Sem Next} {w w' : World} {K : Value → World → Prop} (h : s.run P w = .ok .skip w') (hk : K undef w') : Run P s w K := by
  unfold Run; rw [h]; exact hk

/- FACTS ON TYPES -/
def aggN (P : Program) (T : TypeId) : Option Nat := match P.underlying T with
  | some (.struct _) | some (.array _ _) => (P.info? T).map (·.size)
  | _ => none
def isSc (P : Program) (T : TypeId) : Bool := match P.underlying T with
  | some (.struct _) | some (.array _ _) => false
  | some _ => match P.info? T with
    | some i => Nat.beq i.size 1
    | none => false
  | none => false
def fieldOff (P : Program) (T : TypeId) (f : Nat) : Option Nat := match P.underlying T with
  | some (.struct fs) => match fs[f]? with
    | some fd => match P.info? fd.type with
      | some i => match i.size with
        | 0 => none
        | _ + 1 => some fd.offset
      | none => none
    | none => none
  | _ => none
/- a slice's type: its element type and how many cells an element takes -/
def sliceOf (P : Program) (T : TypeId) : Option (TypeId × Nat) := match P.underlying T with
  | some (.slice e) => (P.info? e).map fun i => (e, i.size)
  | _ => none
def zeroOf (P : Program) (T : TypeId) : Option Value := match P.info? T with
  | some i => i.zero
  | none => none

section
variable {P : Program} {w : World}
theorem run_sizeOf {T : TypeId} {i : TypeInfo} (h : P.info? T = some i) : (sizeOf T).run P w = .ok i.size w := by
  simp [sizeOf, typeInfo, h]
theorem run_zero {T : TypeId} {z : Value} (h : zeroOf P T = some z) : (zeroValue T).run P w = .ok z w := by
  unfold zeroOf at h
  split at h
  · rename_i i hi; simp [zeroValue, typeInfo, hi, h]
  · cases h
theorem aggN_some {T : TypeId} {n : Nat} (h : aggN P T = some n) : (isAgg T).run P w = .ok true w ∧ (sizeOf T).run P w = .ok n w := by
  unfold aggN at h
  split at h
  · rename_i fs hu
    cases hi : P.info? T with
    | none => rw [hi] at h; cases h
    | some i =>
      rw [hi] at h
      simp only [Option.map_some, Option.some.injEq] at h
      subst h
      exact ⟨by simp [isAgg, run_underlying hu], run_sizeOf hi⟩
  · rename_i e m hu
    cases hi : P.info? T with
    | none => rw [hi] at h; cases h
    | some i =>
      rw [hi] at h
      simp only [Option.map_some, Option.some.injEq] at h
      subst h
      exact ⟨by simp [isAgg, run_underlying hu], run_sizeOf hi⟩
  · cases h
theorem isSc_true {T : TypeId} (h : isSc P T = true) : (isAgg T).run P w = .ok false w ∧ (sizeOf T).run P w = .ok 1 w := by
  unfold isSc at h
  cases hu : P.underlying T with
  | none => rw [hu] at h; cases h
  | some d =>
    rw [hu] at h
    cases hi : P.info? T with
    | none => rw [hi] at h; cases d <;> cases h
    | some i =>
      rw [hi] at h
      have hs : i.size = 1 := by cases d <;> simp at h <;> exact h
      refine ⟨?_, by rw [run_sizeOf hi, hs]⟩
      cases d <;> simp [isAgg, run_underlying hu] at h ⊢

theorem add_lit (b o n : Nat) : (⟨b, o, none⟩ : Addr).add n = ⟨b, o + n, none⟩ := by unfold Addr.add; split <;> simp_all

theorem loadVar_agg {T : TypeId} {n b o : Nat} {cs : List Value} (h : aggN P T = some n) (hl : cs.length = n) (hc : ∀ j v, cs[j]? = some v → w.cell? ⟨b, o + j, none⟩ = some v) :
    (loadVar T ⟨b, o, none⟩).run P w = .ok (.agg cs.toArray) w := by
  obtain ⟨h1, h2⟩ := aggN_some (w := w) h
  have h3 := run_loadCells_list (P := P) (w := w) ⟨b, o, none⟩ cs (fun j v hj => by rw [add_lit]; exact hc j v hj)
  rw [hl] at h3
  simp [loadVar, h1, h2, h3]
theorem loadVar_sc {T : TypeId} {b o : Nat} {v : Value} (h : isSc P T = true) (hc : w.cell? ⟨b, o, none⟩ = some v) : (loadVar T ⟨b, o, none⟩).run P w = .ok v w := by
  simp [loadVar, (isSc_true (w := w) h).1, hc]
end

/- MEMORY -/
section mem
variable {P : Program} {w w0 : World} {X : List Nat} {L : List Item} {S : Store} {K : Value → World → Prop}

theorem Inv.cellS (h : Inv w0 X L S w) {b o : Nat} {c : Array Value} {E : TypeId} {fz : Nat × Nat} (hs : S b = some (.cells c E fz)) : w.cell? ⟨b, o, none⟩ = c[o]? := by
  simp [World.cell?, (h.pub b _ hs).1]
theorem Inv.cellL (h : Inv w0 X L S w) {i b o : Nat} {c : Array Value} {E : TypeId} {fz : Nat × Nat} (hi : L[i]? = some (.blk b (.cells c E fz))) : w.cell? ⟨b, o, none⟩ = c[o]? := by
  have := h.its _ (List.mem_of_getElem? hi)
  simp only [Item.holds] at this
  simp [World.cell?, this]

theorem r_box (h : Inv w0 X L S w) {T ty : TypeId} {v : Value} (hk : ∀ b w', Inv w0 X (L ++ [.blk b (.cells v.cells T)]) S w' → K (.pointer (some ⟨b, 0, none⟩)) w') :
    Run P (sOp (.box T (.const v)) ty) w K := by
  refine Run.of (v := .pointer (some ⟨w.heap.size, 0, none⟩)) ?_ (hk _ _ (h.alloc _))
  simp [sOp, execOp, Instr.box, newVar, newRow, newObj, ev0, evE, Sem.run]
theorem r_alloc (h : Inv w0 X L S w) {T ty : TypeId} {z : Value} (hz : zeroOf P T = some z) (hk : ∀ b w', Inv w0 X (L ++ [.blk b (.cells z.cells T)]) S w' → K (.pointer (some ⟨b, 0, none⟩)) w') :
    Run P (sOp (.alloc T) ty) w K := by
  refine Run.of (v := .pointer (some ⟨w.heap.size, 0, none⟩)) ?_ (hk _ _ (h.alloc _))
  simp [sOp, execOp, Instr.alloc, newVar, newRow, newObj, run_zero hz, Sem.run]
theorem r_field {T ty : TypeId} {f b o k : Nat} (hf : fieldOff P T f = some k) (hk : K (.pointer (some ⟨b, o + k, none⟩)) w) :
    Run P (sOp (.fieldAddr T (.const (.pointer (some ⟨b, o, none⟩))) f) ty) w K := by
  refine Run.of ?_ hk
  unfold fieldOff at hf
  split at hf <;> try cases hf
  rename_i fs hu
  split at hf <;> try cases hf
  rename_i fd hfd
  split at hf <;> try cases hf
  rename_i i hi
  split at hf <;> try cases hf
  rename_i n hn
  have hne : ¬ i.size = 0 := by omega
  simp [sOp, execOp, Instr.fieldAt, run_underlying hu, hfd, Instr.sureAddr, ev0, evE, fieldPlace, run_sizeOf hi, hne, add_lit]
theorem r_load {T ty : TypeId} {b o : Nat} {v : Value} (hT : isSc P T = true) (hc : w.cell? ⟨b, o, none⟩ = some v) (hk : K v w) :
    Run P (sOp (.load T (.const (.pointer (some ⟨b, o, none⟩)))) ty) w K := by
  refine Run.of ?_ hk
  simp [sOp, execOp, Instr.loadAt, Instr.sureAddr, ev0, evE, loadVar_sc hT hc]
theorem r_loadA {T ty : TypeId} {b o n : Nat} {cs : List Value} (hT : aggN P T = some n) (hl : cs.length = n) (hc : ∀ j v, cs[j]? = some v → w.cell? ⟨b, o + j, none⟩ = some v) (hk : K (.agg cs.toArray) w) :
    Run P (sOp (.load T (.const (.pointer (some ⟨b, o, none⟩)))) ty) w K := by
  refine Run.of ?_ hk
  simp [sOp, execOp, Instr.loadAt, Instr.sureAddr, ev0, evE, loadVar_agg hT hl hc]
/- loads out of a block of the function's own, whole at offset 0 -/
theorem r_loadL (h : Inv w0 X L S w) {T ty : TypeId} (i : Nat) {b o : Nat} {c : Array Value} {E : TypeId} {v : Value} (hT : isSc P T = true) (hi : L[i]? = some (.blk b (.cells c E))) (hc : c[o]? = some v) (hk : K v w) :
    Run P (sOp (.load T (.const (.pointer (some ⟨b, o, none⟩)))) ty) w K :=
  r_load hT ((h.cellL hi).trans hc) hk
theorem r_loadLA (h : Inv w0 X L S w) {T ty : TypeId} (i : Nat) {b o n : Nat} {c : Array Value} {E : TypeId} (cs : List Value) (hT : aggN P T = some n) (hi : L[i]? = some (.blk b (.cells c E))) (hl : cs.length = n)
    (hc : ∀ j v, cs[j]? = some v → c[o + j]? = some v) (hk : K (.agg cs.toArray) w) : Run P (sOp (.load T (.const (.pointer (some ⟨b, o, none⟩)))) ty) w K :=
  r_loadA hT hl (fun j v hj => (h.cellL hi).trans (hc j v hj)) hk
/- the whole of a block -/
theorem r_loadW (h : Inv w0 X L S w) {T ty : TypeId} (i : Nat) {b n : Nat} {c : Array Value} {E : TypeId} (hT : aggN P T = some n) (hi : L[i]? = some (.blk b (.cells c E))) (hl : c.size = n)
    (hk : K (.agg c) w) : Run P (sOp (.load T (.const (.pointer (some ⟨b, 0, none⟩)))) ty) w K := by
  refine r_loadLA h i (o := 0) c.toList hT hi (by simpa using hl) (fun j v hj => by simpa using hj) ?_
  simpa using hk
theorem loadV_W (h : Inv w0 X L S w) {T : TypeId} {K : Value → Prop} (i : Nat) {b n : Nat} {c : Array Value} {E : TypeId} (hT : aggN P T = some n) (hi : L[i]? = some (.blk b (.cells c E))) (hl : c.size = n)
    (hk : K (.agg c)) : LoadV P T (.pointer (some ⟨b, 0, none⟩)) w K := by
  unfold LoadV
  refine ⟨_, ?_, hk⟩
  have := loadVar_agg (w := w) (P := P) (b := b) (o := 0) (cs := c.toList) hT (by simpa using hl) (fun j v hj => by
    rw [h.cellL hi]; simpa using hj)
  simpa [asAddr] using this

def putCells (c : Array Value) (o : Nat) (vs : List Value) : Array Value := (c.toList.take o ++ vs ++ c.toList.drop (o + vs.length)).toArray
theorem setRow_eq {w : World} {g : Nat} {c cs : Array Value} {E : TypeId} {fz : Nat × Nat} (hg : w.heap[g]? = some (.cells c E fz)) :
    w.setRow g cs = { w with heap := w.heap.setIfInBounds g (.cells cs E fz) } := by
  have hlt := (Array.getElem?_eq_some_iff.1 hg).1
  have he := (Array.getElem?_eq_some_iff.1 hg).2
  unfold World.setRow
  congr 1
  apply Array.ext_getElem?
  intro i
  by_cases e : g = i
  · subst e
    rw [Array.getElem?_modify, if_pos rfl, hg]
    simp [hlt]
  · rw [Array.getElem?_setIfInBounds_ne e, Array.getElem?_modify, if_neg e]
theorem r_store (h : Inv w0 X L S w) {T ty : TypeId} (i : Nat) {b o : Nat} {c : Array Value} {E : TypeId} {v : Value} {n : Nat} (hn : v.cells.size = n) (hT : (isSc P T && Nat.beq n 1 || aggN P T == some n) = true)
    (hi : L[i]? = some (.blk b (.cells c E))) (hfit : o + n ≤ c.size) (h1 : ∀ u ∈ v.cells.toList, u.oneCell' = true)
    (hk : ∀ w', Inv w0 X (L.set i (.blk b (.cells (putCells c o v.cells.toList) E))) S w' → K undef w') :
    Run P (sOp (.store T (.const (.pointer (some ⟨b, o, none⟩))) (.const v)) ty) w K := by
  have hg := h.its _ (List.mem_of_getElem? hi)
  simp only [Item.holds] at hg
  have hsz : (sizeOf T).run P w = .ok n w := by
    simp only [Bool.or_eq_true, Bool.and_eq_true, beq_iff_eq] at hT
    rcases hT with ⟨h2, h3⟩ | h2
    · rw [(isSc_true (w := w) h2).2, Nat.eq_of_beq_eq_true h3]
    · exact (aggN_some (w := w) h2).2
  have hst := run_storeCells_at P b o E v.cells.toList 0 c w hg (by simpa [hn] using hfit) h1
  refine Run.ofSkip (w' := w.setRow b (putCells c o v.cells.toList)) ?_ (hk _ (h.setBlk hi _ (setRow_eq hg)))
  simp only [Nat.add_zero] at hst
  simp [sOp, execOp, Instr.storeAt, Instr.sureAddr, ev0, evE, storeVar, hsz, hn, hst, putCells]
theorem r_indexAddr {T ty E : TypeId} {k b o len cap i : Nat} (hT : sliceOf P T = some (E, k)) (hlt : i < len) (hk : K (.pointer (some ⟨b, o + i * k, none⟩)) w) :
    Run P (sOp (.indexAddr T (.const (.slice (some ⟨b, o, none⟩) len cap)) (.const (.int .i64 i))) ty) w K := by
  refine Run.of ?_ hk
  unfold sliceOf at hT
  split at hT <;> try cases hT
  rename_i e hu
  cases hi : P.info? e with
  | none => rw [hi] at hT; cases hT
  | some inf =>
    rw [hi] at hT
    simp only [Option.map_some, Option.some.injEq, Prod.mk.injEq] at hT
    obtain ⟨rfl, rfl⟩ := hT
    have h1 : (0 : Int) ≤ (i : Int) ∧ (i : Int) < (len : Int) := ⟨by omega, by omega⟩
    simp [sOp, execOp, Instr.indexAt, asIntOf, run_underlying hu, ev0, evE, run_sizeOf hi, hlt, add_lit]
end mem

/- PURE OPERATIONS -/
section pure
variable {P : Program} {w : World} {K : Value → World → Prop}
theorem r_nilCheck {ty : TypeId} {a : Addr} (hk : K (.pointer (some a)) w) : Run P (sOp (.nilCheck (.const (.pointer (some a)))) ty) w K :=
  Run.of (by simp [sOp, execOp, ev0, evE]) hk
theorem r_pick {ty : TypeId} {c : Bool} {a b : Value} (hk : K (if c = true then a else b) w) : Run P (sOp (.pick (.const (.bool c)) (.const a) (.const b)) ty) w K :=
  Run.of (by simp [sOp, execOp, ev0, evE, asBool]) hk
theorem r_not {T ty : TypeId} {c : Bool} (hk : K (.bool (!c)) w) : Run P (sOp (.unOp .not T (.const (.bool c))) ty) w K :=
  Run.of (by simp [sOp, execOp, ev0, evE, Op.unary]) hk
theorem r_extract {ty : TypeId} {vs : Array Value} {i : Nat} {v : Value} (hi : vs[i]? = some v) (hk : K v w) : Run P (sOp (.extract (.const (.tuple vs)) i) ty) w K :=
  Run.of (by simp [sOp, execOp, ev0, evE, Instr.extract, hi]) hk
theorem r_makeFunc {fn : Fn} {a b : List Value} (hk : K (.func fn a.toArray b.toArray) w) : Run P (sMakeFunc fn a b) w K :=
  Run.of (by simp [sMakeFunc, Instr.makeFunc]) hk
theorem eqGuard_int (op : BinOp) (T : TypeId) (x y : Operand) (k k' : IntKind) (a b : Int) : (eqGuard op T x y (.int k a) (.int k' b)).run P w = .ok () w := by
  unfold eqGuard; simp
theorem eqGuard_str (op : BinOp) (T : TypeId) (x y : Operand) (a b : ByteArray) : (eqGuard op T x y (.string a) (.string b)).run P w = .ok () w := by
  unfold eqGuard; simp
theorem eqGuard_bool (op : BinOp) (T : TypeId) (x y : Operand) (a b : Bool) : (eqGuard op T x y (.bool a) (.bool b)).run P w = .ok () w := by
  unfold eqGuard; simp
theorem r_add {T : TypeId} {cx cy : Bool} {a b : Int} (hr : -9223372036854775808 ≤ a + b ∧ a + b ≤ 9223372036854775807) (hk : K (.int .i64 (a + b)) w) : Run P (sBin .add T cx cy (.int .i64 a) (.int .i64 b)) w K :=
  Run.of (by simp [sBin, eqGuard_int, binOp, Op.intArith, IntWalk.i64_in _ hr]) hk
theorem r_sub {T : TypeId} {cx cy : Bool} {a b : Int} (hr : -9223372036854775808 ≤ a - b ∧ a - b ≤ 9223372036854775807) (hk : K (.int .i64 (a - b)) w) : Run P (sBin .sub T cx cy (.int .i64 a) (.int .i64 b)) w K :=
  Run.of (by simp [sBin, eqGuard_int, binOp, Op.intArith, IntWalk.i64_in _ hr]) hk
theorem r_lss {T : TypeId} {cx cy : Bool} {k : IntKind} {a b : Int} (hk : K (.bool (decide (a < b))) w) : Run P (sBin .lss T cx cy (.int k a) (.int k b)) w K :=
  Run.of (by simp [sBin, eqGuard_int, binOp, Op.intCmp]) hk
theorem r_leq {T : TypeId} {cx cy : Bool} {k : IntKind} {a b : Int} (hk : K (.bool (decide (a ≤ b))) w) : Run P (sBin .leq T cx cy (.int k a) (.int k b)) w K :=
  Run.of (by simp [sBin, eqGuard_int, binOp, Op.intCmp]) hk
theorem r_gtr {T : TypeId} {cx cy : Bool} {k : IntKind} {a b : Int} (hk : K (.bool (decide (b < a))) w) : Run P (sBin .gtr T cx cy (.int k a) (.int k b)) w K :=
  Run.of (by simp [sBin, eqGuard_int, binOp, Op.intCmp]) hk
theorem r_geq {T : TypeId} {cx cy : Bool} {k : IntKind} {a b : Int} (hk : K (.bool (decide (b ≤ a))) w) : Run P (sBin .geq T cx cy (.int k a) (.int k b)) w K :=
  Run.of (by simp [sBin, eqGuard_int, binOp, Op.intCmp]) hk
theorem r_eql {T : TypeId} {cx cy : Bool} {k : IntKind} {a b : Int} (hk : K (.bool (decide (a = b))) w) : Run P (sBin .eql T cx cy (.int k a) (.int k b)) w K :=
  Run.of (by simp [sBin, eqGuard_int, binOp, Op.intCmp]; rfl) hk
theorem r_neq {T : TypeId} {cx cy : Bool} {k : IntKind} {a b : Int} (hk : K (.bool (!decide (a = b))) w) : Run P (sBin .neq T cx cy (.int k a) (.int k b)) w K :=
  Run.of (by simp [sBin, eqGuard_int, binOp, Op.intCmp]; rfl) hk
theorem toList_loop (a : ByteArray) : ∀ (n i : Nat) (r : List UInt8), a.size - i = n → ByteArray.toList.loop a i r = r.reverse ++ a.data.toList.drop i := by
  intro n
  induction n with
  | zero =>
    intro i r hn
    unfold ByteArray.toList.loop
    have h1 : ¬ i < a.size := by omega
    have h2 : a.data.toList.length ≤ i := by
      have e : a.data.toList.length = a.size := by rw [Array.length_toList]; rfl
      omega
    rw [if_neg h1, List.drop_eq_nil_of_le h2, List.append_nil]
  | succ n ih =>
    intro i r hn
    unfold ByteArray.toList.loop
    have h1 : i < a.size := by omega
    have h2 : i < a.data.toList.length := by
      have e : a.data.toList.length = a.size := by rw [Array.length_toList]; rfl
      omega
    rw [if_pos h1, ih (i + 1) _ (by omega), List.drop_eq_getElem_cons h2]
    have h4 : i < a.data.size := by simpa using h2
    have h3 : a.get! i = a.data.toList[i] := by
      show a.data[i]! = _
      rw [getElem!_pos a.data i h4, Array.getElem_toList]
    rw [h3, List.reverse_cons, List.append_assoc]
    rfl
theorem bytes_toList (a : ByteArray) : a.toList = a.data.toList := by
  unfold ByteArray.toList
  rw [toList_loop a _ 0 [] rfl]
  rfl
theorem bytes_eq (a b : ByteArray) : (a.toList == b.toList) = decide (a = b) := by
  rw [bytes_toList, bytes_toList, Bool.eq_iff_iff]
  simp only [beq_iff_eq, decide_eq_true_eq]
  constructor
  · intro h
    cases a; cases b
    simp only [ByteArray.mk.injEq]
    exact Array.toList_inj.1 h
  · rintro rfl; rfl
theorem r_seql {T : TypeId} {cx cy : Bool} {a b : ByteArray} (hk : K (.bool (decide (a = b))) w) : Run P (sBin .eql T cx cy (.string a) (.string b)) w K :=
  Run.of (by simp only [sBin, binOp, Op.stringOp, Sem.run_bind, eqGuard_str, Result.andThen_ok, Sem.run_pure, bytes_eq]) hk
theorem r_sneq {T : TypeId} {cx cy : Bool} {a b : ByteArray} (hk : K (.bool (!decide (a = b))) w) : Run P (sBin .neq T cx cy (.string a) (.string b)) w K :=
  Run.of (by simp only [sBin, binOp, Op.stringOp, Sem.run_bind, eqGuard_str, Result.andThen_ok, Sem.run_pure, bytes_eq]) hk
theorem r_bneq {T : TypeId} {cx cy : Bool} {a b : Bool} (hu : P.underlying T = some .bool) (hk : K (.bool (!(a == b))) w) : Run P (sBin .neq T cx cy (.bool a) (.bool b)) w K :=
  Run.of (by
    have he : (Op.equal T (.bool a) (.bool b)).run P w = .ok (a == b) w := by
      rw [Op.equal, Op.maxDepth, Op.equalIn.eq_def]
      simp [run_underlying hu]
    simp only [sBin, binOp, Sem.run_bind, eqGuard_bool, Result.andThen_ok, he, Sem.run_pure]) hk
theorem r_lenStr {T ty : TypeId} {cs : List Bool} {s : ByteArray} (hu : P.underlying T = some .string) (hk : K (.int .i64 s.size) w) : Run P (sBuiltin .len #[T] ty cs [.string s]) w K :=
  Run.of (by simp [sBuiltin, builtin, Builtin.len_, run_underlying hu, goInt]) hk
theorem r_len {T ty : TypeId} {cs : List Bool} {a : Option Addr} {n c : Nat} {Ek : TypeId × Nat} (hu : sliceOf P T = some Ek) (hk : K (.int .i64 n) w) : Run P (sBuiltin .len #[T] ty cs [.slice a n c]) w K := by
  refine Run.of ?_ hk
  unfold sliceOf at hu
  split at hu <;> try cases hu
  rename_i e h1
  simp [sBuiltin, builtin, Builtin.len_, run_underlying h1, goInt]
theorem r_indexStr {T ty : TypeId} {s : ByteArray} {i : Nat} (hu : P.underlying T = some .string) (hi : i < s.size) (hk : K (.int .u8 s[i].toNat) w) :
    Run P (sOp (.index T (.const (.string s)) (.const (.int .i64 i))) ty) w K := by
  refine Run.of ?_ hk
  have h0 : (0 : Int) ≤ (i : Int) := by omega
  simp [sOp, execOp, Instr.index, asIntOf, run_underlying hu, ev0, evE, hi]
end pure

/- WAYS -/
theorem condV {c : Bool} {A B : Prop} (ht : c = true → A) (hf : c = false → B) : CondV (.bool c) A B := by
  unfold CondV
  cases c
  · exact hf rfl
  · exact ht rfl
theorem condP {p : Prop} [Decidable p] {A B : Prop} (ht : p → A) (hf : ¬ p → B) : CondV (.bool (decide p)) A B :=
  condV (fun h => ht (of_decide_eq_true h)) (fun h => hf (of_decide_eq_false h))
theorem guardV {c b : Bool} {A B : Prop} (ht : c = b → A) (hf : c ≠ b → B) : GuardV (.bool c) b A B := by
  unfold GuardV
  simp only []
  split
  · rename_i e; exact ht e
  · rename_i e; exact hf e

end Go.Proofs.YtmnnpgdeecnfpaaGreat

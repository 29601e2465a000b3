/- Rules for the operations that make memory: make, composite literals, append, reslicing. -/
import Derived.Test.YtmnnpgdeecnfpaaGreatData
namespace Go.Proofs.YtmnnpgdeecnfpaaGreat
open Go Go.RowKit
attribute [local irreducible] Run CondV GuardV LoadV

/- a slice's type: element type, cells, bytes, zero cells -/
def mkOf (P : Program) (T : TypeId) : Option (TypeId × Nat × Nat × Value) := match P.underlying T with
  | some (.slice e) => match P.info? e with
    | some i => match i.zero with
      | some z => match Nat.beq z.cells.size i.size with
        | true => some (e, i.size, i.bytes, z)
        | false => none
      | none => none
    | none => none
  | _ => none
theorem mkOf_some {P : Program} {T e : TypeId} {k by_ : Nat} {z : Value} (h : mkOf P T = some (e, k, by_, z)) :
    P.underlying T = some (.slice e) ∧ ∃ i, P.info? e = some i ∧ i.zero = some z ∧ i.size = k ∧ i.bytes = by_ ∧ z.cells.size = k := by
  unfold mkOf at h
  split at h <;> try cases h
  rename_i e' hu
  split at h <;> try cases h
  rename_i i hi
  split at h <;> try cases h
  rename_i z' hz
  split at h <;> try cases h
  rename_i hb
  exact ⟨hu, i, hi, hz, rfl, rfl, Nat.eq_of_beq_eq_true hb⟩

/- cells put into an array one by one -/
theorem fold_put : ∀ (l : List Value) (o j : Nat) (cs : Array Value), o + j + l.length ≤ cs.size →
    (l.zipIdx j).foldl (fun cs p => cs.setIfInBounds (o + p.2) p.1) cs = putCells cs (o + j) l
  | [], o, j, cs, _ => by simp [putCells]
  | v :: l, o, j, cs, h => by
    simp only [List.length_cons] at h
    rw [List.zipIdx_cons, List.foldl_cons, fold_put l o (j + 1) _ (by simp; omega)]
    apply Array.toList_inj.1
    simp only [putCells, List.length_cons]
    rw [Array.toList_setIfInBounds, show o + (j + 1) = o + j + 1 by omega]
    have hlt : o + j < cs.toList.length := by simp; omega
    rw [List.take_succ_eq_append_getElem (by simpa using hlt), List.take_set_of_le (Nat.le_refl _)]
    simp only [List.getElem_set_self, List.append_assoc, List.cons_append, List.nil_append]
    rw [List.drop_set_of_lt (by omega), show o + j + 1 + l.length = o + j + (l.length + 1) by omega]
theorem zipIdx_fold (v : Value) (o : Nat) (cs : Array Value) (h : o + v.cells.size ≤ cs.size) :
    v.cells.zipIdx.foldl (fun cs (c, j) => cs.setIfInBounds (o + j) c) cs = putCells cs o v.cells.toList := by
  rw [← Array.foldl_toList, Array.toList_zipIdx]
  exact fold_put v.cells.toList o 0 cs (by simpa using h)
theorem putCells_size (c : Array Value) (o : Nat) (vs : List Value) (h : o + vs.length ≤ c.size) : (putCells c o vs).size = c.size := by
  simp [putCells]; omega
theorem putCells_all (c : Array Value) (vs : List Value) (h : vs.length = c.size) : putCells c 0 vs = vs.toArray := by
  simp [putCells, h]
/- what stands at a row behind a store into another row, and into that row -/
theorem cellsAt_put_ne {c : Array Value} {o : Nat} {vs : List Value} {p k : Nat} (hf : o + vs.length ≤ c.size) (h : p + k ≤ o ∨ o + vs.length ≤ p) : cellsAt (putCells c o vs) p k = cellsAt c p k := by
  apply List.ext_getElem?
  intro i
  simp only [cellsAt, putCells, List.getElem?_take, List.getElem?_drop]
  split
  · rename_i hi
    simp only [List.getElem?_append, List.length_append, List.length_take, List.getElem?_take, List.getElem?_drop, Array.length_toList]
    rcases h with h | h
    · rw [if_pos (by omega), if_pos (by omega), if_pos (by omega)]
    · rw [if_neg (by omega)]
      congr 1
      omega
  · rfl
theorem cellsAt_put_self {c : Array Value} {o : Nat} {vs : List Value} (hf : o + vs.length ≤ c.size) : cellsAt (putCells c o vs) o vs.length = vs := by
  simp only [cellsAt, putCells]
  rw [List.append_assoc, List.drop_append_of_le_length (by simp; omega), List.drop_eq_nil_of_le (by simp; omega), List.nil_append, List.take_left]

section
variable {P : Program} {w w0 : World} {X : List Nat} {L : List Item} {S : Store} {K : Value → World → Prop}

theorem r_makeSlice (h : Inv w0 X L S w) {T ty e : TypeId} {k by_ n : Nat} {z : Value} (hT : mkOf P T = some (e, k, by_, z)) (hn : n ≤ 4294967296) (hby : by_ ≤ 65536)
    (hk : ∀ b (c : Array Value) w', c.size = n * k → Inv w0 X (L ++ [.blk b (.cells c e)]) S w' → K (.slice (some ⟨b, 0, none⟩) n n) w') :
    Run P (sOp (.makeSlice T (.const (.int .i64 n)) (.const (.int .i64 n))) ty) w K := by
  obtain ⟨hu, i, hi, hz, hs, hb, hzs⟩ := mkOf_some hT
  have hw : IntKind.i64.wrap (n : Int) = n := IntWalk.i64_in _ (by omega)
  have hle : by_ * n ≤ 2 ^ 48 := Nat.le_trans (Nat.mul_le_mul hby hn) (by decide)
  have h1 : ¬ ((n : Int) < 0) := by omega
  have h2 : ¬ (281474976710656 < (i.bytes : Int) * (n : Int)) := by
    rw [hb]
    have : ((by_ * n : Nat) : Int) ≤ ((2 ^ 48 : Nat) : Int) := by exact_mod_cast hle
    have e : (((2 ^ 48 : Nat)) : Int) = 281474976710656 := by decide
    rw [e, Int.natCast_mul] at this
    omega
  by_cases hz0 : n * k = 0
  · refine Run.of (v := .slice (some ⟨w.heap.size, 0, none⟩) n n) (w' := { w with heap := w.heap.push (.cells #[] e) }) ?_ (hk _ _ _ (by simp [hz0]) (h.alloc _))
    have hr : ∀ f : Nat → Value, (Array.range 0).map f = #[] := fun f => by simp
    simp [sOp, execOp, ev0, evE, Instr.makeSlice, run_underlying hu, asInt, asIntOf, typeInfo, hi, hw, h1, h2, sizeOf, hs, newRow, newObj, Sem.run, hz0, hr]
  · refine Run.of (v := .slice (some ⟨w.heap.size, 0, none⟩) n n) (w' := { w with heap := w.heap.push (.cells ((Array.range (n * k)).map (z.cells[· % z.cells.size]!)) e) }) ?_ (hk _ _ _ (by simp) (h.alloc _))
    simp [sOp, execOp, ev0, evE, Instr.makeSlice, run_underlying hu, asInt, asIntOf, typeInfo, hi, hw, h1, h2, sizeOf, hs, newRow, newObj, Sem.run, hz0, zeroValue, hz]

/- []T{x} -/
theorem r_slice1 (h : Inv w0 X L S w) {T e : TypeId} {k by_ : Nat} {z v : Value} (hT : mkOf P T = some (e, k, by_, z)) (hv : v.cells.size = k) (hk24 : k ≤ 65536) (hk0 : 0 < k)
    (hk : ∀ b w', Inv w0 X (L ++ [.blk b (.cells v.cells e)]) S w' → K (.slice (some ⟨b, 0, none⟩) 1 1) w') :
    Run P (sBuildSlice T 1 [(0, v)]) w K := by
  obtain ⟨hu, i, hi, hz, hs, hb, hzs⟩ := mkOf_some hT
  refine Run.of (v := .slice (some ⟨w.heap.size, 0, none⟩) 1 1) (w' := { w with heap := w.heap.push (.cells v.cells e) }) ?_ (hk _ _ (h.alloc _))
  have h1 : ¬ (k > 2 ^ 24) := by omega
  have h2 : ¬ k = 0 := by omega
  have hf : Instr.fill (fun i => some (i * k, k)) ((Array.range k).map (z.cells[· % z.cells.size]!)) [(0, v)] = some v.cells := by
    simp only [Instr.fill, Nat.zero_mul, Nat.zero_add, hv, Array.size_map, Array.size_range, ne_eq, not_true_eq_false, decide_false, gt_iff_lt, Nat.lt_irrefl, Bool.or_self, if_false, Bool.false_eq_true]
    have := zipIdx_fold v 0 ((Array.range k).map (z.cells[· % z.cells.size]!)) (by simp [hv])
    simp only [Nat.zero_add] at this
    rw [this, putCells_all _ _ (by simp [hv])]
  simp [sBuildSlice, Instr.buildSlice, run_underlying hu, sizeOf, typeInfo, hi, hs, h1, h2, zeroValue, hz, hf, newRow, newObj, Sem.run]
/- []T{} -/
theorem r_slice0 (h : Inv w0 X L S w) {T e : TypeId} {k by_ : Nat} {z : Value} (hT : mkOf P T = some (e, k, by_, z))
    (hk : ∀ v w', Inv w0 X (L ++ [.row v e k 0 []]) S w' → K v w') :
    Run P (sBuildSlice T 0 []) w K := by
  obtain ⟨hu, i, hi, hz, hs, hb, hzs⟩ := mkOf_some hT
  have hI : Inv w0 X (L ++ [.row (.slice (some ⟨w.heap.size, 0, none⟩) 0 0) e k 0 []]) S { w with heap := w.heap.push (.cells #[] e) } := by
    refine h.addItem (w' := { w with heap := w.heap.push (.cells #[] e) }) ⟨by simp, rfl, rfl, rfl, fun b hb => by simp [Array.getElem?_push, Nat.ne_of_lt hb]⟩ ?_ ?_ ?_
    · exact ⟨by simp, .inr ⟨w.heap.size, 0, #[], rfl, Nat.zero_le _, by simp, Nat.le_refl _, Nat.zero_le _, by simp, by simp⟩⟩
    · simp [Item.foot, Value.ownBlock]
    · simp [Item.foot, Value.ownBlock]
  refine Run.of (v := .slice (some ⟨w.heap.size, 0, none⟩) 0 0) (w' := { w with heap := w.heap.push (.cells #[] e) }) ?_ (hk _ _ hI)
  have hr : ∀ f : Nat → Value, (Array.range 0).map f = #[] := fun f => by simp
  simp [sBuildSlice, Instr.buildSlice, run_underlying hu, sizeOf, typeInfo, hi, Instr.fill, newRow, newObj, Sem.run, hr]

/- a row that is nil yet -/
theorem Inv.rowNil (h : Inv w0 X L S w) (e : TypeId) (k : Nat) : Inv w0 X (L ++ [.row (.slice none 0 0) e k 0 []]) S w :=
  h.addItem (Grow.refl w) (it := .row (.slice none 0 0) e k 0 []) (World.ownsRow_nil w 0 e k) (by simp [Item.foot, Value.ownBlock]) (by simp [Item.foot, Value.ownBlock])

/- append leaves the row where it was, or makes a new block -/
theorem append_where {P : Program} (w : World) (T ty e : TypeId) (inf : TypeInfo) (z : Value) (hu : P.underlying T = some (.slice e)) (hi : P.info? e = some inf) (hz : inf.zero = some z)
    {v v' : Value} {n m cp : Nat} {xs news : List Value} {a : Addr} {w' : World} (hown : w.ownsRow 0 e inf.size v n xs)
    (hl : news.length = m * inf.size) (hnews : ∀ j u, news[j]? = some u → w.cell? (a.add j) = some u) (h1 : ∀ u ∈ news, u.oneCell' = true) (hfit : n + m ≤ 4294967296) (hbytes : (n + m) * inf.bytes ≤ 140737488355328)
    (hr : (Builtin.append_ #[T, T] ty #[v, .slice (some a) m cp]).run P w = .ok v' w') (hnil : v' = .slice none 0 0 ↔ v = .slice none 0 0 ∧ m = 0) :
    ∀ c, v'.ownBlock = some c → v.ownBlock = some c ∨ w.heap.size ≤ c := by
  intro c hc
  rcases hown.2 with ⟨rfl, rfl⟩ | ⟨g, cap, cur, rfl, _, hg, hnc, hcm, hcs, htake⟩
  · by_cases hm : m = 0
    · rw [hnil.2 ⟨rfl, hm⟩] at hc
      simp [Value.ownBlock] at hc
    · have h2 := run_append_nil (P := P) (w := w) T ty e inf z hu hi hz a m cp news hl hnews (by omega) (by omega) (by simp only [Nat.zero_add] at hbytes; omega)
      rw [hr] at h2
      simp only [Result.ok.injEq] at h2
      rw [h2.1] at hc
      simp only [Value.ownBlock, Option.some.injEq] at hc
      right; omega
  · by_cases hroom : n + m ≤ cap
    · have h2 := run_append_room (P := P) w T ty e inf hu hi g n cap cur hg a m cp news hl hnews h1 hroom (by rw [hl, hcs, ← Nat.add_mul]; exact Nat.mul_le_mul_right _ hroom)
      rw [hr] at h2
      simp only [Result.ok.injEq] at h2
      rw [h2.1] at hc
      left; exact hc
    · have h2 := run_append_grow (P := P) (w := w) T ty e inf z hu hi hz ⟨g, 0, none⟩ n cap xs hown.1 (hown.cells (g := g) rfl) a m cp news hl hnews (by omega) (by omega) (growslice_fits (by omega) hbytes)
      rw [hr] at h2
      simp only [Result.ok.injEq] at h2
      rw [h2.1] at hc
      simp only [Value.ownBlock, Option.some.injEq] at hc
      right; omega

/- append(s, x...) to a row of the function's own; x's cells are known -/
theorem r_append (h : Inv w0 X L S w) {T ty e : TypeId} {k by_ n m cp b o : Nat} {z v : Value} {cs : List Bool} {xs : List Value} (i : Nat) (news : List Value)
    (hT : mkOf P T = some (e, k, by_, z)) (hk0 : 0 < k) (hi : L[i]? = some (.row v e k n xs)) (hl : news.length = m * k)
    (hnews : ∀ j u, news[j]? = some u → w.cell? ⟨b, o + j, none⟩ = some u) (h1 : ∀ u ∈ news, u.oneCell' = true) (hfit : n + m ≤ 4294967296) (hby : by_ ≤ 32768)
    (hk : ∀ v' w', Inv w0 X (L.set i (.row v' e k (n + m) (xs ++ news))) S w' → K v' w') :
    Run P (sBuiltin .append #[T, T] ty cs [v, .slice (some ⟨b, o, none⟩) m cp]) w K := by
  obtain ⟨hu, inf, hi', hz, hs, hb, hzs⟩ := mkOf_some hT
  have hown := h.its _ (List.mem_of_getElem? hi)
  simp only [Item.holds] at hown
  have hbytes : (n + m) * by_ ≤ 140737488355328 := Nat.le_trans (Nat.mul_le_mul hfit hby) (by decide)
  have hnews' : ∀ j u, news[j]? = some u → w.cell? ((⟨b, o, none⟩ : Addr).add j) = some u := fun j u hj => by rw [add_lit]; exact hnews j u hj
  obtain ⟨v', w', hr, h2, h3, h4⟩ := run_append_own (P := P) w 0 T ty e inf z k by_ hu hi' hz hs hb hzs hk0 v n xs hown ⟨b, o, none⟩ m cp news hl
    hnews' h1 (by simp only [maxLen]; omega) hbytes (Nat.zero_le _)
  have hwh := append_where (P := P) w T ty e inf z hu hi' hz (by rw [hs]; exact hown) (by rw [hs]; exact hl) hnews' h1 hfit (by rw [hb]; exact hbytes) hr h4
  refine Run.of (v := v') (w' := w') ?_ (hk _ _ ?_)
  · simp [sBuiltin, builtin, hr]
  · refine h.change hi h3.size h3.os h3.tape h3.output (fun c hc hc' => h3.block c hc ?_) (it' := .row v' e k (n + m) (xs ++ news)) h2 ?_ ?_
    · intro e'
      exact hc' (by simp [Item.foot, ← e'])
    · intro c hc
      simp only [Item.foot, Option.mem_toList] at hc ⊢
      exact hwh c hc
    · cases v' <;> simp [Item.foot, Value.ownBlock]
      rename_i a _ _
      cases a <;> simp
end
/- a struct's type: where its fields lie, and their types -/
def flds (P : Program) (t : TypeId) : Option (List (Nat × TypeId)) := match P.underlying t with
  | some (.struct fs) => some (fs.toList.map fun f => (f.offset, f.type))
  | _ => none
end Go.Proofs.YtmnnpgdeecnfpaaGreat

/- maps.Clone of maps from numbers to terms; reading a published map. -/
import Derived.Test.YtgdibnmabnimaaaZMc4
import Derived.Test.YtgdibnmabnimaaaZMc3
import Derived.Test.YtgdibnmabnimaaaZMc2
namespace Go.Proofs.Ytgdibnmabnimaaa
open Go Go.RowKit
section
variable {P : Program} {w w0 : World} {X : List Nat} {L : List Item} {S : Store} {K : Value → World → Prop}
attribute [local irreducible] Run CondV GuardV LoadV
theorem r_lookupS (h : Inv w0 X L S w) {T kt et ty : TypeId} {b clock : Nat} {es : Array MapEntry} {n : Int} {z v : Value} (hT : P.underlying T = some (.map kt et)) (hkt : P.underlying kt = some (.int .i64))
    (hz : zeroOf P et = some z) (hS : S b = some (.map es clock))
    (hf : (∃ j, Instr.findNow (.int .i64) (.int .i64 n) es.toList 0 = some (some (j, v))) ∨ (Instr.findNow (.int .i64) (.int .i64 n) es.toList 0 = some none ∧ v = z))
    (hk : K v w) : Run P (sOp (.lookup T (.const (.map (some b))) (.const (.int .i64 n)) false) ty) w K := by
  have hb : w.heap[b]? = some (.map es clock) := (h.pub _ _ hS).1
  have hck : ∀ e, (Instr.checkKey e 10000 kt (.int .i64 n)).run P w = .ok () w := fun e => by
    rw [show (10000 : Nat) = 9999 + 1 from rfl, Instr.checkKey]
    simp [run_underlying hkt]
  obtain ⟨inf, hi1, hi2⟩ : ∃ inf, P.info? et = some inf ∧ inf.zero = some z := by
    unfold zeroOf at hz
    cases hinf : P.info? et with
    | none => rw [hinf] at hz; simp at hz
    | some inf => rw [hinf] at hz; exact ⟨inf, rfl, by simpa using hz⟩
  have hzv : (zeroValue et).run P w = .ok z w := by simp [zeroValue, typeInfo, hi1, hi2]
  refine Run.of ?_ hk
  have hg : (getObj b).run P w = .ok (.map es clock) w := by simp [getObj, Sem.run, hb]
  rcases hf with ⟨j, hf⟩ | ⟨hf, rfl⟩
  · have hfk := run_findKeyI (P := P) (w := w) hkt hf
    simp [sOp, execOp, ev0, evE, Instr.lookup, run_underlying hT, hg, hck, hfk]
  · have hfk := run_findKeyI (P := P) (w := w) hkt hf
    simp [sOp, execOp, ev0, evE, Instr.lookup, run_underlying hT, hg, hck, hfk, hzv]
theorem r_mapNil {T kt et : TypeId} {cx cy : Bool} {b : Nat} (hT : P.underlying T = some (.map kt et)) (hk : K (.bool false) w) : Run P (sBin .eql T cx cy (.map (some b)) (.map none)) w K := by
  refine Run.of (v := .bool false) (w' := w) ?_ hk
  have he : (Op.equal T (.map (some b)) (.map none)).run P w = .ok false w := by
    rw [Op.equal, Op.maxDepth, Op.equalIn.eq_def]
    simp [run_underlying hT]
  have hg : ∀ x y, (eqGuard .eql T x y (.map (some b)) (.map none)).run P w = .ok () w := fun x y => by unfold eqGuard; simp
  simp only [sBin, binOp, Sem.run_bind, hg, Result.andThen_ok, he, Sem.run_pure]
theorem r_iface {T ty kt et : TypeId} {v : Value} (hT : P.underlying T = some (.map kt et)) (hk : K (.iface T v) w) : Run P (sOp (.makeInterface T (.const v)) ty) w K := by
  refine Run.of ?_ hk
  simp [sOp, execOp, ev0, evE, Instr.makeInterface, run_underlying hT]
theorem r_assert {T U ty kt et : TypeId} {v : Value} (hT : P.underlying T = some (.map kt et)) (hk : K v w) : Run P (sOp (.typeAssert (.const (.iface T v)) U T false) ty) w K := by
  refine Run.of ?_ hk
  simp [sOp, execOp, ev0, evE, Instr.typeAssert, run_underlying hT]
theorem r_mclone (h : Inv w0 X L S w) {f : FuncId} {fn : Func} {t b clock : Nat} {es : Array MapEntry} (hf : P.funcs[f]? = some fn) (hn : (fn.name == "runtime.NumGoroutine") = false) (hb : fn.body.isNone = true)
    (hx : (Extern.findNext fn).isNone = true) (hy : Extern.find fn = some Extern.MapsClone.clone) (hS : S b = some (.map es clock))
    (hk : ∀ nb w', Inv w0 X (L ++ [.blk nb (.map es clock)]) S w' → K (.iface t (.map (some nb))) w') : Run P (sCall (.func (.func f) #[] #[]) [.iface t (.map (some b))]) w K := by
  have hbw : w.heap[b]? = some (.map es clock) := (h.pub _ _ hS).1
  refine Run.of (v := .iface t (.map (some w.heap.size))) (w' := { w with heap := w.heap.push (.map es clock) }) ?_ (hk _ _ (h.alloc _))
  have h1 : ¬ fn.name = "runtime.NumGoroutine" := by simpa using hn
  have h2 : fn.body = none := by simpa using hb
  have h3 : Extern.findNext fn = none := by simpa using hx
  have hg : (getObj b).run P w = .ok (.map es clock) w := by simp [getObj, Sem.run, hbw]
  have hc : (Extern.MapsClone.clone #[.iface t (.map (some b))]).run P w = .ok (.iface t (.map (some w.heap.size))) { w with heap := w.heap.push (.map es clock) } := by
    have e : Extern.MapsClone.clone #[.iface t (.map (some b))] = (getObj b >>= fun o => match o with
      | .map entries clock => (newObj (.map entries clock) >>= fun n => pure (.iface t (.map (some n))))
      | _ => stuck "maps.clone: a map expected") := rfl
    rw [e]
    simp [hg, newObj, Sem.run, Result.andThen]
  simp [sCall, Deferred.ofValue, invoke, callFunc, hf, h1, h2, h3, hy, hc]
end
section
attribute [local irreducible] Run CondV GuardV LoadV
theorem mClone_calls {S : Store} {mb ck : Nat} {es : Array MapEntry} (hS : S mb = some (.map es ck)) : Tri Try.prog n_x_mClone_Term [.map (some mb)] [] S fun r I' S' => S' = S ∧ ∃ nb, r = .map (some nb) ∧ I' = [.blk nb (.map es ck)] := by
  intro w hI
  refine calls_x_mClone_Term ?_
  unfold sh_x_mClone_Term
  refine r_mapNil (kt := t_int) (et := t_iTerm) (by kernel_rfl) ?_
  refine condV (fun hb => by cases hb) (fun _ => ?_)
  refine r_iface (kt := t_int) (et := t_iTerm) (by kernel_rfl) ?_
  refine r_mclone hI Try.func71 (by kernel_rfl) (by kernel_rfl) (by kernel_rfl) (by kernel_rfl) hS fun nb w' hI => ?_
  refine r_assert (kt := t_int) (et := t_iTerm) (by kernel_rfl) ?_
  exact ⟨_, _, _, rfl, hI, Ext.refl _ _ _, rfl, nb, rfl, rfl⟩
end

end Go.Proofs.Ytgdibnmabnimaaa

/- SubsumedClause: both sides. -/
namespace Go.Proofs.Ytgdibnmabnimaaa
open Go Go.RowKit

def st0 : Known := List.replicate 26 none
theorem st0_ok : stOk st0 := ⟨by simp [st0], fun t ht => by simp [st0] at ht⟩
theorem KnownM.empty (S : Store) : KnownM S #[] st0 := ⟨by simp, fun n t ht => by
  rw [st0, List.getElem?_replicate] at ht
  split at ht <;> cases ht⟩
def subG (c d : C) : Bool := clauseB c && (clauseB d && decide (d.body.length ≤ c.body.length))
def subB (c d : C) : Bool := subG c d && ((matchT d.head c.head st0).1 && (matchL d.body c.body (matchT d.head c.head st0).2).1)
theorem subB_eq (c d : C) : subB c d = (subG c d && ((matchT d.head c.head st0).1 && (matchL d.body c.body (matchT d.head c.head st0).2).1)) := rfl
theorem okVL_of : ∀ {ts : List T}, (∀ t ∈ ts, okV t) → okVL ts
  | [], _ => by simp [okVL]
  | t :: ts, h => by rw [okVL]; exact ⟨h t (List.mem_cons_self ..), okVL_of fun u hu => h u (List.mem_cons_of_mem _ hu)⟩
theorem okKL_of : ∀ {ts : List T}, (∀ t ∈ ts, okK t) → okKL ts
  | [], _ => by simp [okKL]
  | t :: ts, h => by rw [okKL]; exact ⟨h t (List.mem_cons_self ..), okKL_of fun u hu => h u (List.mem_cons_of_mem _ hu)⟩
theorem clause_ok {c : C} (h : clauseB c = true) : (okV c.head ∧ okK c.head) ∧ okVL c.body ∧ okKL c.body := by
  rw [clauseB] at h
  simp only [Bool.and_eq_true, List.all_eq_true] at h
  obtain ⟨_, h2, h3, _⟩ := h
  have hb : ∀ t ∈ c.body, okV t ∧ okK t := fun t ht => by
    have := h2 t ht
    rw [goalB, Bool.and_eq_true] at this
    exact valid_ok this.1
  exact ⟨valid_ok h3, okVL_of fun t ht => (hb t ht).1, okKL_of fun t ht => (hb t ht).2⟩
theorem subG_ok {c d : C} (h : subG c d = true) : okV d.head ∧ okK c.head ∧ okVL d.body ∧ okKL c.body ∧ d.body.length ≤ c.body.length := by
  rw [subG] at h
  simp only [Bool.and_eq_true, decide_eq_true_eq] at h
  obtain ⟨h1, h2⟩ := clause_ok h.1
  obtain ⟨h3, h4⟩ := clause_ok h.2.1
  exact ⟨h3.1, h1.2, h4.1, h2.2, h.2.2⟩
theorem noTable (z : Array Value) (hz : z = #[.int .i64 0, .int .i64 0, .string ⟨#[]⟩, .slice none 0 0]) (S : Store) : KnownC S ((Array.range 104).map (z[· % z.size]!)) st0 := by
  subst hz
  refine ⟨by simp, fun i hi => ⟨fun _ => ?_, fun t ht => ?_⟩⟩
  · simp only [st0, List.length_replicate] at hi
    apply List.ext_getElem?
    intro j
    rw [cellsAt, List.getElem?_take]
    match j with
    | 0 | 1 | 2 | 3 =>
      rw [if_pos (by omega), List.getElem?_drop, Array.getElem?_toList, Array.getElem?_map, Array.getElem?_range, if_pos (by omega)]
      simp only [Option.map_some, List.size_toArray, List.length_cons, List.length_nil]
      first
        | rw [show (i * 4 + 0) % 4 = 0 by omega]; rfl
        | rw [show (i * 4 + 1) % 4 = 1 by omega]; rfl
        | rw [show (i * 4 + 2) % 4 = 2 by omega]; rfl
        | rw [show (i * 4 + 3) % 4 = 3 by omega]; rfl
    | j + 4 =>
      rw [if_neg (by omega)]
      rfl
  · have e : st0[i] = none := by simp only [st0, List.getElem_replicate]
    rw [e] at ht
    cases ht
section
variable {P : Program} {w w0 : World} {X : List Nat} {L : List Item} {S : Store} {K : Value → World → Prop}
attribute [local irreducible] Run CondV GuardV LoadV
theorem r_makeSliceZ (h : Inv w0 X L S w) {T ty e : TypeId} {k by_ n : Nat} {z : Value} (hT : mkOf P T = some (e, k, by_, z)) (hn : n ≤ 4294967296) (hby : by_ ≤ 65536) (hn0 : n * k ≠ 0)
    (hk : ∀ b w', Inv w0 X (L ++ [.blk b (.cells ((Array.range (n * k)).map (z.cells[· % z.cells.size]!)) e)]) S w' → K (.slice (some ⟨b, 0, none⟩) n n) w') :
    Run P (sOp (.makeSlice T (.const (.int .i64 n)) (.const (.int .i64 n))) ty) w K := by
  obtain ⟨hu, i, hi, hz, hs, hb, hzs⟩ := mkOf_some hT
  have hw : IntKind.i64.wrap (n : Int) = n := IntWalk.i64_in _ (by omega)
  have hle : by_ * n ≤ 2 ^ 48 := Nat.le_trans (Nat.mul_le_mul hby hn) (by decide)
  have h1 : ¬ ((n : Int) < 0) := by omega
  have h2 : ¬ (281474976710656 < (i.bytes : Int) * (n : Int)) := by
    rw [hb]
    have : ((by_ * n : Nat) : Int) ≤ ((2 ^ 48 : Nat) : Int) := by exact_mod_cast hle
    have e : (((2 ^ 48 : Nat)) : Int) = 281474976710656 := by decide
    rw [e, Int.natCast_mul] at this
    omega
  refine Run.of (v := .slice (some ⟨w.heap.size, 0, none⟩) n n) (w' := { w with heap := w.heap.push (.cells ((Array.range (n * k)).map (z.cells[· % z.cells.size]!)) e) }) ?_ (hk _ _ (h.alloc _))
  simp [sOp, execOp, ev0, evE, Instr.makeSlice, run_underlying hu, asInt, asIntOf, typeInfo, hi, hw, h1, h2, sizeOf, hs, newRow, newObj, Sem.run, hn0, zeroValue, hz]
end
section
attribute [local irreducible] Run CondV GuardV LoadV
end

end Go.Proofs.Ytgdibnmabnimaaa

/- Flat programs: what follows from facts. The plain form. -/
namespace Go.Proofs.Ytgdibnmabnimaaa
open Go Go.RowKit

def ArgOk (y : T) : Prop := ownB y = true ∧ y.kids = [] ∧ y.kind ≠ 1
def Fct (x : T) : Prop := x.kind = 3 ∧ ownB x = true ∧ ∀ y ∈ x.kids, ArgOk y
def Gl (g : T) : Prop := g.kind = 3 ∧ ownB g = true ∧ ∀ y ∈ g.kids, ownB y = true ∧ y.kids = []
def StF (st : Known) : Prop := st.length = 26 ∧ ∀ t, some t ∈ st → ArgOk t
def bnd (st : Known) (n : Int) : Prop := ∃ t, st[n.toNat]? = some (some t)
theorem nameB_size {s : ByteArray} (h : nameB s = true) : s.size ≤ 6 := by
  rw [nameB, Bool.or_eq_true] at h
  rcases h with h | h
  · rw [wordB] at h
    simp only [Bool.and_eq_true, decide_eq_true_eq] at h
    exact h.2.2
  · simp only [List.any_eq_true, decide_eq_true_eq] at h
    obtain ⟨x, hx, rfl⟩ := h
    have : ∀ y ∈ signs, y.size ≤ 6 := by decide +kernel
    exact this x hx
theorem ownB_size {t : T} (h : ownB t = true) : t.name.size ≤ 6 ∧ t.kids.length ≤ 4 := by
  unfold ownB at h
  have he : emptyB.size = 0 := by decide +kernel
  by_cases e1 : t.kind = 1
  · rw [if_pos e1] at h
    simp only [Bool.and_eq_true, decide_eq_true_eq] at h
    rw [h.2.2.1]; omega
  · rw [if_neg e1] at h
    by_cases e2 : t.kind = 2
    · rw [if_pos e2] at h
      simp only [Bool.and_eq_true, decide_eq_true_eq] at h
      rw [h.2.2.1]; omega
    · rw [if_neg e2] at h
      by_cases e3 : t.kind = 3
      · rw [if_pos e3] at h
        simp only [Bool.and_eq_true, decide_eq_true_eq] at h
        exact ⟨nameB_size h.2.1, h.2.2⟩
      · rw [if_neg e3] at h
        cases h
theorem wT_def (t : T) : wT t = t.name.size + t.kids.length + wL t.kids := by cases t; rw [wT]; rfl
theorem okV_def (t : T) : okV t ↔ (t.kind = 1 → 0 ≤ t.n ∧ t.n ≤ 25) ∧ okVL t.kids := by cases t; rw [okV]; rfl
theorem okK_def (t : T) : okK t ↔ t.kind ≠ 0 ∧ okKL t.kids := by cases t; rw [okK]; rfl
theorem okO_def (t : T) : okO t ↔ (((t.kind = 1 ∨ t.kind = 2) ∧ t.name = emptyB ∧ t.kids = []) ∨ (t.kind = 3 ∧ t.n = 0)) ∧ okOL t.kids := by cases t; rw [okO]; rfl
theorem okOL_of : ∀ {ts : List T}, (∀ t ∈ ts, okO t) → okOL ts
  | [], _ => by simp [okOL]
  | t :: ts, h => by rw [okOL]; exact ⟨h t (List.mem_cons_self ..), okOL_of fun u hu => h u (List.mem_cons_of_mem _ hu)⟩
theorem leaf_ok {y : T} (h : ownB y = true) (hk : y.kids = []) : okV y ∧ okK y ∧ okO y ∧ wT y ≤ 6 := by
  have h1 := ownB_v h
  have h2 := ownB_okO h
  have h3 := ownB_size h
  refine ⟨(okV_def y).2 ⟨h1.1, by rw [hk]; simp [okVL]⟩, (okK_def y).2 ⟨h1.2, by rw [hk]; simp [okKL]⟩, (okO_def y).2 ⟨h2, by rw [hk]; simp [okOL]⟩, ?_⟩
  rw [wT_def, hk]
  simp only [List.length_nil, wL]
  omega
theorem wL_bound : ∀ (ts : List T) (b : Nat), (∀ t ∈ ts, wT t ≤ b) → wL ts ≤ ts.length * b
  | [], b, _ => by simp [wL]
  | t :: ts, b, h => by
    rw [wL, List.length_cons, Nat.succ_mul]
    have h1 := h t (List.mem_cons_self ..)
    have h2 := wL_bound ts b fun u hu => h u (List.mem_cons_of_mem _ hu)
    omega
theorem node_ok {x : T} (ho : ownB x = true) (hk : ∀ y ∈ x.kids, ownB y = true ∧ y.kids = []) : okV x ∧ okK x ∧ okO x ∧ wT x ≤ 34 := by
  have h1 := ownB_v ho
  have h2 := ownB_okO ho
  have h3 := ownB_size ho
  have hl := fun y hy => leaf_ok (hk y hy).1 (hk y hy).2
  refine ⟨(okV_def x).2 ⟨h1.1, okVL_of fun y hy => (hl y hy).1⟩, (okK_def x).2 ⟨h1.2, okKL_of fun y hy => (hl y hy).2.1⟩, (okO_def x).2 ⟨h2, okOL_of fun y hy => (hl y hy).2.2.1⟩, ?_⟩
  have h4 := wL_bound x.kids 6 fun y hy => (hl y hy).2.2.2
  have h5 : x.kids.length * 6 ≤ 4 * 6 := Nat.mul_le_mul_right 6 h3.2
  rw [wT_def]
  omega
theorem Fct.ok {x : T} (h : Fct x) : okV x ∧ okK x ∧ okO x ∧ wT x ≤ 34 := node_ok h.2.1 fun y hy => ⟨(h.2.2 y hy).1, (h.2.2 y hy).2.1⟩
theorem Gl.ok {x : T} (h : Gl x) : okV x ∧ okK x ∧ okO x ∧ wT x ≤ 34 := node_ok h.2.1 h.2.2
theorem StF.ok {st : Known} (h : StF st) : stOk st ∧ stW st := ⟨⟨h.1, fun t ht => (leaf_ok (h.2 t ht).1 (h.2 t ht).2.1).2.1⟩, fun t ht => by have := (leaf_ok (h.2 t ht).1 (h.2 t ht).2.1).2.2.2; omega⟩
theorem st0_F : StF st0 := ⟨by simp [st0], fun t ht => by simp [st0] at ht⟩
theorem own_range {y : T} (h : ownB y = true) (hk : y.kind = 1) : 0 ≤ y.n ∧ y.n ≤ 25 := (ownB_v h).1 hk
/- matching -/
theorem leafs_match : ∀ (ts us : List T) (st : Known), st.length = 26 → (∀ y ∈ ts, ownB y = true ∧ y.kids = []) → ts.length = us.length →
    (matchL ts us st).2.length = 26 ∧ (∀ x, some x ∈ (matchL ts us st).2 → some x ∈ st ∨ x ∈ us) ∧ (∀ n, bnd st n → bnd (matchL ts us st).2 n) ∧ ((matchL ts us st).1 = true → ∀ y ∈ ts, y.kind = 1 → bnd (matchL ts us st).2 y.n)
  | [], us, st, hst, _, _ => by
    rw [matchL]
    exact ⟨hst, fun x hx => .inl hx, fun n h => h, fun _ y hy => by cases hy⟩
  | _ :: _, [], st, _, _, hl => by simp at hl
  | t :: ts, u :: us, st, hst, hk, hl => by
    obtain ⟨ho, hks⟩ := hk t (List.mem_cons_self ..)
    have hk' := fun y hy => hk y (List.mem_cons_of_mem _ hy)
    have hl' : ts.length = us.length := by simpa using hl
    rw [matchL]
    have key : (matchT t u st).2.length = 26 ∧ (∀ x, some x ∈ (matchT t u st).2 → some x ∈ st ∨ x = u) ∧ (∀ n, bnd st n → bnd (matchT t u st).2 n) ∧ ((matchT t u st).1 = true → t.kind = 1 → bnd (matchT t u st).2 t.n) := by
      obtain ⟨k, n, s, ks⟩ := t
      rw [matchT]
      by_cases hk1 : k = 1
      · have hr := own_range ho hk1
        simp only [T.n] at hr
        rw [if_pos hk1]
        split
        · rename_i t0 h0
          refine ⟨hst, fun x hx => .inl hx, fun n h => h, fun _ _ => ⟨t0, ?_⟩⟩
          exact h0
        · refine ⟨by rw [List.length_set]; exact hst, fun x hx => ?_, fun m ⟨t1, h1⟩ => ?_, fun _ _ => ⟨u, ?_⟩⟩
          · rcases List.mem_or_eq_of_mem_set hx with hx | hx
            · exact .inl hx
            · simp only [Option.some.injEq] at hx
              exact .inr hx
          · by_cases e : n.toNat = m.toNat
            · refine ⟨u, ?_⟩
              rw [← e, List.getElem?_set_self (by omega)]
            · refine ⟨t1, ?_⟩
              rw [List.getElem?_set_ne e]
              exact h1
          · show (st.set n.toNat (some u))[n.toNat]? = _
            rw [List.getElem?_set_self (by omega)]
      · rw [if_neg hk1]
        split
        · simp only [T.kids] at hks
          subst hks
          rw [matchL]
          exact ⟨hst, fun x hx => .inl hx, fun n h => h, fun _ h => absurd h hk1⟩
        · exact ⟨hst, fun x hx => .inl hx, fun n h => h, fun _ h => absurd h hk1⟩
    obtain ⟨k1, k2, k3, k4⟩ := key
    split
    · rename_i hm
      obtain ⟨i1, i2, i3, i4⟩ := leafs_match ts us (matchT t u st).2 k1 hk' hl'
      refine ⟨i1, fun x hx => ?_, fun n h => i3 n (k3 n h), fun h y hy hy1 => ?_⟩
      · rcases i2 x hx with hx | hx
        · rcases k2 x hx with hx | rfl
          · exact .inl hx
          · exact .inr (List.mem_cons_self ..)
        · exact .inr (List.mem_cons_of_mem _ hx)
      · rcases List.mem_cons.1 hy with rfl | hy
        · exact i3 _ (k4 hm hy1)
        · exact i4 h y hy hy1
    · refine ⟨k1, fun x hx => ?_, k3, fun h => by cases h⟩
      rcases k2 x hx with hx | rfl
      · exact .inl hx
      · exact .inr (List.mem_cons_self ..)
theorem goal_match {g f : T} {st : Known} (hg : Gl g) (hf : Fct f) (hst : StF st) : StF (matchT g f st).2 ∧ (∀ n, bnd st n → bnd (matchT g f st).2 n) ∧ ((matchT g f st).1 = true → ∀ y ∈ g.kids, y.kind = 1 → bnd (matchT g f st).2 y.n) := by
  obtain ⟨k, n, s, ks⟩ := g
  have hk3 : k = 3 := hg.1
  rw [matchT, if_neg (by omega)]
  split
  · rename_i hd
    have hl : ks.length = f.kids.length := by
      rw [hdEq] at hd
      simp only [Bool.and_eq_true, decide_eq_true_eq] at hd
      exact hd.2.2.2
    obtain ⟨i1, i2, i3, i4⟩ := leafs_match ks f.kids st hst.1 hg.2.2 hl
    refine ⟨⟨i1, fun t ht => ?_⟩, i3, i4⟩
    rcases i2 t ht with h | h
    · exact hst.2 t h
    · exact hf.2.2 t h
  · exact ⟨hst, fun n h => h, fun h => by cases h⟩
theorem full_Fct {h : T} {st : Known} (hh : Gl h) (hst : StF st) (hb : ∀ y ∈ h.kids, y.kind = 1 → bnd st y.n) : Fct (fullS h st) := by
  refine ⟨hh.1, ?_, fun y hy => ?_⟩
  · have h1 := hh.2.1
    unfold ownB at h1 ⊢
    have e3 : (fullS h st).kind = 3 := hh.1
    rw [if_neg (by have := hh.1; omega), if_neg (by have := hh.1; omega), if_pos hh.1] at h1
    rw [if_neg (by omega), if_neg (by omega), if_pos e3]
    simp only [Bool.and_eq_true, decide_eq_true_eq] at h1 ⊢
    refine ⟨rfl, h1.2.1, ?_⟩
    show (h.kids.map (fullK st)).length ≤ 4
    rw [List.length_map]
    exact h1.2.2
  · have hy : y ∈ h.kids.map (fullK st) := hy
    obtain ⟨x, hx, rfl⟩ := List.mem_map.1 hy
    rw [fullK]
    split
    · rename_i hk
      obtain ⟨t, ht⟩ := hb x hx hk
      have e : getK st x.n = t := by rw [getK, ht]
      rw [e]
      exact hst.2 t (List.mem_of_getElem? ht)
    · rename_i hk
      exact ⟨(hh.2.2 x hx).1, (hh.2.2 x hx).2, hk⟩
/- what follows -/
def bodyS (hd : T) (facts : List T) : List T → List T → Known → List T
  | [], out, st => if 60 < out.length then out else insT out (fullS hd st)
  | g :: gs, out, st => if 60 < out.length then out else facts.foldl (fun out f => if (matchT g f st).1 = true then bodyS hd facts gs out (matchT g f st).2 else out) out
def follL (hd : T) (facts : List T) : List T → Known → List T
  | [], st => [fullS hd st]
  | g :: gs, st => facts.flatMap fun f => if (matchT g f st).1 = true then follL hd facts gs (matchT g f st).2 else []
def putC (out : List T) (t : T) : List T := if 60 < out.length then out else insT out t
theorem putC_stay : ∀ (l : List T) (out : List T), 60 < out.length → l.foldl putC out = out
  | [], out, _ => rfl
  | t :: l, out, h => by
    rw [List.foldl_cons, putC, if_pos h]
    exact putC_stay l out h
theorem body_foll (hd : T) (facts : List T) : ∀ (gs out : List T) (st : Known), bodyS hd facts gs out st = (follL hd facts gs st).foldl putC out
  | [], out, st => by rw [bodyS, follL]; rfl
  | g :: gs, out, st => by
    rw [bodyS, follL]
    split
    · rename_i h
      exact (putC_stay _ _ h).symm
    · rename_i h
      clear h
      have : ∀ (fs out : List T), fs.foldl (fun out f => if (matchT g f st).1 = true then bodyS hd facts gs out (matchT g f st).2 else out) out =
          (fs.flatMap fun f => if (matchT g f st).1 = true then follL hd facts gs (matchT g f st).2 else []).foldl putC out := by
        intro fs
        induction fs with
        | nil => intro out; rfl
        | cons f fs ih =>
          intro out
          rw [List.foldl_cons, List.flatMap_cons, List.foldl_append, ih]
          congr 1
          split
          · exact body_foll hd facts gs out _
          · rfl
      exact this facts out
/- the variables of the head are bound in the end -/
def covers (hd : T) (gs : List T) (st : Known) : Prop := ∀ y ∈ hd.kids, y.kind = 1 → bnd st y.n ∨ ∃ g ∈ gs, ∃ z ∈ g.kids, z.kind = 1 ∧ z.n = y.n
theorem covers_step {hd g f : T} {gs : List T} {st : Known} (h : covers hd (g :: gs) st) (hg : Gl g) (hf : Fct f) (hst : StF st) (hm : (matchT g f st).1 = true) : covers hd gs (matchT g f st).2 := by
  obtain ⟨_, h2, h3⟩ := goal_match hg hf hst
  intro y hy hk
  rcases h y hy hk with hb | ⟨x, hx, z, hz, hz1, hzn⟩
  · exact .inl (h2 _ hb)
  · rcases List.mem_cons.1 hx with rfl | hx
    · left
      rw [← hzn]
      exact h3 hm z hz hz1
    · exact .inr ⟨x, hx, z, hz, hz1, hzn⟩
theorem foll_Fct {hd : T} {facts : List T} (hh : Gl hd) (hfs : ∀ f ∈ facts, Fct f) : ∀ (gs : List T) (st : Known), (∀ g ∈ gs, Gl g) → StF st → covers hd gs st → ∀ x ∈ follL hd facts gs st, Fct x
  | [], st, _, hst, hc, x, hx => by
    rw [follL, List.mem_singleton] at hx
    subst hx
    refine full_Fct hh hst fun y hy hk => ?_
    rcases hc y hy hk with h | ⟨g, hg, _⟩
    · exact h
    · cases hg
  | g :: gs, st, hgs, hst, hc, x, hx => by
    rw [follL, List.mem_flatMap] at hx
    obtain ⟨f, hf, hx⟩ := hx
    split at hx
    · rename_i hm
      have hg := hgs g (List.mem_cons_self ..)
      exact foll_Fct hh hfs gs _ (fun g' h' => hgs g' (List.mem_cons_of_mem _ h')) (goal_match hg (hfs f hf) hst).1 (covers_step hc hg (hfs f hf) hst hm) x hx
    · cases hx
theorem putC_len (out : List T) (t : T) : out.length ≤ (putC out t).length ∧ (putC out t).length ≤ max out.length 61 := by
  unfold putC
  split
  · omega
  · have := insT_len out t
    omega
theorem fold_len : ∀ (l out : List T), out.length ≤ (l.foldl putC out).length ∧ (l.foldl putC out).length ≤ max out.length 61
  | [], out => by simp only [List.foldl_nil]; omega
  | t :: l, out => by
    rw [List.foldl_cons]
    have h1 := putC_len out t
    have h2 := fold_len l (putC out t)
    omega
theorem putC_mem {out : List T} {t y : T} (h : y ∈ putC out t) : y ∈ out ∨ y = t := by
  unfold putC at h
  split at h
  · exact .inl h
  · exact insT_mem h
theorem fold_mem : ∀ (l out : List T) (y : T), y ∈ l.foldl putC out → y ∈ out ∨ y ∈ l
  | [], out, y, h => .inl h
  | t :: l, out, y, h => by
    rw [List.foldl_cons] at h
    rcases fold_mem l _ y h with h | h
    · rcases putC_mem h with h | rfl
      · exact .inl h
      · exact .inr (List.mem_cons_self ..)
    · exact .inr (List.mem_cons_of_mem _ h)
theorem fold_keep : ∀ (l out : List T) (y : T), y ∈ out → y ∈ l.foldl putC out
  | [], out, y, h => h
  | t :: l, out, y, h => by
    rw [List.foldl_cons]
    refine fold_keep l _ y ?_
    unfold putC
    split
    · exact h
    · exact (insT_has out t).2 y h
theorem fold_has : ∀ (l out : List T) (y : T), y ∈ l → 60 < (l.foldl putC out).length ∨ y ∈ l.foldl putC out
  | t :: l, out, y, h => by
    rw [List.foldl_cons]
    rcases List.mem_cons.1 h with rfl | h
    · by_cases hc : 60 < out.length
      · left
        have h1 := putC_len out y
        have h2 := fold_len l (putC out y)
        omega
      · right
        refine fold_keep l _ _ ?_
        rw [putC, if_neg hc]
        exact (insT_has out y).1
    · exact fold_has l _ y h
theorem fold_sorted : ∀ (l out : List T), Sorted out → (∀ x ∈ out, okO x) → (∀ x ∈ l, okO x) → Sorted (l.foldl putC out)
  | [], out, h, _, _ => h
  | t :: l, out, h, ho, hl => by
    rw [List.foldl_cons]
    have ht := hl t (List.mem_cons_self ..)
    refine fold_sorted l _ ?_ (fun x hx => ?_) fun x hx => hl x (List.mem_cons_of_mem _ hx)
    · unfold putC
      split
      · exact h
      · exact insT_sorted h ho ht
    · rcases putC_mem hx with hx | rfl
      · exact ho x hx
      · exact ht
theorem hasT_iff (l : List T) (t : T) : hasT l t = true ↔ t ∈ l := by
  rw [hasT, List.any_eq_true]
  constructor
  · rintro ⟨x, hx, he⟩
    rw [eqT_iff] at he
    subst he
    exact hx
  · intro h
    exact ⟨t, h, (eqT_iff _ _).2 rfl⟩
/- a list that was cut off is longer than the facts -/
theorem closed_eq {facts l : List T} (hf : facts.length ≤ 60) (hl : ∀ x ∈ l, okO x) : (l.foldl putC []).all (hasT facts) = l.all (hasT facts) := by
  rw [Bool.eq_iff_iff, List.all_eq_true, List.all_eq_true]
  constructor
  · intro h x hx
    rcases fold_has l [] x hx with hc | hm
    · exfalso
      have hs := (fold_sorted l [] trivial (by simp) hl).nodup
      have hsub : ∀ y ∈ l.foldl putC [], y ∈ facts := fun y hy => (hasT_iff _ _).1 (h y hy)
      have := List.Nodup.length_le_of_subset hs hsub
      omega
    · exact h x hm
  · intro h x hx
    rcases fold_mem l [] x hx with hm | hm
    · cases hm
    · exact h x hm

end Go.Proofs.Ytgdibnmabnimaaa

/- spec.l16Body. -/
namespace Go.Proofs.Ytgdibnmabnimaaa
open Go Go.RowKit
def IsM (S : Store) (v : Value) (r : Bool × Known) : Prop := ∃ kb kp kc, v = .tuple #[kvn kb kp, .bool r.1] ∧ 26 ≤ kp ∧ kp ≤ maxLen ∧ S kb = some (.cells kc t_iTerm) ∧ KnownC S kc r.2
def IsKn (S : Store) (v : Value) (st : Known) : Prop := ∃ kb kp kc, v = kvn kb kp ∧ 26 ≤ kp ∧ kp ≤ maxLen ∧ S kb = some (.cells kc t_iTerm) ∧ KnownC S kc st
theorem IsM.mono {S S' : Store} {v : Value} {r : Bool × Known} (h : IsM S v r) (hs : Sle S S') : IsM S' v r := by
  obtain ⟨kb, kp, kc, h1, h2, h3, h4, h5⟩ := h
  exact ⟨kb, kp, kc, h1, h2, h3, hs _ _ h4, h5.mono hs⟩
theorem IsKn.mono {S S' : Store} {v : Value} {st : Known} (h : IsKn S v st) (hs : Sle S S') : IsKn S' v st := by
  obtain ⟨kb, kp, kc, h1, h2, h3, h4, h5⟩ := h
  exact ⟨kb, kp, kc, h1, h2, h3, hs _ _ h4, h5.mono hs⟩
theorem IsM.parts {S : Store} {v : Value} {r : Bool × Known} (h : IsM S v r) : ∃ u, v = .tuple #[u, .bool r.1] ∧ IsKn S u r.2 := by
  obtain ⟨kb, kp, kc, h1, h2⟩ := h
  exact ⟨_, h1, kb, kp, kc, rfl, h2⟩
theorem out_ok {hd : T} {facts gs out : List T} {st : Known} (hh : Gl hd) (hfs : ∀ f ∈ facts, Fct f) (hgs : ∀ g ∈ gs, Gl g) (hst : StF st) (hc : covers hd gs st) (ho : ∀ x ∈ out, okO x) (hn : out.length ≤ 1000000) :
    (∀ x ∈ bodyS hd facts gs out st, okO x) ∧ (bodyS hd facts gs out st).length ≤ 1000000 := by
  rw [body_foll]
  refine ⟨fun x hx => ?_, ?_⟩
  · rcases fold_mem _ _ x hx with h | h
    · exact ho x h
    · exact (foll_Fct hh hfs gs st hgs hst hc x h).ok.2.2.1
  · have := fold_len (follL hd facts gs st) out
    omega
theorem step_ok {hd f g : T} {facts gs out : List T} {st : Known} (hh : Gl hd) (hfs : ∀ f ∈ facts, Fct f) (hf : Fct f) (hg : Gl g) (hgs : ∀ g ∈ gs, Gl g) (hst : StF st) (hc : covers hd (g :: gs) st) (ho : ∀ x ∈ out, okO x) (hn : out.length ≤ 1000000) :
    (∀ x ∈ (if (matchT g f st).1 = true then bodyS hd facts gs out (matchT g f st).2 else out), okO x) ∧ (if (matchT g f st).1 = true then bodyS hd facts gs out (matchT g f st).2 else out).length ≤ 1000000 := by
  split
  · rename_i hm
    exact out_ok hh hfs hgs (goal_match hg hf hst).1 (covers_step hc hg hf hst hm) ho hn
  · exact ⟨ho, hn⟩
section
attribute [local irreducible] Run CondV GuardV LoadV
theorem l16Body_calls (c0 : C) (facts : List T) (hh : Gl c0.head) (hfs : ∀ f ∈ facts, Fct f) (hbs : ∀ g ∈ c0.body, Gl g) : ∀ (gs : List T) (i : Nat), i + gs.length = c0.body.length → c0.body.drop i = gs →
    ∀ (S : Store) (cs : List Value) (v fv kn : Value) (out : List T) (st : Known), RdC S cs c0 → RdSl S 4 (RdT S) v out → RdSl S 4 (RdT S) fv facts → IsKn S kn st → StF st → covers c0.head gs st → (∀ x ∈ out, okO x) → out.length ≤ 1000000 →
    Tri Try.prog n_s_l16Body [v, .agg cs.toArray, .int .i64 i, fv, kn] [] S (PostL (bodyS c0.head facts gs out st)) := by
  intro gs
  induction gs with
  | nil =>
    intro i hi hdr S cs v fv kn out st h hv hf hkn hst hc ho hn w hI
    obtain ⟨kb, kp, kc, rfl, hkp, hkm, hS, hkc⟩ := hkn
    obtain ⟨hd, ks, rfl, h1, h2⟩ := h
    have h1' := h1
    obtain ⟨kv, rfl, g1, g2, g3, g4⟩ := RdT.iff.1 h1
    simp only [List.length_nil, Nat.add_zero] at hi
    refine calls_s_l16Body ?_
    unfold sh_s_l16Body
    refine r_box hI fun b6 w' hI => ?_
    refine r_lenSl hv sl_SiTerm ?_
    refine r_gtr ?_
    rw [bodyS]
    refine condP (fun hb => ?_) (fun hb => ?_)
    · rw [if_pos (by omega)]
      exact ⟨_, _, _, rfl, hI.pick [false], Ext.refl _ _ _, rfl, hv⟩
    rw [if_neg (by omega)]
    refine r_fieldL hI 0 rfl fo_iClause_1 sc_SiTerm rfl ?_
    refine r_lenSl h2 sl_SiTerm ?_
    refine r_eql ?_
    refine condP (fun _ => ?_) (fun hb => absurd (by omega) hb)
    refine r_field fo_iClause_0 ?_
    refine r_loadLA hI 0 [.int .i64 c0.head.kind, .int .i64 c0.head.n, .string c0.head.name, kv] ag_iTerm rfl rfl sub4 ?_
    have hok := hh.ok
    refine Run.call0 fn_s_l16Full nm_s_l16Full hI (l16Full_calls h1' hok.1 (by omega) hst.ok.1 hst.ok.2 hS hkc) fun v' I' S' w' => ?_
    rintro ⟨rfl, cs1, L, rfl, rfl, hT⟩ _ hI
    obtain ⟨S1, hI, hE, hins⟩ := hI.pubExt
    have hct := full_Fct hh hst (fun y hy hk => by
      rcases hc y hy hk with h | ⟨g, hg, _⟩
      · exact h
      · cases hg)
    refine Run.call0E fn_s_l16Put nm_s_l16Put hI (l16Put_calls (hv.monoT hE.1) (hT.rd hins) ho hct.ok.2.2.1 hn) fun v' I' S2 w' => ?_
    rintro ⟨rfl, hr⟩ hE2 hI
    exact ⟨_, _, _, rfl, hI.pick [false], hE.trans hE2, rfl, hr⟩
  | cons g gs ih =>
    intro i hi hdr S cs v fv kn out st h hv hf hkn hst hc ho hn w hI
    obtain ⟨kb, kp, kc, rfl, hkp, hkm, hS, hkc⟩ := hkn
    have h0 := h
    obtain ⟨hd, ks, rfl, h1, h2⟩ := h
    obtain ⟨kv, rfl, g1, g2, g3, g4⟩ := RdT.iff.1 h1
    simp only [List.length_cons] at hi
    have hib : i < c0.body.length := by omega
    have hlen2 := h2.le
    have hlenf := hf.le
    simp only [maxLen] at hlen2 hlenf
    have hge : c0.body[i] = g ∧ c0.body.drop (i + 1) = gs := by
      rw [List.drop_eq_getElem_cons hib, List.cons.injEq] at hdr
      exact hdr
    have hg : Gl g := by rw [← hge.1]; exact hbs _ (List.getElem_mem hib)
    have hgs : ∀ x ∈ gs, Gl x := fun x hx => hbs x (by rw [← hge.2] at hx; exact List.mem_of_mem_drop hx)
    refine calls_s_l16Body ?_
    unfold sh_s_l16Body
    refine r_box hI fun b6 w' hI => ?_
    refine r_lenSl hv sl_SiTerm ?_
    refine r_gtr ?_
    rw [bodyS]
    refine condP (fun hb => ?_) (fun hb => ?_)
    · rw [if_pos (by omega)]
      exact ⟨_, _, _, rfl, hI.pick [false], Ext.refl _ _ _, rfl, hv⟩
    rw [if_neg (by omega)]
    refine r_fieldL hI 0 rfl fo_iClause_1 sc_SiTerm rfl ?_
    refine r_lenSl h2 sl_SiTerm ?_
    refine r_eql ?_
    refine condP (fun hb => by omega) (fun _ => ?_)
    generalize hF : (fun (out : List T) (f : T) => if (matchT g f st).1 = true then bodyS c0.head facts gs out (matchT g f st).2 else out) = F
    have hF2 : ∀ o f, F o f = if (matchT g f st).1 = true then bodyS c0.head facts gs o (matchT g f st).2 else o := fun o f => by rw [← hF]
    refine ⟨fun j t w' => ∃ (k : Nat) (o : List T) (S' : Store), k ≤ facts.length ∧ j = .int .i64 k ∧ (facts.drop k).foldl F o = facts.foldl F out ∧ (∀ x ∈ o, okO x) ∧ o.length ≤ 1000000 ∧ Ext w.heap.size [] S S' ∧ RdSl S' 4 (RdT S') t o ∧
        Inv w [] [.blk b6 (.cells #[.int .i64 c0.head.kind, .int .i64 c0.head.n, .string c0.head.name, kv, ks] t_iClause)] S' w',
      fun j _ _ => facts.length - (intOf j).toNat, ⟨0, out, S, Nat.zero_le _, rfl, rfl, ho, hn, Ext.refl _ _ _, hv, hI⟩, ?_⟩
    intro t11 _ _ t0 _ _ _ _ _ _ _ _ _ _ _ _ _ _ _ _ _ _ _ _ _ _ _ _ _ _ _ _ w'
    rintro ⟨k, o, S', hk, rfl, hrel, hoo, hno, hE, hv', hI⟩
    have hf' := hf.monoT hE.1
    refine r_lenSl hf' sl_SiTerm ?_
    refine r_lss ?_
    refine condP (fun hki => ?_) (fun hki => ?_)
    · have hk' : k < facts.length := by omega
      rw [List.drop_eq_getElem_cons hk', List.foldl_cons] at hrel
      have hfk := hfs _ (List.getElem_mem hk')
      have hso := step_ok hh hfs hfk hg hgs hst hc hoo hno
      obtain ⟨b1, o1, cap1, c1, E1, fz1, rfl, hS1, hR1⟩ := (h2.monoT hE.1).at_ hib
      obtain ⟨b2, o2, cap2, c2, E2, fz2, rfl, hS2, hR2⟩ := hf'.at_ hk'
      rw [hge.1] at hR1
      obtain ⟨r, hr⟩ : ∃ r, r = matchT g facts[k] st := ⟨_, rfl⟩
      refine ⟨fun t w' => ∃ S2, Ext w.heap.size [] S S2 ∧ RdSl S2 4 (RdT S2) t (F o facts[k]) ∧ Inv w [] [.blk b6 (.cells #[.int .i64 c0.head.kind, .int .i64 c0.head.n, .string c0.head.name, kv, .slice (some ⟨b1, o1, none⟩) c0.body.length cap1] t_iClause)] S2 w', ?_, ?_⟩
      · have hkd := hkc.1
        refine ⟨fun D x13 x12 x48 x47 x35 x46 x45 x44 x43 x42 x41 x40 x39 x38 x37 x36 w_ => (D 0 = true → x36 = .pointer (some ⟨b6, 4, none⟩)) ∧ (D 1 = true → x37 = .slice (some ⟨b1, o1, none⟩) c0.body.length cap1) ∧ (D 2 = true → x38 = .int .i64 i) ∧ (D 3 = true → x39 = .pointer (some ⟨b1, o1 + i * 4, none⟩)) ∧ (D 4 = true → x40 = .agg (cellsAt c1 (o1 + i * 4) 4).toArray) ∧ (D 5 = true → x41 = .slice (some ⟨b2, o2, none⟩) facts.length cap2) ∧ (D 6 = true → x42 = .int .i64 k) ∧ (D 7 = true → x43 = .pointer (some ⟨b2, o2 + k * 4, none⟩)) ∧ (D 8 = true → x44 = .agg (cellsAt c2 (o2 + k * 4) 4).toArray) ∧ (D 9 = true → x45 = kvn kb kp) ∧ (D 10 = true → True) ∧ (D 11 = true → True) ∧ (D 12 = true → True) ∧ (D 13 = true → True) ∧ (D 14 = true → True) ∧ (D 15 = true → True) ∧ ∃ SN, Ext w.heap.size [] S' SN ∧ (D 10 = true → IsM SN x46 r) ∧ (D 11 = true → IsM SN x35 r) ∧ (D 12 = true → IsKn SN x47 r.2) ∧ (D 13 = true → x48 = .bool r.1) ∧ (D 14 = true → IsKn SN x12 r.2) ∧ (D 15 = true → x13 = .bool r.1) ∧ Inv w [] [.blk b6 (.cells #[.int .i64 c0.head.kind, .int .i64 c0.head.n, .string c0.head.name, kv, .slice (some ⟨b1, o1, none⟩) c0.body.length cap1] t_iClause)] SN w_, ⟨fun h => Bool.noConfusion h, fun h => Bool.noConfusion h, fun h => Bool.noConfusion h, fun h => Bool.noConfusion h, fun h => Bool.noConfusion h, fun h => Bool.noConfusion h, fun h => Bool.noConfusion h, fun h => Bool.noConfusion h, fun h => Bool.noConfusion h, fun h => Bool.noConfusion h, fun h => Bool.noConfusion h, fun h => Bool.noConfusion h, fun h => Bool.noConfusion h, fun h => Bool.noConfusion h, fun h => Bool.noConfusion h, fun h => Bool.noConfusion h, ⟨S', Ext.refl _ _ _, fun h => Bool.noConfusion h, fun h => Bool.noConfusion h, fun h => Bool.noConfusion h, fun h => Bool.noConfusion h, fun h => Bool.noConfusion h, fun h => Bool.noConfusion h, hI.draw⟩⟩, ⟨?_, ?_, ?_, ?_, ?_, ?_, ?_, ?_, ?_, ?_, ?_, ?_, ?_, ?_, ?_, ?_, trivial⟩, ?_⟩
        · intro D hD_  x13 x12 x48 x47 x35 x46 x45 x44 x43 x42 x41 x40 x39 x38 x37 x36 w_
          rintro ⟨h0_, h1_, h2_, h3_, h4_, h5_, h6_, h7_, h8_, h9_, h10_, h11_, h12_, h13_, h14_, h15_, ⟨SN, hN, e10, e11, e12, e13, e14, e15, hI⟩⟩
          refine r_field fo_iClause_1 ?_
          exact ⟨fun _ => rfl, h1_, h2_, h3_, h4_, h5_, h6_, h7_, h8_, h9_, h10_, h11_, h12_, h13_, h14_, h15_, ⟨SN, hN, e10, e11, e12, e13, e14, e15, hI⟩⟩
        · intro D hD_ d0_0 x13 x12 x48 x47 x35 x46 x45 x44 x43 x42 x41 x40 x39 x38 x37 x36 w_
          rintro ⟨h0_, h1_, h2_, h3_, h4_, h5_, h6_, h7_, h8_, h9_, h10_, h11_, h12_, h13_, h14_, h15_, ⟨SN, hN, e10, e11, e12, e13, e14, e15, hI⟩⟩
          obtain rfl := h0_ d0_0
          refine r_loadL hI 0 sc_SiTerm rfl rfl ?_
          exact ⟨h0_, fun _ => rfl, h2_, h3_, h4_, h5_, h6_, h7_, h8_, h9_, h10_, h11_, h12_, h13_, h14_, h15_, ⟨SN, hN, e10, e11, e12, e13, e14, e15, hI⟩⟩
        · intro D hD_  x13 x12 x48 x47 x35 x46 x45 x44 x43 x42 x41 x40 x39 x38 x37 x36 w_
          rintro ⟨h0_, h1_, h2_, h3_, h4_, h5_, h6_, h7_, h8_, h9_, h10_, h11_, h12_, h13_, h14_, h15_, ⟨SN, hN, e10, e11, e12, e13, e14, e15, hI⟩⟩
          exact ⟨h0_, h1_, fun _ => rfl, h3_, h4_, h5_, h6_, h7_, h8_, h9_, h10_, h11_, h12_, h13_, h14_, h15_, ⟨SN, hN, e10, e11, e12, e13, e14, e15, hI⟩⟩
        · intro D hD_ d1_0 d2_1 x13 x12 x48 x47 x35 x46 x45 x44 x43 x42 x41 x40 x39 x38 x37 x36 w_
          rintro ⟨h0_, h1_, h2_, h3_, h4_, h5_, h6_, h7_, h8_, h9_, h10_, h11_, h12_, h13_, h14_, h15_, ⟨SN, hN, e10, e11, e12, e13, e14, e15, hI⟩⟩
          obtain rfl := h1_ d1_0
          obtain rfl := h2_ d2_1
          refine r_indexAddr sl_SiTerm hib ?_
          exact ⟨h0_, h1_, h2_, fun _ => rfl, h4_, h5_, h6_, h7_, h8_, h9_, h10_, h11_, h12_, h13_, h14_, h15_, ⟨SN, hN, e10, e11, e12, e13, e14, e15, hI⟩⟩
        · intro D hD_ d3_0 x13 x12 x48 x47 x35 x46 x45 x44 x43 x42 x41 x40 x39 x38 x37 x36 w_
          rintro ⟨h0_, h1_, h2_, h3_, h4_, h5_, h6_, h7_, h8_, h9_, h10_, h11_, h12_, h13_, h14_, h15_, ⟨SN, hN, e10, e11, e12, e13, e14, e15, hI⟩⟩
          obtain rfl := h3_ d3_0
          refine r_loadA ag_iTerm hR1.length (fun j v hj => by rw [hI.cellS (hN.1 _ _ hS1)]; exact cellsAt_get rfl j v hj) ?_
          exact ⟨h0_, h1_, h2_, h3_, fun _ => rfl, h5_, h6_, h7_, h8_, h9_, h10_, h11_, h12_, h13_, h14_, h15_, ⟨SN, hN, e10, e11, e12, e13, e14, e15, hI⟩⟩
        · intro D hD_  x13 x12 x48 x47 x35 x46 x45 x44 x43 x42 x41 x40 x39 x38 x37 x36 w_
          rintro ⟨h0_, h1_, h2_, h3_, h4_, h5_, h6_, h7_, h8_, h9_, h10_, h11_, h12_, h13_, h14_, h15_, ⟨SN, hN, e10, e11, e12, e13, e14, e15, hI⟩⟩
          exact ⟨h0_, h1_, h2_, h3_, h4_, fun _ => rfl, h6_, h7_, h8_, h9_, h10_, h11_, h12_, h13_, h14_, h15_, ⟨SN, hN, e10, e11, e12, e13, e14, e15, hI⟩⟩
        · intro D hD_  x13 x12 x48 x47 x35 x46 x45 x44 x43 x42 x41 x40 x39 x38 x37 x36 w_
          rintro ⟨h0_, h1_, h2_, h3_, h4_, h5_, h6_, h7_, h8_, h9_, h10_, h11_, h12_, h13_, h14_, h15_, ⟨SN, hN, e10, e11, e12, e13, e14, e15, hI⟩⟩
          exact ⟨h0_, h1_, h2_, h3_, h4_, h5_, fun _ => rfl, h7_, h8_, h9_, h10_, h11_, h12_, h13_, h14_, h15_, ⟨SN, hN, e10, e11, e12, e13, e14, e15, hI⟩⟩
        · intro D hD_ d5_0 d6_1 x13 x12 x48 x47 x35 x46 x45 x44 x43 x42 x41 x40 x39 x38 x37 x36 w_
          rintro ⟨h0_, h1_, h2_, h3_, h4_, h5_, h6_, h7_, h8_, h9_, h10_, h11_, h12_, h13_, h14_, h15_, ⟨SN, hN, e10, e11, e12, e13, e14, e15, hI⟩⟩
          obtain rfl := h5_ d5_0
          obtain rfl := h6_ d6_1
          refine r_indexAddr sl_SiTerm hk' ?_
          exact ⟨h0_, h1_, h2_, h3_, h4_, h5_, h6_, fun _ => rfl, h8_, h9_, h10_, h11_, h12_, h13_, h14_, h15_, ⟨SN, hN, e10, e11, e12, e13, e14, e15, hI⟩⟩
        · intro D hD_ d7_0 x13 x12 x48 x47 x35 x46 x45 x44 x43 x42 x41 x40 x39 x38 x37 x36 w_
          rintro ⟨h0_, h1_, h2_, h3_, h4_, h5_, h6_, h7_, h8_, h9_, h10_, h11_, h12_, h13_, h14_, h15_, ⟨SN, hN, e10, e11, e12, e13, e14, e15, hI⟩⟩
          obtain rfl := h7_ d7_0
          refine r_loadA ag_iTerm hR2.length (fun j v hj => by rw [hI.cellS (hN.1 _ _ hS2)]; exact cellsAt_get rfl j v hj) ?_
          exact ⟨h0_, h1_, h2_, h3_, h4_, h5_, h6_, h7_, fun _ => rfl, h9_, h10_, h11_, h12_, h13_, h14_, h15_, ⟨SN, hN, e10, e11, e12, e13, e14, e15, hI⟩⟩
        · intro D hD_  x13 x12 x48 x47 x35 x46 x45 x44 x43 x42 x41 x40 x39 x38 x37 x36 w_
          rintro ⟨h0_, h1_, h2_, h3_, h4_, h5_, h6_, h7_, h8_, h9_, h10_, h11_, h12_, h13_, h14_, h15_, ⟨SN, hN, e10, e11, e12, e13, e14, e15, hI⟩⟩
          exact ⟨h0_, h1_, h2_, h3_, h4_, h5_, h6_, h7_, h8_, fun _ => rfl, h10_, h11_, h12_, h13_, h14_, h15_, ⟨SN, hN, e10, e11, e12, e13, e14, e15, hI⟩⟩
        · intro D hD_ d4_0 d8_1 d9_2 x13 x12 x48 x47 x35 x46 x45 x44 x43 x42 x41 x40 x39 x38 x37 x36 w_
          rintro ⟨h0_, h1_, h2_, h3_, h4_, h5_, h6_, h7_, h8_, h9_, h10_, h11_, h12_, h13_, h14_, h15_, ⟨SN, hN, e10, e11, e12, e13, e14, e15, hI⟩⟩
          obtain rfl := h4_ d4_0
          obtain rfl := h8_ d8_1
          obtain rfl := h9_ d9_2
          refine Run.call0E fn_s_l16Match nm_s_l16Match hI (l16Match_calls (hR1.mono hN.1) (hR2.mono hN.1) hg.ok.1 hfk.ok.2.1 hst.ok.1 hkp hkm (hN.1 _ _ (hE.1 _ _ hS)) ((hkc.mono hE.1).mono hN.1)) fun v' I' SN w_ => ?_
          rw [← hr]
          rintro ⟨rfl, kb', kp', kc', rfl, hk1, hk2, hk3, hk4⟩ hE3 hI
          have e10 := fun (_ : setD D 10 10 = true) => (⟨kb', kp', kc', rfl, hk1, hk2, hk3, hk4⟩ : IsM SN (.tuple #[kvn kb' kp', .bool r.1]) r)
          have e11 := fun (e : setD D 10 11 = true) => (e11 e).mono hE3.1
          have e12 := fun (e : setD D 10 12 = true) => (e12 e).mono hE3.1
          have e14 := fun (e : setD D 10 14 = true) => (e14 e).mono hE3.1
          have hN := hN.trans hE3
          exact ⟨h0_, h1_, h2_, h3_, h4_, h5_, h6_, h7_, h8_, h9_, fun _ => by first | assumption | trivial, h11_, h12_, h13_, h14_, h15_, ⟨SN, hN, e10, e11, e12, e13, e14, e15, hI⟩⟩
        · intro D hD_ d10_0 x13 x12 x48 x47 x35 x46 x45 x44 x43 x42 x41 x40 x39 x38 x37 x36 w_
          rintro ⟨h0_, h1_, h2_, h3_, h4_, h5_, h6_, h7_, h8_, h9_, h10_, h11_, h12_, h13_, h14_, h15_, ⟨SN, hN, e10, e11, e12, e13, e14, e15, hI⟩⟩
          have g10_ := h10_ d10_0
          have e11 := fun (_ : setD D 11 11 = true) => e10 d10_0
          exact ⟨h0_, h1_, h2_, h3_, h4_, h5_, h6_, h7_, h8_, h9_, h10_, fun _ => by first | assumption | trivial, h12_, h13_, h14_, h15_, ⟨SN, hN, e10, e11, e12, e13, e14, e15, hI⟩⟩
        · intro D hD_ d11_0 x13 x12 x48 x47 x35 x46 x45 x44 x43 x42 x41 x40 x39 x38 x37 x36 w_
          rintro ⟨h0_, h1_, h2_, h3_, h4_, h5_, h6_, h7_, h8_, h9_, h10_, h11_, h12_, h13_, h14_, h15_, ⟨SN, hN, e10, e11, e12, e13, e14, e15, hI⟩⟩
          have g11_ := h11_ d11_0
          obtain ⟨u, rfl, hu⟩ := (e11 d11_0).parts
          refine r_extract rfl ?_
          have e12 := fun (_ : setD D 12 12 = true) => hu
          exact ⟨h0_, h1_, h2_, h3_, h4_, h5_, h6_, h7_, h8_, h9_, h10_, h11_, fun _ => by first | assumption | trivial, h13_, h14_, h15_, ⟨SN, hN, e10, e11, e12, e13, e14, e15, hI⟩⟩
        · intro D hD_ d11_0 x13 x12 x48 x47 x35 x46 x45 x44 x43 x42 x41 x40 x39 x38 x37 x36 w_
          rintro ⟨h0_, h1_, h2_, h3_, h4_, h5_, h6_, h7_, h8_, h9_, h10_, h11_, h12_, h13_, h14_, h15_, ⟨SN, hN, e10, e11, e12, e13, e14, e15, hI⟩⟩
          have g11_ := h11_ d11_0
          obtain ⟨u, rfl, hu⟩ := (e11 d11_0).parts
          refine r_extract rfl ?_
          have e13 := fun (_ : setD D 13 13 = true) => (rfl : Value.bool r.1 = .bool r.1)
          exact ⟨h0_, h1_, h2_, h3_, h4_, h5_, h6_, h7_, h8_, h9_, h10_, h11_, h12_, fun _ => by first | assumption | trivial, h14_, h15_, ⟨SN, hN, e10, e11, e12, e13, e14, e15, hI⟩⟩
        · intro D hD_ d12_0 d10_1 d0_2 d1_3 d2_4 d3_5 d4_6 d5_7 d6_8 d7_9 d8_10 d9_11 d10_12 d11_13 d12_14 x13 x12 x48 x47 x35 x46 x45 x44 x43 x42 x41 x40 x39 x38 x37 x36 w_
          rintro ⟨h0_, h1_, h2_, h3_, h4_, h5_, h6_, h7_, h8_, h9_, h10_, h11_, h12_, h13_, h14_, h15_, ⟨SN, hN, e10, e11, e12, e13, e14, e15, hI⟩⟩
          have g12_ := h12_ d12_0
          have e14 := fun (_ : setD D 14 14 = true) => e12 d12_0
          exact ⟨h0_, h1_, h2_, h3_, h4_, h5_, h6_, h7_, h8_, h9_, h10_, h11_, h12_, h13_, fun _ => by first | assumption | trivial, h15_, ⟨SN, hN, e10, e11, e12, e13, e14, e15, hI⟩⟩
        · intro D hD_ d13_0 d14_1 d0_2 d1_3 d2_4 d3_5 d4_6 d5_7 d6_8 d7_9 d8_10 d9_11 d10_12 d11_13 d12_14 d13_15 d14_16 x13 x12 x48 x47 x35 x46 x45 x44 x43 x42 x41 x40 x39 x38 x37 x36 w_
          rintro ⟨h0_, h1_, h2_, h3_, h4_, h5_, h6_, h7_, h8_, h9_, h10_, h11_, h12_, h13_, h14_, h15_, ⟨SN, hN, e10, e11, e12, e13, e14, e15, hI⟩⟩
          have g13_ := h13_ d13_0
          have e15 := fun (_ : setD D 15 15 = true) => e13 d13_0
          exact ⟨h0_, h1_, h2_, h3_, h4_, h5_, h6_, h7_, h8_, h9_, h10_, h11_, h12_, h13_, h14_, fun _ => by first | assumption | trivial, ⟨SN, hN, e10, e11, e12, e13, e14, e15, hI⟩⟩
        intro D d15_ d14_ d13_ d12_ d11_ d10_ d9_ d8_ d7_ d6_ d5_ d4_ d3_ d2_ d1_ d0_ x13 x12 x48 x47 x35 x46 x45 x44 x43 x42 x41 x40 x39 x38 x37 x36 w_
        rintro ⟨h0_, h1_, h2_, h3_, h4_, h5_, h6_, h7_, h8_, h9_, h10_, h11_, h12_, h13_, h14_, h15_, ⟨SN, hN, e10, e11, e12, e13, e14, e15, hI⟩⟩
        have g15_ := h15_ d15_
        have g14_ := h14_ d14_
        have g13_ := h13_ d13_
        have g12_ := h12_ d12_
        have g11_ := h11_ d11_
        have g10_ := h10_ d10_
        obtain rfl := h9_ d9_
        obtain rfl := h8_ d8_
        obtain rfl := h7_ d7_
        obtain rfl := h6_ d6_
        obtain rfl := h5_ d5_
        obtain rfl := h4_ d4_
        obtain rfl := h3_ d3_
        obtain rfl := h2_ d2_
        obtain rfl := h1_ d1_
        obtain rfl := h0_ d0_
        clear h0_ h1_ h2_ h3_ h4_ h5_ h6_ h7_ h8_ h9_ h10_ h11_ h12_ h13_ h14_ h15_
        have hx12 := e14 d14_
        have hx13 := e15 d15_
        subst hx13
        have hE3 := hE.trans hN
        clear e10 e11 e12 e13 e14 e15
        refine condV (fun hb => ?_) (fun hb => ?_)
        · have hFo : F o facts[k] = bodyS c0.head facts gs o r.2 := by rw [hF2, ← hr, if_pos hb]
          rw [hFo]
          refine r_loadW hI 0 ag_iClause rfl rfl ?_
          refine r_add (by omega) ?_
          have hst2 : StF r.2 := by rw [hr]; exact (goal_match hg hfk hst).1
          have hc2 : covers c0.head gs r.2 := by rw [hr]; exact covers_step hc hg hfk hst (by rw [← hr]; exact hb)
          refine Run.call0E fn_s_l16Body nm_s_l16Body hI (ih (i + 1) (by omega) hge.2 SN _ t0 _ _ o r.2 (h0.mono hE3.1) (hv'.monoT hN.1) (hf.monoT hE3.1) hx12 hst2 hc2 hoo hno) fun v' I' S2 w' => ?_
          rintro ⟨rfl, hr2⟩ hE4 hI
          exact ⟨S2, hE3.trans hE4, hr2, hI.pick [true]⟩
        · have hFo : F o facts[k] = o := by rw [hF2, ← hr, if_neg (by rw [hb]; decide)]
          rw [hFo]
          exact ⟨SN, hE3, hv'.monoT hN.1, hI⟩
      intro t0' _ _ _ _ _ _ _ _ _ _ _ _ _ _ _ _ _ _ _ _ _ _ _ _ w'
      rintro ⟨S2, hE2, hv2, hI⟩
      refine r_add (by omega) ?_
      have hFo := hF2 o facts[k]
      refine ⟨⟨k + 1, _, S2, hk', rfl, hrel, ?_, ?_, hE2, hv2, hI⟩, by simp [intOf]; omega⟩
      · rw [hFo]; exact hso.1
      · rw [hFo]; exact hso.2
    · have : k = facts.length := by omega
      subst this
      rw [List.drop_length, List.foldl_nil] at hrel
      rw [← hrel]
      exact ⟨_, _, _, rfl, hI.pick [false], hE, rfl, hv'⟩
end

end Go.Proofs.Ytgdibnmabnimaaa

/- spec.ModelClosed. -/
namespace Go.Proofs.Ytgdibnmabnimaaa
open Go Go.RowKit
theorem shape_own {t : T} {d : Int} (h : shapeT t d = true) : ownB t = true ∧ shapeL t.kids (d - 1) = true := by
  cases t
  rw [shapeT] at h
  split at h
  · cases h
  · rw [Bool.and_eq_true] at h
    exact h
theorem shapeL_mem : ∀ {ts : List T} {d : Int}, shapeL ts d = true → ∀ t ∈ ts, shapeT t d = true
  | [], _, _, t, ht => by cases ht
  | x :: ts, d, h, t, ht => by
    rw [shapeL, Bool.and_eq_true] at h
    rcases List.mem_cons.1 ht with rfl | ht
    · exact h.1
    · exact shapeL_mem h.2 t ht
theorem flat_Gl {t : T} (hv : validB t = true) (hf : flatT t = true) : Gl t := by
  rw [flatT, Bool.and_eq_true, List.all_eq_true] at hf
  obtain ⟨hk, hp⟩ := hf
  rw [plainB, Bool.and_eq_true, decide_eq_true_eq] at hp
  obtain ⟨h1, h2⟩ := shape_own (valid_shape hv)
  refine ⟨hp.1, h1, fun y hy => ⟨(shape_own (shapeL_mem h2 y hy)).1, ?_⟩⟩
  have := hk y hy
  rw [noKids, decide_eq_true_eq] at this
  exact List.eq_nil_of_length_eq_zero this
theorem addI_src {l : List Int} {n m : Int} (h : m ∈ addI l n) : m ∈ l ∨ m = n := by
  unfold addI at h
  split at h
  · exact .inl h
  · simpa using h
theorem varsT_def (t : T) (l : List Int) : varsT t l = varsL t.kids (if t.kind = 1 then addI l t.n else l) := by cases t; rw [varsT]; rfl
theorem varsL_leaf : ∀ (ks : List T) (l : List Int), (∀ y ∈ ks, y.kids = []) → ∀ n, n ∈ varsL ks l ↔ n ∈ l ∨ ∃ z ∈ ks, z.kind = 1 ∧ z.n = n
  | [], l, _, n => by simp [varsL]
  | k :: ks, l, hk, n => by
    rw [varsL, varsL_leaf ks _ (fun y hy => hk y (List.mem_cons_of_mem _ hy)), varsT_def, hk k (List.mem_cons_self ..), varsL]
    have hsrc : (n ∈ if k.kind = 1 then addI l k.n else l) ↔ n ∈ l ∨ (k.kind = 1 ∧ k.n = n) := by
      split
      · rename_i h
        constructor
        · intro hm
          rcases addI_src hm with h1 | h1
          · exact .inl h1
          · exact .inr ⟨h, h1.symm⟩
        · rintro (h1 | ⟨_, rfl⟩)
          · exact (show ∀ m ∈ l, m ∈ addI l k.n from fun m hm => by unfold addI; split; exact hm; simp [hm]) n h1
          · unfold addI
            split
            · rename_i h2
              simpa [hasI] using h2
            · simp
      · rename_i h
        exact ⟨.inl, fun h1 => h1.elim id fun h2 => absurd h2.1 h⟩
    rw [hsrc]
    constructor
    · rintro ((h | ⟨h1, h2⟩) | ⟨z, hz, h⟩)
      · exact .inl h
      · exact .inr ⟨k, List.mem_cons_self .., h1, h2⟩
      · exact .inr ⟨z, List.mem_cons_of_mem _ hz, h⟩
    · rintro (h | ⟨z, hz, h⟩)
      · exact .inl (.inl h)
      · rcases List.mem_cons.1 hz with rfl | hz
        · exact .inl (.inr h)
        · exact .inr ⟨z, hz, h⟩
theorem varsT_Gl {g : T} (h : Gl g) (l : List Int) (n : Int) : n ∈ varsT g l ↔ n ∈ l ∨ ∃ z ∈ g.kids, z.kind = 1 ∧ z.n = n := by
  rw [varsT_def, if_neg (by have := h.1; omega)]
  exact varsL_leaf g.kids l (fun y hy => (h.2.2 y hy).2) n
theorem varsL_Gl : ∀ (gs : List T) (l : List Int), (∀ g ∈ gs, Gl g) → ∀ n, n ∈ varsL gs l → n ∈ l ∨ ∃ g ∈ gs, ∃ z ∈ g.kids, z.kind = 1 ∧ z.n = n
  | [], l, _, n, h => .inl h
  | g :: gs, l, hg, n, h => by
    rw [varsL] at h
    rcases varsL_Gl gs _ (fun x hx => hg x (List.mem_cons_of_mem _ hx)) n h with h | ⟨x, hx, h⟩
    · rcases (varsT_Gl (hg g (List.mem_cons_self ..)) l n).1 h with h | h
      · exact .inl h
      · exact .inr ⟨g, List.mem_cons_self .., h⟩
    · exact .inr ⟨x, List.mem_cons_of_mem _ hx, h⟩
theorem flat_parts {c : C} (hv : clauseB c = true) (hf : flatC c = true) : Gl c.head ∧ (∀ g ∈ c.body, Gl g) ∧ covers c.head c.body st0 := by
  rw [clauseB] at hv
  simp only [Bool.and_eq_true, List.all_eq_true] at hv
  rw [flatC] at hf
  simp only [Bool.and_eq_true, List.all_eq_true] at hf
  have hb : ∀ g ∈ c.body, Gl g := fun g hg => by
    have h1 := hv.2.1 g hg
    rw [goalB, Bool.and_eq_true] at h1
    exact flat_Gl h1.1 (hf.2.2.1 g hg)
  have hh := flat_Gl hv.2.2.1 hf.1
  refine ⟨hh, hb, fun y hy hk => ?_⟩
  right
  have h1 := hf.2.2.2 y.n ((varsT_Gl hh [] y.n).2 (.inr ⟨y, hy, hk, rfl⟩))
  have h2 : y.n ∈ varsL c.body [] := by simpa [hasI] using h1
  rcases varsL_Gl c.body [] hb y.n h2 with h | h
  · cases h
  · exact h
theorem flatP_parts {p : List C} (h : flatP p = true) : ∀ c ∈ p, Gl c.head ∧ (∀ g ∈ c.body, Gl g) ∧ covers c.head c.body st0 := by
  intro c hc
  rw [flatP, Bool.and_eq_true, List.all_eq_true] at h
  have h1 := h.1
  rw [progB] at h1
  simp only [Bool.and_eq_true, List.all_eq_true] at h1
  exact flat_parts (h1.2 c hc) (h.2 c hc)
/- facts -/
def factB (t : T) : Bool := validB t && (flatT t && decide ((varsT t []).length = 0))
theorem factB_Fct {t : T} (h : factB t = true) : Fct t := by
  rw [factB] at h
  simp only [Bool.and_eq_true, decide_eq_true_eq] at h
  have hg := flat_Gl h.1 h.2.1
  refine ⟨hg.1, hg.2.1, fun y hy => ⟨(hg.2.2 y hy).1, (hg.2.2 y hy).2, fun hk => ?_⟩⟩
  have h1 := (varsT_Gl hg [] y.n).2 (.inr ⟨y, hy, hk, rfl⟩)
  rw [List.eq_nil_of_length_eq_zero h.2.2] at h1
  cases h1
def factsB (l : List T) : Bool := l.all factB && decide (l.length ≤ 60)
theorem factsB_Fct {l : List T} (h : factsB l = true) : (∀ f ∈ l, Fct f) ∧ l.length ≤ 60 := by
  rw [factsB, Bool.and_eq_true, List.all_eq_true, decide_eq_true_eq] at h
  exact ⟨fun f hf => factB_Fct (h.1 f hf), h.2⟩
def closedC (facts : List T) (c : C) : Bool := (follL c.head facts c.body st0).all (hasT facts)
def modelB (p : List C) (facts : List T) : Bool := flatP p && (factsB facts && p.all (closedC facts))
theorem body_closed {c : C} {facts : List T} (hg : Gl c.head ∧ (∀ g ∈ c.body, Gl g) ∧ covers c.head c.body st0) (hf : factsB facts = true) : (bodyS c.head facts c.body [] st0).all (hasT facts) = closedC facts c := by
  obtain ⟨h1, h2⟩ := factsB_Fct hf
  rw [body_foll, closedC]
  exact closed_eq h2 fun x hx => (foll_Fct hg.1 h1 c.body st0 hg.2.1 st0_F hg.2.2 x hx).ok.2.2.1
section
attribute [local irreducible] Run CondV GuardV LoadV
theorem l16Facts_calls {l : List T} {S : Store} {v : Value} (h : RdSl S 4 (RdT S) v l) (hw : wL l ≤ 1048576) : Pure Try.prog n_s_l16Facts [v] S (.bool (factsB l)) := by
  intro w hI
  have hlen := h.le
  simp only [maxLen] at hlen
  refine calls_s_l16Facts ?_
  unfold sh_s_l16Facts
  refine ⟨fun i w' => ∃ j : Nat, j ≤ l.length ∧ i = .int .i64 j ∧ (l.drop j).all factB = l.all factB ∧ Inv w [] [] S w', fun i _ => l.length - (intOf i).toNat, ⟨0, Nat.zero_le _, rfl, rfl, hI⟩, ?_⟩
  intro t3 _ _ _ _ _ _ _ _ _ _ _ _ _ _ _ _ _ _ _ _ _ _ _ _ _ _ _ _ _ _ w'
  rintro ⟨j, hj, rfl, hall, hI⟩
  refine r_lenSl h sl_SiTerm ?_
  refine r_lss ?_
  refine condP (fun hji => ?_) (fun hji => ?_)
  · have hj' : j < l.length := by omega
    have hstep := all_drop factB l j hj'
    have hwm := wL_mem (List.getElem_mem hj')
    have hcn := cnt_wT l[j]
    refine ⟨fun t w' => t = .bool (!factB l[j]) ∧ Inv w [] [] S w', ?_, ?_⟩
    · refine r_elem hI h sl_SiTerm ag_iTerm hj' (fun _ _ => RdT.length) fun cs hcs => ?_
      refine Run.callPure fn_s_TermValid nm_s_TermValid hI (sTermValid_calls hcs (by omega)) fun w' hI => ?_
      refine r_not ?_
      rw [factB]
      cases hv : validB l[j]
      · repeat (first | refine guard_true ?_ | refine guard_ne (by decide) ?_ | refine guard_undef ?_ | refine r_pickT ?_ | refine r_pickF ?_)
        exact ⟨rfl, hI⟩
      · repeat (first | refine guard_true ?_ | refine guard_ne (by decide) ?_ | refine guard_undef ?_ | refine r_pickT ?_ | refine r_pickF ?_)
        refine r_elem hI h sl_SiTerm ag_iTerm hj' (fun _ _ => RdT.length) fun cs hcs => ?_
        refine Run.callPure fn_s_l16Flat nm_s_l16Flat hI (l16Flat_calls hcs) fun w' hI => ?_
        refine r_not ?_
        cases hf : flatT l[j]
        · repeat (first | refine guard_true ?_ | refine guard_ne (by decide) ?_ | refine guard_undef ?_ | refine r_pickT ?_ | refine r_pickF ?_)
          exact ⟨rfl, hI⟩
        · repeat (first | refine guard_true ?_ | refine guard_ne (by decide) ?_ | refine guard_undef ?_ | refine r_pickT ?_ | refine r_pickF ?_)
          refine r_elem hI h sl_SiTerm ag_iTerm hj' (fun _ _ => RdT.length) fun cs hcs => ?_
          have hI := hI.rowNil t_int 1
          refine Run.call (A := []) fn_s_l1Vars nm_s_l1Vars hI (l1Vars_calls _ S cs (.slice none 0 0) [] hcs (by simp only [List.length_nil]; omega)) fun v' I' S' w' => ?_
          rintro ⟨rfl, rfl⟩ _ hI
          rw [vars_eqT _ 30 _ (valid_shape hv)] at hI
          obtain ⟨S1, hle1, hrd, hI, _⟩ := Inv.lend (A := []) hI
          refine r_lenSl hrd.ints sl_Sint ?_
          refine r_gtr ?_
          repeat (first | refine guard_true ?_ | refine guard_ne (by decide) ?_ | refine guard_undef ?_ | refine r_pickT ?_ | refine r_pickF ?_)
          refine ⟨?_, hI.less hle1⟩
          congr 1
          by_cases h0 : (varsT l[j] []).length = 0
          · rw [decide_eq_true h0, decide_eq_false (by omega)]; rfl
          · rw [decide_eq_false h0, decide_eq_true (by omega)]; rfl
    intro t _ _ _ _ _ _ _ _ _ _ _ _ _ _ _ _ _ _ _ _ _ _ w'
    rintro ⟨rfl, hI⟩
    refine condV (fun hne => done hI ?_) (fun he => ?_)
    · have hne' : factB l[j] = false := by simpa using hne
      rw [factsB, ← hall, hstep, hne']; rfl
    · have he' : factB l[j] = true := by simpa using he
      refine r_add (by omega) ?_
      exact ⟨⟨j + 1, hj', rfl, by rw [← hall, hstep, he']; rfl, hI⟩, by simp [intOf]; omega⟩
  · have : j = l.length := by omega
    subst this
    refine r_lenSl h sl_SiTerm ?_
    refine r_leq ?_
    refine done hI ?_
    rw [factsB, ← hall, List.drop_length, List.all_nil, Bool.true_and]
    congr 1
    rw [Bool.eq_iff_iff, decide_eq_true_eq, decide_eq_true_eq]
    omega
theorem s_ModelClosed_calls {p : List C} {facts : List T} {S : Store} {v u : Value} (h : RdSl S 5 (RdC S) v p) (hq : RdSl S 4 (RdT S) u facts) (hw : wP p ≤ 1048576) (hw2 : wL facts ≤ 1048576) :
    Pure Try.prog n_s_ModelClosed [v, u] S (.bool (modelB p facts)) := by
  intro w hI
  have hlen := h.le
  simp only [maxLen] at hlen
  refine calls_s_ModelClosed ?_
  unfold sh_s_ModelClosed
  refine ⟨fun t w' => t = .bool (!(flatP p && factsB facts)) ∧ Inv w [] [] S w', ?_, ?_⟩
  · refine Run.callPure fn_s_FlatProgram nm_s_FlatProgram hI (sFlatProgram_calls h hw) fun w' hI => ?_
    refine r_not ?_
    cases hv : flatP p
    · repeat (first | refine guard_true ?_ | refine guard_ne (by decide) ?_ | refine guard_undef ?_ | refine r_pickT ?_ | refine r_pickF ?_)
      exact ⟨rfl, hI⟩
    · repeat (first | refine guard_true ?_ | refine guard_ne (by decide) ?_ | refine guard_undef ?_ | refine r_pickT ?_ | refine r_pickF ?_)
      refine Run.callPure fn_s_l16Facts nm_s_l16Facts hI (l16Facts_calls hq hw2) fun w' hI => ?_
      refine r_not ?_
      repeat (first | refine guard_true ?_ | refine guard_ne (by decide) ?_ | refine guard_undef ?_ | refine r_pickT ?_ | refine r_pickF ?_)
      exact ⟨rfl, hI⟩
  intro t _ _ _ _ _ _ _ w'
  rintro ⟨rfl, hI⟩
  refine condV (fun hb => done hI ?_) (fun hb => ?_)
  · rw [Bool.not_eq_true'] at hb
    rw [modelB, ← Bool.and_assoc, hb]; rfl
  rw [Bool.not_eq_false', Bool.and_eq_true] at hb
  have hm : modelB p facts = p.all (closedC facts) := by rw [modelB, hb.1, hb.2]; rfl
  have hparts := flatP_parts hb.1
  obtain ⟨hfs, hfl⟩ := factsB_Fct hb.2
  refine ⟨fun i w' => ∃ (j : Nat) (S' : Store), j ≤ p.length ∧ i = .int .i64 j ∧ (p.drop j).all (closedC facts) = p.all (closedC facts) ∧ Ext w.heap.size [] S S' ∧ Inv w [] [] S' w', fun i _ => p.length - (intOf i).toNat, ⟨0, S, Nat.zero_le _, rfl, rfl, Ext.refl _ _ _, hI⟩, ?_⟩
  intro t5 _ _ _ _ _ _ _ _ _ _ _ _ _ _ _ _ _ t6 _ _ _ _ _ _ _ _ _ _ _ _ w'
  rintro ⟨j, S', hj, rfl, hall, hE, hI⟩
  have h' := h.monoC hE.1
  have hq' := hq.monoT hE.1
  refine r_lenSl h' sl_SiClause ?_
  refine r_lss ?_
  refine condP (fun hji => ?_) (fun hji => ?_)
  · have hj' : j < p.length := by omega
    have hstep := all_drop (closedC facts) p j hj'
    have hpj := hparts _ (List.getElem_mem hj')
    have hbc := body_closed hpj hb.2
    obtain ⟨l, hl⟩ : ∃ l, l = bodyS p[j].head facts p[j].body [] st0 := ⟨_, rfl⟩
    have hok := out_ok hpj.1 hfs hpj.2.1 st0_F hpj.2.2 (out := []) (by simp) (by simp)
    rw [← hl] at hbc hok
    obtain ⟨b, o, cap, c, E, fz, rfl, hS, hR⟩ := h'.at_ hj'
    refine ⟨fun D x6 x29 x28 x27 x26 x25 x24 x23 x22 w_ => (D 0 = true → True) ∧ (D 1 = true → x23 = .slice (some ⟨b, o, none⟩) p.length cap) ∧ (D 2 = true → x24 = .int .i64 j) ∧ (D 3 = true → x25 = .pointer (some ⟨b, o + j * 5, none⟩)) ∧ (D 4 = true → x26 = .agg (cellsAt c (o + j * 5) 5).toArray) ∧ (D 5 = true → x27 = u) ∧ (D 6 = true → True) ∧ (D 7 = true → True) ∧ (D 8 = true → True) ∧ ∃ SN, Ext w.heap.size [] S' SN ∧ (D 0 = true → RdSl SN 4 (RdT SN) x22 []) ∧ (D 6 = true → IsKn SN x28 st0) ∧ (D 7 = true → RdSl SN 4 (RdT SN) x29 l) ∧ (D 8 = true → RdSl SN 4 (RdT SN) x6 l) ∧ Inv w [] [] SN w_, ⟨fun h => Bool.noConfusion h, fun h => Bool.noConfusion h, fun h => Bool.noConfusion h, fun h => Bool.noConfusion h, fun h => Bool.noConfusion h, fun h => Bool.noConfusion h, fun h => Bool.noConfusion h, fun h => Bool.noConfusion h, fun h => Bool.noConfusion h, ⟨S', Ext.refl _ _ _, fun h => Bool.noConfusion h, fun h => Bool.noConfusion h, fun h => Bool.noConfusion h, fun h => Bool.noConfusion h, hI.draw⟩⟩, ⟨?_, ?_, ?_, ?_, ?_, ?_, ?_, ?_, ?_, trivial⟩, ?_⟩
    · intro D hD_  x6 x29 x28 x27 x26 x25 x24 x23 x22 w_
      rintro ⟨h0_, h1_, h2_, h3_, h4_, h5_, h6_, h7_, h8_, ⟨SN, hN, e0, e6, e7, e8, hI⟩⟩
      refine r_slice0 hI mk_SiTerm fun v0 w_ hI => ?_
      obtain ⟨SN, hE2, hrd, hI⟩ := Inv.lendExt (A := []) (css := []) hI
      have e6 := fun (e : setD D 0 6 = true) => (e6 e).mono hE2.1
      have e7 := fun (e : setD D 0 7 = true) => (e7 e).monoT hE2.1
      have e8 := fun (e : setD D 0 8 = true) => (e8 e).monoT hE2.1
      have hN := hN.trans hE2
      have e0 := fun (_ : setD D 0 0 = true) => RowRd.rows (Rows.nil 4 (RdT SN)) hrd
      exact ⟨fun _ => by first | assumption | trivial, h1_, h2_, h3_, h4_, h5_, h6_, h7_, h8_, ⟨SN, hN, e0, e6, e7, e8, hI⟩⟩
    · intro D hD_  x6 x29 x28 x27 x26 x25 x24 x23 x22 w_
      rintro ⟨h0_, h1_, h2_, h3_, h4_, h5_, h6_, h7_, h8_, ⟨SN, hN, e0, e6, e7, e8, hI⟩⟩
      exact ⟨h0_, fun _ => rfl, h2_, h3_, h4_, h5_, h6_, h7_, h8_, ⟨SN, hN, e0, e6, e7, e8, hI⟩⟩
    · intro D hD_  x6 x29 x28 x27 x26 x25 x24 x23 x22 w_
      rintro ⟨h0_, h1_, h2_, h3_, h4_, h5_, h6_, h7_, h8_, ⟨SN, hN, e0, e6, e7, e8, hI⟩⟩
      exact ⟨h0_, h1_, fun _ => rfl, h3_, h4_, h5_, h6_, h7_, h8_, ⟨SN, hN, e0, e6, e7, e8, hI⟩⟩
    · intro D hD_ d1_0 d2_1 x6 x29 x28 x27 x26 x25 x24 x23 x22 w_
      rintro ⟨h0_, h1_, h2_, h3_, h4_, h5_, h6_, h7_, h8_, ⟨SN, hN, e0, e6, e7, e8, hI⟩⟩
      obtain rfl := h1_ d1_0
      obtain rfl := h2_ d2_1
      refine r_indexAddr sl_SiClause hj' ?_
      exact ⟨h0_, h1_, h2_, fun _ => rfl, h4_, h5_, h6_, h7_, h8_, ⟨SN, hN, e0, e6, e7, e8, hI⟩⟩
    · intro D hD_ d3_0 x6 x29 x28 x27 x26 x25 x24 x23 x22 w_
      rintro ⟨h0_, h1_, h2_, h3_, h4_, h5_, h6_, h7_, h8_, ⟨SN, hN, e0, e6, e7, e8, hI⟩⟩
      obtain rfl := h3_ d3_0
      refine r_loadA ag_iClause hR.length (fun j v hj => by rw [hI.cellS (hN.1 _ _ hS)]; exact cellsAt_get rfl j v hj) ?_
      exact ⟨h0_, h1_, h2_, h3_, fun _ => rfl, h5_, h6_, h7_, h8_, ⟨SN, hN, e0, e6, e7, e8, hI⟩⟩
    · intro D hD_  x6 x29 x28 x27 x26 x25 x24 x23 x22 w_
      rintro ⟨h0_, h1_, h2_, h3_, h4_, h5_, h6_, h7_, h8_, ⟨SN, hN, e0, e6, e7, e8, hI⟩⟩
      exact ⟨h0_, h1_, h2_, h3_, h4_, fun _ => rfl, h6_, h7_, h8_, ⟨SN, hN, e0, e6, e7, e8, hI⟩⟩
    · intro D hD_  x6 x29 x28 x27 x26 x25 x24 x23 x22 w_
      rintro ⟨h0_, h1_, h2_, h3_, h4_, h5_, h6_, h7_, h8_, ⟨SN, hN, e0, e6, e7, e8, hI⟩⟩
      refine r_makeSliceZ (n := 26) hI mk_SiTerm (by omega) (by omega) (by omega) fun kb w_ hI => ?_
      have hkc0 := noTable _ rfl SN
      obtain ⟨kc, hkce⟩ : ∃ kc, kc = (Array.range 104).map ((#[.int .i64 0, .int .i64 0, .string ⟨#[]⟩, .slice none 0 0] : Array Value)[· % (#[.int .i64 0, .int .i64 0, .string ⟨#[]⟩, .slice none 0 0] : Array Value).size]!) := ⟨_, rfl⟩
      rw [← hkce] at hkc0
      have hI : Inv w [] ([] ++ blks [(kb, .cells kc t_iTerm)]) SN w_ := by rw [hkce]; exact hI
      obtain ⟨SN, hI, hE2, hins⟩ := hI.pubExt
      have e0 := fun (e : setD D 6 0 = true) => (e0 e).monoT hE2.1
      have e7 := fun (e : setD D 6 7 = true) => (e7 e).monoT hE2.1
      have e8 := fun (e : setD D 6 8 = true) => (e8 e).monoT hE2.1
      have hN := hN.trans hE2
      have e6 := fun (_ : setD D 6 6 = true) => (⟨kb, 26, kc, rfl, Nat.le_refl _, by simp [maxLen], hins _ (List.mem_singleton.2 rfl), hkc0.mono hE2.1⟩ : IsKn SN (kvn kb 26) st0)
      exact ⟨h0_, h1_, h2_, h3_, h4_, h5_, fun _ => by first | assumption | trivial, h7_, h8_, ⟨SN, hN, e0, e6, e7, e8, hI⟩⟩
    · intro D hD_ d0_0 d4_1 d5_2 d6_3 x6 x29 x28 x27 x26 x25 x24 x23 x22 w_
      rintro ⟨h0_, h1_, h2_, h3_, h4_, h5_, h6_, h7_, h8_, ⟨SN, hN, e0, e6, e7, e8, hI⟩⟩
      have g0_ := h0_ d0_0
      obtain rfl := h4_ d4_1
      obtain rfl := h5_ d5_2
      have g6_ := h6_ d6_3
      refine Run.call0E fn_s_l16Body nm_s_l16Body hI (l16Body_calls p[j] facts hpj.1 hfs hpj.2.1 p[j].body 0 (by simp) rfl SN _ _ _ _ [] st0 (hR.mono hN.1) (e0 d0_0) (hq'.monoT hN.1) (e6 d6_3) st0_F hpj.2.2 (by simp) (by simp)) fun v' I' SN w_ => ?_
      rw [← hl]
      rintro ⟨rfl, hr⟩ hE2 hI
      have e0 := fun (e : setD D 7 0 = true) => (e0 e).monoT hE2.1
      have e6 := fun (e : setD D 7 6 = true) => (e6 e).mono hE2.1
      have e8 := fun (e : setD D 7 8 = true) => (e8 e).monoT hE2.1
      have hN := hN.trans hE2
      have e7 := fun (_ : setD D 7 7 = true) => hr
      exact ⟨h0_, h1_, h2_, h3_, h4_, h5_, h6_, fun _ => by first | assumption | trivial, h8_, ⟨SN, hN, e0, e6, e7, e8, hI⟩⟩
    · intro D hD_ d7_0 d7_1 d0_2 d1_3 d2_4 d3_5 d4_6 d5_7 d6_8 d7_9 x6 x29 x28 x27 x26 x25 x24 x23 x22 w_
      rintro ⟨h0_, h1_, h2_, h3_, h4_, h5_, h6_, h7_, h8_, ⟨SN, hN, e0, e6, e7, e8, hI⟩⟩
      have g7_ := h7_ d7_0
      have e8 := fun (_ : setD D 8 8 = true) => e7 d7_0
      exact ⟨h0_, h1_, h2_, h3_, h4_, h5_, h6_, h7_, fun _ => by first | assumption | trivial, ⟨SN, hN, e0, e6, e7, e8, hI⟩⟩
    intro D d8_ d7_ d6_ d5_ d4_ d3_ d2_ d1_ d0_ x6 x29 x28 x27 x26 x25 x24 x23 x22 w_
    rintro ⟨h0_, h1_, h2_, h3_, h4_, h5_, h6_, h7_, h8_, ⟨SN, hN, e0, e6, e7, e8, hI⟩⟩
    have g8_ := h8_ d8_
    have g7_ := h7_ d7_
    have g6_ := h6_ d6_
    obtain rfl := h5_ d5_
    obtain rfl := h4_ d4_
    obtain rfl := h3_ d3_
    obtain rfl := h2_ d2_
    obtain rfl := h1_ d1_
    have g0_ := h0_ d0_
    clear h0_ h1_ h2_ h3_ h4_ h5_ h6_ h7_ h8_
    have hx := e8 d8_
    have hE2 := hE.trans hN
    clear e0 e6 e7 e8
    have hlx := hx.le
    simp only [maxLen] at hlx
    refine ⟨fun i w' => ∃ k : Nat, k ≤ l.length ∧ i = .int .i64 k ∧ (l.drop k).all (hasT facts) = l.all (hasT facts) ∧ Inv w [] [] SN w', fun i _ => l.length - (intOf i).toNat, ⟨0, Nat.zero_le _, rfl, rfl, hI⟩, ?_⟩
    intro t7 _ _ _ _ _ _ _ _ _ _ _ _ _ _ w'
    rintro ⟨k, hk, rfl, hall2, hI⟩
    refine r_lenSl hx sl_SiTerm ?_
    refine r_lss ?_
    refine condP (fun hki => ?_) (fun hki => ?_)
    · have hk' : k < l.length := by omega
      have hstep2 := all_drop (hasT facts) l k hk'
      refine r_elem hI hx sl_SiTerm ag_iTerm hk' (fun _ _ => RdT.length) fun cs hcs => ?_
      refine Run.callPure fn_s_l16Has nm_s_l16Has hI (l16Has_calls (hq'.monoT hN.1) hcs) fun w' hI => ?_
      refine r_not ?_
      refine condV (fun hne => doneS hI hE2.1 ?_) (fun he => ?_)
      · have hne' : hasT facts l[k] = false := by simpa using hne
        rw [hm, ← hall, hstep, ← hbc, ← hall2, hstep2, hne']; rfl
      · have he' : hasT facts l[k] = true := by simpa using he
        refine r_add (by omega) ?_
        exact ⟨⟨k + 1, hk', rfl, by rw [← hall2, hstep2, he']; rfl, hI⟩, by simp [intOf]; omega⟩
    · have : k = l.length := by omega
      subst this
      rw [List.drop_length, List.all_nil] at hall2
      refine r_add (by omega) ?_
      exact ⟨⟨j + 1, SN, hj', rfl, by rw [← hall, hstep, ← hbc, ← hall2]; rfl, hE2, hI⟩, by simp [intOf]; omega⟩
  · have : j = p.length := by omega
    subst this
    exact doneS hI hE.1 (by rw [hm, ← hall, List.drop_length]; rfl)
end

end Go.Proofs.Ytgdibnmabnimaaa

/- impl.follows, with a function that is told the facts. -/
namespace Go.Proofs.Ytgdibnmabnimaaa
open Go Go.RowKit
theorem mapR_full {g : T} {st : Known} (h : Gl g) : mapR (getK st) g = fullS g st := by
  obtain ⟨k, n, s, ks⟩ := g
  obtain ⟨h1, h2, h3⟩ := h
  have hk : k = 3 := h1
  have hn : n = 0 := by
    rcases ownB_okO h2 with h | h
    · have := h.1
      simp only [T.kind] at this
      omega
    · exact h.2
  rw [mapR, if_neg (by omega), fullS, mapRL_map, hn]
  congr 1
  refine List.map_congr_left fun y hy => ?_
  obtain ⟨_, hyk⟩ := h3 y hy
  obtain ⟨k', n', s', ks'⟩ := y
  simp only [T.kids] at hyk
  subst hyk
  rw [mapR, fullK]
  split
  · rename_i hk'
    rw [if_pos (show (T.mk k' n' s' []).kind = 1 from hk')]; rfl
  · rename_i hk'
    rw [if_neg (show ¬ (T.mk k' n' s' []).kind = 1 from hk'), mapRL]
theorem KnownM.mono {S S' : Store} {es : Array MapEntry} {st : Known} (h : KnownM S es st) (hs : Sle S S') : KnownM S' es st :=
  ⟨fun e he => by
    obtain ⟨n, t, cs, h1, h2, h3, h4⟩ := h.1 e he
    exact ⟨n, t, cs, h1, h2, h3.mono hs, h4⟩, h.2⟩
/- a function that is told facts and keeps a state -/
structure Tell (f : FuncId) (fn : Func) (cap : List Value) {σ : Type} (It : σ → List Item → Prop) (step : σ → T → σ) (S0 : Store) : Prop where
  hf : Try.prog.funcs[f]? = some fn
  hn : (fn.name == "runtime.NumGoroutine" || fn.body.isNone) = false
  call : ∀ (S : Store) (s : σ) (x : T) (cs : List Value) (I : List Item), Sle S0 S → Fct x → RdT S cs x → It s I → Tri Try.prog f (.agg cs.toArray :: cap) I S fun r I' _ => r = .tuple #[] ∧ It (step s x) I'
theorem Tell.mono {f : FuncId} {fn : Func} {cap : List Value} {σ : Type} {It : σ → List Item → Prop} {step : σ → T → σ} {S0 S1 : Store} (h : Tell f fn cap It step S0) (hs : Sle S0 S1) : Tell f fn cap It step S1 :=
  ⟨h.hf, h.hn, fun S s x cs I h1 => h.call S s x cs I (hs.trans h1)⟩
section
attribute [local irreducible] Run CondV GuardV LoadV
theorem follows_1_fun {S : Store} {gb mb ck : Nat} {E : TypeId} {es : Array MapEntry} {st : Known} (hg : S gb = some (.cells #[.map (some mb)] E)) (hm : S mb = some (.map es ck)) (hk : KnownM S es st) : Fun n_i_follows_1 [.pointer (some ⟨gb, 0, none⟩)] S (getK st) := by
  intro S' hs n hn0 hn25
  obtain ⟨m, rfl⟩ : ∃ m : Nat, n = m := ⟨n.toNat, by omega⟩
  have hk' := hk.mono hs
  have hfind : ∃ v cs, v = .agg (List.toArray cs) ∧ RdT S' cs (getK st m) ∧ ((∃ j, Instr.findNow (.int .i64) (.int .i64 m) es.toList 0 = some (some (j, v))) ∨ (Instr.findNow (.int .i64) (.int .i64 m) es.toList 0 = some none ∧ v = .agg #[.int .i64 0, .int .i64 0, .string ⟨#[]⟩, .slice none 0 0])) := by
    rcases hk'.find m with ⟨j, v, t, cs, hf, hv, hR, hs⟩ | ⟨hno, hf⟩
    · refine ⟨v, cs, hv, ?_, .inl ⟨j, hf⟩⟩
      rw [getK, Int.toNat_natCast, hs]
      exact hR
    · refine ⟨_, noCells, rfl, ?_, .inr ⟨hf, rfl⟩⟩
      have e : getK st m = zeroT := by
        rw [getK, Int.toNat_natCast]
        split
        · rename_i t h
          exact absurd h (hno t)
        · rfl
      rw [e]
      exact RdT.zero S'
  obtain ⟨v, cs, rfl, hR, hf⟩ := hfind
  refine ⟨cs, hR, fun w hI => ?_⟩
  refine calls_i_follows_1 ?_
  unfold sh_i_follows_1
  refine r_alloc hI zo_iTerm fun b3 w' hI => ?_
  refine r_load (by decide +kernel) (by rw [hI.cellS (hs _ _ hg)]; rfl) ?_
  refine r_lookupS hI (kt := t_int) (et := t_iTerm) (by kernel_rfl) (by kernel_rfl) (z := .agg #[.int .i64 0, .int .i64 0, .string ⟨#[]⟩, .slice none 0 0]) (by kernel_rfl) (hs _ _ hm) hf ?_
  refine r_storeW hI 0 rfl ag_iTerm (by simpa using hR.length) rfl (by simpa using hR.one) fun w' hI => ?_
  refine loadV_W hI 0 ag_iTerm rfl (by simpa using hR.length) ?_
  exact done hI rfl
theorem follows_calls {f : FuncId} {fn : Func} {cap : List Value} {σ : Type} {It : σ → List Item → Prop} {step : σ → T → σ} (c0 : C) (facts : List T) (hh : Gl c0.head) (hfs : ∀ f ∈ facts, Fct f) (hbs : ∀ g ∈ c0.body, Gl g) :
    ∀ (gs : List T) (i : Nat), i + gs.length = c0.body.length → c0.body.drop i = gs →
    ∀ (S : Store) (cs : List Value) (fsv : Value) (mb ck : Nat) (es : Array MapEntry) (s : σ) (I : List Item) (st : Known), Tell f fn cap It step S → RdC S cs c0 → RdSl S 4 (RdT S) fsv facts → S mb = some (.map es ck) → KnownM S es st → StF st → covers c0.head gs st → It s I →
    Tri Try.prog n_i_follows [.agg cs.toArray, .int .i64 i, fsv, .map (some mb), fv f cap] I S fun r I' _ => r = .tuple #[] ∧ It ((follL c0.head facts gs st).foldl step s) I' := by
  intro gs
  induction gs with
  | nil =>
    intro i hi hdr S cs fsv mb ck es s I st ht h hf hm hk hst hc hIt w hI
    obtain ⟨hd, ks, rfl, h1, h2⟩ := h
    have h1' := h1
    obtain ⟨kv, rfl, g1, g2, g3, g4⟩ := RdT.iff.1 h1
    simp only [List.length_nil, Nat.add_zero] at hi
    refine calls_i_follows ?_
    unfold sh_i_follows
    refine r_box hI fun b5 w' hI => ?_
    obtain ⟨S1, hI, hE1, hb5⟩ := hI.pub1
    refine r_box hI fun b8 w' hI => ?_
    obtain ⟨S2, hI, hE2, hb8⟩ := hI.pub1
    have hE := hE1.trans hE2
    have hb5 := hE2.1 _ _ hb5
    refine r_field fo_iClause_1 ?_
    refine r_load sc_SiTerm (by rw [hI.cellS hb5]; rfl) ?_
    refine r_lenSl (h2.monoT hE.1) sl_SiTerm ?_
    refine r_eql ?_
    refine condP (fun _ => ?_) (fun hb => absurd (by omega) hb)
    refine r_field fo_iClause_0 ?_
    refine r_loadA (cs := [.int .i64 c0.head.kind, .int .i64 c0.head.n, .string c0.head.name, kv]) ag_iTerm rfl (fun j v hj => by rw [hI.cellS hb5]; exact sub4 j v hj) ?_
    refine r_makeFunc ?_
    have hok := hh.ok
    refine Run.callE (A := I) (I := []) fn_i_mapVars nm_i_mapVars (by simpa using hI) (mapR_calls [.pointer (some ⟨b8, 0, none⟩)] (getK st) fn_i_follows_1 nm_i_follows_1 _ S2 _ (h1'.mono hE.1) hok.1 (by omega) (follows_1_fun hb8 (hE.1 _ _ hm) (hk.mono hE.1))) fun v' I' S3 w' => ?_
    rintro ⟨rfl, cs1, rfl, hR⟩ hE3 hI
    rw [mapR_full hh] at hR
    have hct := full_Fct hh hst (fun y hy hk => by
      rcases hc y hy hk with h | ⟨g, hg, _⟩
      · exact h
      · cases hg)
    have hI : Inv w (feet I) ([] ++ I) S3 w' := by simpa using hI
    refine Run.callVE (A := []) ht.hf ht.hn hI (ht.call S3 s _ cs1 I (hE.1.trans hE3.1) hct hR hIt) fun v' I' S4 w' => ?_
    rintro ⟨rfl, hIt'⟩ hE4 hI
    exact ⟨_, _, _, rfl, hI, (hE.trans hE3).trans hE4, rfl, hIt'⟩
  | cons g gs ih =>
    intro i hi hdr S cs fsv mb ck es s I st ht h hf hm hk hst hc hIt w hI
    have h0 := h
    obtain ⟨hd, ks, rfl, h1, h2⟩ := h
    obtain ⟨kv, rfl, g1, g2, g3, g4⟩ := RdT.iff.1 h1
    simp only [List.length_cons] at hi
    have hib : i < c0.body.length := by omega
    have hlen2 := h2.le
    have hlenf := hf.le
    simp only [maxLen] at hlen2 hlenf
    have hge : c0.body[i] = g ∧ c0.body.drop (i + 1) = gs := by
      rw [List.drop_eq_getElem_cons hib, List.cons.injEq] at hdr
      exact hdr
    have hg : Gl g := by rw [← hge.1]; exact hbs _ (List.getElem_mem hib)
    have hgs : ∀ x ∈ gs, Gl x := fun x hx => hbs x (by rw [← hge.2] at hx; exact List.mem_of_mem_drop hx)
    obtain ⟨b1, o1, cap1, c1, E1, fz1, rfl, hS1, hR1⟩ := h2.at_ hib
    rw [hge.1] at hR1
    obtain ⟨X, hX⟩ : ∃ X, X = feet I := ⟨_, rfl⟩
    rw [← hX] at hI ⊢
    refine calls_i_follows ?_
    unfold sh_i_follows
    refine r_box hI fun b5 w' hI => ?_
    obtain ⟨S1, hI, hE1, hb5⟩ := hI.pub1
    refine r_box hI fun b8 w' hI => ?_
    obtain ⟨S2, hI, hE2, hb8⟩ := hI.pub1
    have hE := hE1.trans hE2
    have hb5 := hE2.1 _ _ hb5
    have hb8 : S2 b8 = some (.cells #[.map (some mb)] _) := hb8
    refine r_field fo_iClause_1 ?_
    refine r_load sc_SiTerm (by rw [hI.cellS hb5]; rfl) ?_
    refine r_lenSl (h2.monoT hE.1) sl_SiTerm ?_
    refine r_eql ?_
    refine condP (fun hb => by omega) (fun _ => ?_)
    refine r_lenSl (hf.monoT hE.1) sl_SiTerm ?_
    rw [follL]
    generalize hF : (fun f : T => if (matchT g f st).1 = true then follL c0.head facts gs (matchT g f st).2 else []) = F
    have hF2 : ∀ f, F f = if (matchT g f st).1 = true then follL c0.head facts gs (matchT g f st).2 else [] := fun f => by rw [← hF]
    refine ⟨fun j w' => ∃ (k : Nat) (s' : σ) (I' : List Item) (S' : Store), k ≤ facts.length ∧ j = .int .i64 k ∧ ((facts.drop k).flatMap F).foldl step s' = (facts.flatMap F).foldl step s ∧ It s' I' ∧ Ext w.heap.size X S S' ∧ Sle S2 S' ∧ Inv w X I' S' w',
      fun j _ => facts.length - (intOf j).toNat, ⟨0, s, I, S2, Nat.zero_le _, rfl, rfl, hIt, hE, Sle.refl _, hI⟩, ?_⟩
    intro t26 _ _ _ _ _ _ _ _ _ _ _ _ _ _ _ _ _ _ _ _ _ _ _ w'
    rintro ⟨k, s', I', S', hkl, rfl, hrel, hIt', hE', hle, hI⟩
    refine r_lss ?_
    refine condP (fun hki => ?_) (fun hki => ?_)
    · have hk' : k < facts.length := by omega
      rw [List.drop_eq_getElem_cons hk', List.flatMap_cons, List.foldl_append] at hrel
      have hfk := hfs _ (List.getElem_mem hk')
      refine ⟨fun w' => ∃ (I2 : List Item) (S2 : Store), It ((F facts[k]).foldl step s') I2 ∧ Ext w.heap.size X S' S2 ∧ Inv w X I2 S2 w', ?_, ?_⟩
      · refine r_elem hI (hf.monoT hE'.1) sl_SiTerm ag_iTerm hk' (fun _ _ => RdT.length) fun ds hds => ?_
        refine r_alloc hI zo_iTerm fun b11 w' hI => ?_
        have hI := hI.perm (M := .blk b11 _ :: I') (List.perm_append_comm (l₁ := [_]))
        refine r_storeW hI 0 rfl ag_iTerm (by simpa using hds.length) rfl (by simpa using hds.one) fun w' hI => ?_
        have hI := hI.perm (M := I' ++ [.blk b11 (.cells ds.toArray t_iTerm)]) (List.perm_append_comm (l₂ := [_]))
        obtain ⟨S3, hI, hE3, hb11⟩ := hI.pub1
        refine r_load (by decide +kernel) (by rw [hI.cellS (hE3.1 _ _ (hle _ _ hb8))]; rfl) ?_
        refine Run.callE (A := I') (I := []) fn_x_mClone_Term nm_x_mClone_Term (by simpa using hI) (mClone_calls (hE3.1 _ _ (hE'.1 _ _ hm))) fun v' J' S4 w' => ?_
        rintro ⟨e4, nb, rfl, rfl⟩ _ hI
        rw [e4] at hI
        clear e4
        have hk3 := (hk.mono hE'.1).mono hE3.1
        have hds3 := hds.mono hE3.1
        have hS1' := hE3.1 _ _ (hE'.1 _ _ hS1)
        have hR1' := (hR1.mono hE'.1).mono hE3.1
        obtain ⟨r, hr⟩ : ∃ r, r = matchT g facts[k] st := ⟨_, rfl⟩
        have hb5' := hE3.1 _ _ (hle _ _ hb5)
        refine ⟨fun D x39 x38 x37 x36 x35 x34 x33 x32 w_ => (D 0 = true → x32 = .agg ds.toArray) ∧ (D 1 = true → x33 = .pointer (some ⟨b5, 4, none⟩)) ∧ (D 2 = true → x34 = .slice (some ⟨b1, o1, none⟩) c0.body.length cap1) ∧ (D 3 = true → x35 = .int .i64 i) ∧ (D 4 = true → x36 = .pointer (some ⟨b1, o1 + i * 4, none⟩)) ∧ (D 5 = true → x37 = .agg (cellsAt c1 (o1 + i * 4) 4).toArray) ∧ (D 6 = true → x38 = .map (some nb)) ∧ (D 7 = true → x39 = .bool r.1) ∧ ∃ es' ck', (D 7 = false → KnownM S3 es' st) ∧ (D 7 = true → KnownM S3 es' r.2) ∧ Inv w X (I' ++ [.blk nb (.map es' ck')]) S3 w_, ⟨fun h => Bool.noConfusion h, fun h => Bool.noConfusion h, fun h => Bool.noConfusion h, fun h => Bool.noConfusion h, fun h => Bool.noConfusion h, fun h => Bool.noConfusion h, fun h => Bool.noConfusion h, fun h => Bool.noConfusion h, ⟨es, ck, fun _ => hk3, fun h => Bool.noConfusion h, hI.draw⟩⟩, ⟨?_, ?_, ?_, ?_, ?_, ?_, ?_, ?_, trivial⟩, ?_⟩
        · intro D hD_  x39 x38 x37 x36 x35 x34 x33 x32 w_
          rintro ⟨h0_, h1_, h2_, h3_, h4_, h5_, h6_, h7_, ⟨es', ck', kf, kt, hI⟩⟩
          refine r_loadA (cs := ds) ag_iTerm hds.length (fun j v hj => by rw [hI.cellS hb11, Nat.zero_add]; simpa using hj) ?_
          exact ⟨fun _ => rfl, h1_, h2_, h3_, h4_, h5_, h6_, h7_, ⟨es', ck', kf, kt, hI⟩⟩
        · intro D hD_  x39 x38 x37 x36 x35 x34 x33 x32 w_
          rintro ⟨h0_, h1_, h2_, h3_, h4_, h5_, h6_, h7_, ⟨es', ck', kf, kt, hI⟩⟩
          refine r_field fo_iClause_1 ?_
          exact ⟨h0_, fun _ => rfl, h2_, h3_, h4_, h5_, h6_, h7_, ⟨es', ck', kf, kt, hI⟩⟩
        · intro D hD_ d1_0 x39 x38 x37 x36 x35 x34 x33 x32 w_
          rintro ⟨h0_, h1_, h2_, h3_, h4_, h5_, h6_, h7_, ⟨es', ck', kf, kt, hI⟩⟩
          obtain rfl := h1_ d1_0
          refine r_load sc_SiTerm (by rw [hI.cellS hb5']; rfl) ?_
          exact ⟨h0_, h1_, fun _ => rfl, h3_, h4_, h5_, h6_, h7_, ⟨es', ck', kf, kt, hI⟩⟩
        · intro D hD_  x39 x38 x37 x36 x35 x34 x33 x32 w_
          rintro ⟨h0_, h1_, h2_, h3_, h4_, h5_, h6_, h7_, ⟨es', ck', kf, kt, hI⟩⟩
          exact ⟨h0_, h1_, h2_, fun _ => rfl, h4_, h5_, h6_, h7_, ⟨es', ck', kf, kt, hI⟩⟩
        · intro D hD_ d2_0 d3_1 x39 x38 x37 x36 x35 x34 x33 x32 w_
          rintro ⟨h0_, h1_, h2_, h3_, h4_, h5_, h6_, h7_, ⟨es', ck', kf, kt, hI⟩⟩
          obtain rfl := h2_ d2_0
          obtain rfl := h3_ d3_1
          refine r_indexAddr sl_SiTerm hib ?_
          exact ⟨h0_, h1_, h2_, h3_, fun _ => rfl, h5_, h6_, h7_, ⟨es', ck', kf, kt, hI⟩⟩
        · intro D hD_ d4_0 x39 x38 x37 x36 x35 x34 x33 x32 w_
          rintro ⟨h0_, h1_, h2_, h3_, h4_, h5_, h6_, h7_, ⟨es', ck', kf, kt, hI⟩⟩
          obtain rfl := h4_ d4_0
          refine r_loadA ag_iTerm hR1'.length (fun j v hj => by rw [hI.cellS hS1']; exact cellsAt_get rfl j v hj) ?_
          exact ⟨h0_, h1_, h2_, h3_, h4_, fun _ => rfl, h6_, h7_, ⟨es', ck', kf, kt, hI⟩⟩
        · intro D hD_  x39 x38 x37 x36 x35 x34 x33 x32 w_
          rintro ⟨h0_, h1_, h2_, h3_, h4_, h5_, h6_, h7_, ⟨es', ck', kf, kt, hI⟩⟩
          exact ⟨h0_, h1_, h2_, h3_, h4_, h5_, fun _ => rfl, h7_, ⟨es', ck', kf, kt, hI⟩⟩
        · intro D hD_ d0_0 d5_1 d6_2 x39 x38 x37 x36 x35 x34 x33 x32 w_
          rintro ⟨h0_, h1_, h2_, h3_, h4_, h5_, h6_, h7_, ⟨es', ck', kf, kt, hI⟩⟩
          obtain rfl := h0_ d0_0
          obtain rfl := h5_ d5_1
          obtain rfl := h6_ d6_2
          refine Run.callE (A := I') fn_i_instance nm_i_instance hI (instance_calls g facts[k] S3 _ _ nb ck' es' st hR1' hds3 hg.ok.1 hfk.ok.2.1 hst.ok.1 (kf hD_)) fun v' J' S5 w_ => ?_
          rw [← hr]
          rintro ⟨e5, rfl, es', ck', rfl, hk2⟩ _ hI
          rw [e5] at hI
          clear e5
          have kf := fun (e : setD D 7 7 = false) => (Bool.noConfusion e : KnownM S3 es' st)
          have kt := fun (_ : setD D 7 7 = true) => hk2
          exact ⟨h0_, h1_, h2_, h3_, h4_, h5_, h6_, fun _ => rfl, ⟨es', ck', kf, kt, hI⟩⟩
        intro D d7_ d6_ d5_ d4_ d3_ d2_ d1_ d0_ x39 x38 x37 x36 x35 x34 x33 x32 w_
        rintro ⟨h0_, h1_, h2_, h3_, h4_, h5_, h6_, h7_, ⟨es', ck', kf, kt, hI⟩⟩
        obtain rfl := h7_ d7_
        obtain rfl := h6_ d6_
        obtain rfl := h5_ d5_
        obtain rfl := h4_ d4_
        obtain rfl := h3_ d3_
        obtain rfl := h2_ d2_
        obtain rfl := h1_ d1_
        obtain rfl := h0_ d0_
        clear h0_ h1_ h2_ h3_ h4_ h5_ h6_ h7_
        have hk2 := kt d7_
        clear kf kt
        refine condV (fun hb => ?_) (fun hb => ?_)
        · have hFo : F facts[k] = follL c0.head facts gs r.2 := by rw [hF2, ← hr, if_pos hb]
          rw [hFo]
          obtain ⟨S5, hI, hE5, hnb⟩ := hI.pub1
          have hEa := hE3.trans hE5
          refine r_loadA (cs := [.int .i64 c0.head.kind, .int .i64 c0.head.n, .string c0.head.name, kv, .slice (some ⟨b1, o1, none⟩) c0.body.length cap1]) ag_iClause rfl (fun j v hj => by rw [hI.cellS (hE5.1 _ _ hb5'), Nat.zero_add]; simpa [Value.cells] using hj) ?_
          refine r_add (by omega) ?_
          have hst2 : StF r.2 := by rw [hr]; exact (goal_match hg hfk hst).1
          have hc2 : covers c0.head gs r.2 := by rw [hr]; exact covers_step hc hg hfk hst (by rw [← hr]; exact hb)
          have hSa := hE'.1.trans hEa.1
          have hI : Inv w X ([] ++ I') S5 w_ := hI
          refine Run.callE (A := []) fn_i_follows nm_i_follows hI (ih (i + 1) (by omega) hge.2 S5 _ _ nb _ _ s' I' r.2 (ht.mono hSa) (h0.mono hSa) (hf.monoT hSa) hnb (hk2.mono hE5.1) hst2 hc2 hIt') fun v' J' S6 w' => ?_
          rintro ⟨rfl, hIt2⟩ hE6 hI
          exact ⟨_, S6, hIt2, hEa.trans hE6, hI⟩
        · have hFo : F facts[k] = [] := by rw [hF2, ← hr, if_neg (by rw [hb]; decide)]
          rw [hFo]
          exact ⟨_, S3, hIt', hE3, hI.sub (List.sublist_append_left _ _)⟩
      intro _ _ _ _ _ _ _ _ _ _ _ _ _ _ _ _ _ _ _ _ _ w'
      rintro ⟨I2, S5, hIt2, hE5, hI⟩
      refine r_add (by omega) ?_
      exact ⟨⟨k + 1, _, I2, S5, hk', rfl, hrel, hIt2, hE'.trans hE5, hle.trans hE5.1, hI⟩, by simp [intOf]; omega⟩
    · have : k = facts.length := by omega
      subst this
      rw [List.drop_length] at hrel
      simp only [List.flatMap_nil, List.foldl_nil] at hrel
      rw [← hrel]
      exact ⟨_, _, _, rfl, hI, hE', rfl, hIt'⟩
end

end Go.Proofs.Ytgdibnmabnimaaa

/- impl.ModelClosed. -/
namespace Go.Proofs.Ytgdibnmabnimaaa
open Go Go.RowKit
theorem fold_and (q : T → Bool) : ∀ (l : List T) (s : Bool), l.foldl (fun s x => s && q x) s = (s && l.all q)
  | [], s => by simp
  | x :: l, s => by rw [List.foldl_cons, fold_and q l, List.all_cons, Bool.and_assoc]
section
attribute [local irreducible] Run CondV GuardV LoadV
theorem isFact_calls {t : T} {S : Store} {cs : List Value} (h : RdT S cs t) (hw : wT t ≤ 1048576) : Pure Try.prog n_i_isFact [.agg cs.toArray] S (.bool (factB t)) := by
  intro w hI
  have hlc := h.length
  have hcn := cnt_wT t
  refine calls_i_isFact ?_
  unfold sh_i_isFact
  refine r_box hI fun b1 w' hI => ?_
  refine r_loadW hI 0 ag_iTerm rfl (by simpa [Value.cells] using hlc) ?_
  refine Run.callPure fn_i_TermValid nm_i_TermValid hI (iTermValid_calls h) fun w' hI => ?_
  rw [factB]
  cases hv : validB t
  · repeat (first | refine guard_true ?_ | refine guard_ne (by decide) ?_ | refine guard_undef ?_ | refine r_pickT ?_ | refine r_pickF ?_)
    exact done hI rfl
  · repeat (first | refine guard_true ?_ | refine guard_ne (by decide) ?_ | refine guard_undef ?_ | refine r_pickT ?_ | refine r_pickF ?_)
    refine r_loadW hI 0 ag_iTerm rfl (by simpa [Value.cells] using hlc) ?_
    refine Run.callPure fn_i_isFlat nm_i_isFlat hI (isFlat_calls h) fun w' hI => ?_
    cases hf : flatT t
    · repeat (first | refine guard_true ?_ | refine guard_ne (by decide) ?_ | refine guard_undef ?_ | refine r_pickT ?_ | refine r_pickF ?_)
      exact done hI rfl
    · repeat (first | refine guard_true ?_ | refine guard_ne (by decide) ?_ | refine guard_undef ?_ | refine r_pickT ?_ | refine r_pickF ?_)
      refine r_loadW hI 0 ag_iTerm rfl (by simpa [Value.cells] using hlc) ?_
      have hI := hI.rowNil t_int 1
      refine Run.call (A := [_]) fn_i_addVars nm_i_addVars hI (addVars_calls _ S cs (.slice none 0 0) [] h (by simp only [List.length_nil]; omega)) fun v' I' S' w' => ?_
      rintro ⟨rfl, rfl⟩ _ hI
      obtain ⟨S1, hle1, hrd, hI, _⟩ := Inv.lend (A := [_]) hI
      refine r_lenSl hrd.ints sl_Sint ?_
      refine r_eql ?_
      repeat (first | refine guard_true ?_ | refine guard_ne (by decide) ?_ | refine guard_undef ?_ | refine r_pickT ?_ | refine r_pickF ?_)
      refine doneS hI hle1 ?_
      congr 1
      rw [Bool.true_and, Bool.true_and, Bool.eq_iff_iff, decide_eq_true_eq, decide_eq_true_eq]
      omega
theorem ModelClosed_1_calls {t : T} {S : Store} {cs : List Value} (h : RdT S cs t) (hw : wT t ≤ 1048576) : Pure Try.prog n_i_ModelClosed_1 [.agg cs.toArray] S (.bool (!factB t)) := by
  intro w hI
  have hlc := h.length
  refine calls_i_ModelClosed_1 ?_
  unfold sh_i_ModelClosed_1
  refine r_box hI fun b1 w' hI => ?_
  refine r_loadW hI 0 ag_iTerm rfl (by simpa [Value.cells] using hlc) ?_
  refine Run.callPure fn_i_isFact nm_i_isFact hI (isFact_calls h hw) fun w' hI => ?_
  refine r_not ?_
  exact done hI rfl
theorem ModelClosed_2_1_calls {x t : T} {S : Store} {cs ds : List Value} {b : Nat} {E : TypeId} (h : RdT S cs x) (hg : RdT S ds t) (hb : S b = some (.cells ds.toArray E)) : Pure Try.prog n_i_ModelClosed_2_1 [.agg cs.toArray, .pointer (some ⟨b, 0, none⟩)] S (.bool (eqT x t)) := by
  intro w hI
  have hlc := h.length
  have hlg := hg.length
  refine calls_i_ModelClosed_2_1 ?_
  unfold sh_i_ModelClosed_2_1
  refine r_box hI fun b1 w' hI => ?_
  refine r_loadW hI 0 ag_iTerm rfl (by simpa [Value.cells] using hlc) ?_
  refine r_loadA (cs := ds) ag_iTerm hlg (fun j v hj => by rw [hI.cellS hb, Nat.zero_add]; simpa using hj) ?_
  refine Run.callPure fn_i_TermSame nm_i_TermSame hI (i_TermSame_calls _ _ S _ _ h hg) fun w' hI => ?_
  exact done hI rfl
def ItB (b5 : Nat) (s : Bool) (I : List Item) : Prop := I = [.blk b5 (.cells #[.bool s] t_bool)]
theorem tellC {facts : List T} {S0 : Store} {b3 b5 : Nat} {u : Value} {E : TypeId} (hu : RdSl S0 4 (RdT S0) u facts) (hb : S0 b3 = some (.cells #[u] E)) :
    Tell n_i_ModelClosed_2 Try.f25 [.pointer (some ⟨b5, 0, none⟩), .pointer (some ⟨b3, 0, none⟩)] (ItB b5) (fun s x => s && hasT facts x) S0 := by
  refine ⟨fn_i_ModelClosed_2, nm_i_ModelClosed_2, fun S s x cs I hle hx hcs hIt w hI => ?_⟩
  unfold ItB at hIt
  subst hIt
  have hlc := hcs.length
  obtain ⟨X, hX⟩ : ∃ X, X = feet [Item.blk b5 (.cells #[.bool s] t_bool)] := ⟨_, rfl⟩
  rw [← hX] at hI ⊢
  refine calls_i_ModelClosed_2 ?_
  unfold sh_i_ModelClosed_2
  refine r_box hI fun b1 w' hI => ?_
  have hI : Inv w X ([.blk b5 (.cells #[.bool s] t_bool)] ++ [.blk b1 (.cells cs.toArray t_iTerm)]) S w' := hI
  obtain ⟨S1, hI, hE1, hb1⟩ := hI.pub1
  refine r_loadL hI 0 (by decide +kernel) rfl rfl ?_
  cases s with
  | false =>
    repeat (first | refine guard_true ?_ | refine guard_ne (by decide) ?_ | refine guard_undef ?_ | refine r_pickT ?_ | refine r_pickF ?_)
    refine r_store hI 0 (n := 1) rfl (by decide +kernel) rfl (by simp) (by simp [Value.cells, Value.oneCell']) fun w' hI => ?_
    exact ⟨_, _, _, rfl, hI, hE1, rfl, rfl⟩
  | true =>
    repeat (first | refine guard_true ?_ | refine guard_ne (by decide) ?_ | refine guard_undef ?_ | refine r_pickT ?_ | refine r_pickF ?_)
    refine r_load sc_SiTerm (by rw [hI.cellS (hE1.1 _ _ (hle _ _ hb))]; rfl) ?_
    refine r_makeFunc ?_
    have hcb : Cb Try.prog n_i_ModelClosed_2_1 _ [.pointer (some ⟨b1, 0, none⟩)] S1 (fun _ : Unit => []) (fun _ => True) (fun _ y => (eqT y x, ())) (fun v y => ∃ cs, v = .agg cs.toArray ∧ RdT S1 cs y) facts :=
      Cb.pure [] fn_i_ModelClosed_2_1 nm_i_ModelClosed_2_1 fun y v _ => by
        rintro ⟨ds, rfl, hds⟩ w1 hI
        exact (ModelClosed_2_1_calls hds (hcs.mono hE1.1) hb1 w1 hI).mono fun e w' ⟨he, hI⟩ => ⟨_, _, _, he, hI, Ext.refl _ _ _, rfl, rfl, rfl⟩
    refine Run.call0 fn_x_ContainsFunc_Term nm_x_ContainsFunc_Term hI (ContainsFunc_Term_of hcb ((hu.monoT hle).monoT hE1.1) (st := ()) trivial) fun v' I' S' w' => ?_
    rintro ⟨e1, rfl, e2⟩ _ hI
    subst e1
    rw [e2] at hI
    repeat (first | refine guard_true ?_ | refine guard_ne (by decide) ?_ | refine guard_undef ?_ | refine r_pickT ?_ | refine r_pickF ?_)
    refine r_store hI 0 (n := 1) rfl (by decide +kernel) rfl (by simp) (by simp [Value.cells, Value.oneCell']) fun w' hI => ?_
    refine ⟨_, _, _, rfl, hI, hE1, rfl, ?_⟩
    rw [anyF_pure (fun y => eqT y x) facts, ItB, Bool.true_and]
    rfl
theorem i_ModelClosed_calls {p : List C} {facts : List T} {S : Store} {v u : Value} (h : RdSl S 5 (RdC S) v p) (hq : RdSl S 4 (RdT S) u facts) (hw : wP p ≤ 1048576) (hw2 : wL facts ≤ 1048576) :
    Pure Try.prog n_i_ModelClosed [v, u] S (.bool (modelB p facts)) := by
  intro w hI
  have hlen := h.le
  simp only [maxLen] at hlen
  obtain ⟨au, mu, hu, _⟩ := id hq
  subst hu
  refine calls_i_ModelClosed ?_
  unfold sh_i_ModelClosed
  refine r_box hI fun b3 w' hI => ?_
  obtain ⟨S1, hI, hE1, hb3⟩ := hI.pub1
  have h := h.monoC hE1.1
  have hq := hq.monoT hE1.1
  have hb3 : S1 b3 = some (.cells #[.slice au facts.length mu] _) := hb3
  refine ⟨fun t w' => t = .bool (!(flatP p && factsB facts)) ∧ Inv w [] [] S1 w', ?_, ?_⟩
  · refine Run.callPure fn_i_FlatProgram nm_i_FlatProgram hI (iFlatProgram_calls h hw) fun w' hI => ?_
    refine r_not ?_
    cases hv : flatP p
    · repeat (first | refine guard_true ?_ | refine guard_ne (by decide) ?_ | refine guard_undef ?_ | refine r_pickT ?_ | refine r_pickF ?_)
      exact ⟨rfl, hI⟩
    · repeat (first | refine guard_true ?_ | refine guard_ne (by decide) ?_ | refine guard_undef ?_ | refine r_pickT ?_ | refine r_pickF ?_)
      refine r_load sc_SiTerm (by rw [hI.cellS hb3]; rfl) ?_
      refine r_lenSl hq sl_SiTerm ?_
      refine r_gtr ?_
      by_cases hl : (60 : Int) < (facts.length : Int)
      · rw [decide_eq_true hl]
        repeat (first | refine guard_true ?_ | refine guard_ne (by decide) ?_ | refine guard_undef ?_ | refine r_pickT ?_ | refine r_pickF ?_)
        refine ⟨?_, hI⟩
        rw [factsB, decide_eq_false (show ¬ facts.length ≤ 60 by omega), Bool.and_false]; rfl
      · rw [decide_eq_false hl]
        repeat (first | refine guard_true ?_ | refine guard_ne (by decide) ?_ | refine guard_undef ?_ | refine r_pickT ?_ | refine r_pickF ?_)
        refine r_load sc_SiTerm (by rw [hI.cellS hb3]; rfl) ?_
        have hcb : Cb Try.prog n_i_ModelClosed_1 _ [] S1 (fun _ : Unit => []) (fun _ => True) (fun _ y => (!factB y, ())) (fun v y => ∃ cs, v = .agg cs.toArray ∧ RdT S1 cs y) facts :=
          Cb.pure [] fn_i_ModelClosed_1 nm_i_ModelClosed_1 fun y v hy => by
            rintro ⟨ds, rfl, hds⟩ w1 hI
            have hwy := wL_mem hy
            exact (ModelClosed_1_calls hds (by omega) w1 hI).mono fun e w' ⟨he, hI⟩ => ⟨_, _, _, he, hI, Ext.refl _ _ _, rfl, rfl, rfl⟩
        refine Run.call0 fn_x_ContainsFunc_Term nm_x_ContainsFunc_Term hI (ContainsFunc_Term_of hcb hq (st := ()) trivial) fun v' I' S' w' => ?_
        rintro ⟨e1, rfl, e2⟩ _ hI
        subst e1
        rw [e2] at hI
        repeat (first | refine guard_true ?_ | refine guard_ne (by decide) ?_ | refine guard_undef ?_ | refine r_pickT ?_ | refine r_pickF ?_)
        refine ⟨?_, hI⟩
        rw [anyF_pure (fun y => !factB y) facts, factsB, decide_eq_true (show facts.length ≤ 60 by omega), Bool.and_true, Bool.true_and, ← any_not, Bool.not_not]
  intro t _ _ _ _ _ _ _ _ _ _ _ w'
  rintro ⟨rfl, hI⟩
  refine condV (fun hb => doneS hI hE1.1 ?_) (fun hb => ?_)
  · rw [Bool.not_eq_true'] at hb
    rw [modelB, ← Bool.and_assoc, hb]; rfl
  rw [Bool.not_eq_false', Bool.and_eq_true] at hb
  have hm : modelB p facts = p.all (closedC facts) := by rw [modelB, hb.1, hb.2]; rfl
  have hparts := flatP_parts hb.1
  obtain ⟨hfs, hfl⟩ := factsB_Fct hb.2
  have hz : zeroOf Try.prog t_bool = some (.bool false) := by kernel_rfl
  refine r_alloc hI hz fun b5 w' hI => ?_
  refine r_store hI 0 (n := 1) rfl (by decide +kernel) rfl (by simp [Value.cells]) (by simp [Value.cells, Value.oneCell']) fun w' hI => ?_
  have hI : Inv w [] [.blk b5 (.cells #[.bool true] t_bool)] S1 w' := hI
  refine r_lenSl h sl_SiClause ?_
  refine ⟨fun i w' => ∃ (j : Nat) (S' : Store), j ≤ p.length ∧ i = .int .i64 j ∧ Ext w.heap.size [] S S' ∧ Sle S1 S' ∧ Inv w [] [.blk b5 (.cells #[.bool ((p.take j).all (closedC facts))] t_bool)] S' w', fun i _ => p.length - (intOf i).toNat, ⟨0, S1, Nat.zero_le _, rfl, hE1, Sle.refl _, hI⟩, ?_⟩
  intro t22 _ _ _ _ _ _ _ _ _ _ w'
  rintro ⟨j, S', hj, rfl, hE, hle, hI⟩
  refine r_lss ?_
  refine condP (fun hji => ?_) (fun hji => ?_)
  · have hj' : j < p.length := by omega
    have hpj := hparts _ (List.getElem_mem hj')
    refine r_elem hI (h.monoC hle) sl_SiClause ag_iClause hj' (fun _ _ => RdC.length) fun cs hcs => ?_
    have hlc := hcs.length
    refine r_alloc hI zo_iClause fun b7 w' hI => ?_
    refine r_storeW hI 1 rfl ag_iClause (by simpa using hlc) rfl (by simpa using hcs.one) fun w' hI => ?_
    refine r_loadW hI 1 ag_iClause rfl (by simpa using hlc) ?_
    have hI : Inv w [] [.blk b5 (.cells #[.bool ((p.take j).all (closedC facts))] t_bool)] S' w' := hI.pick [true, false]
    refine r_load sc_SiTerm (by rw [hI.cellS (hle _ _ hb3)]; rfl) ?_
    refine r_makeMap hI fun mb w' hI => ?_
    obtain ⟨S2, hI, hE2, hmb⟩ := hI.pub1
    refine r_makeFunc ?_
    have hI : Inv w [] ([] ++ [.blk b5 (.cells #[.bool ((p.take j).all (closedC facts))] t_bool)]) S2 w' := hI
    have hle2 := hle.trans hE2.1
    refine Run.callE (A := []) fn_i_follows nm_i_follows hI (follows_calls p[j] facts hpj.1 hfs hpj.2.1 p[j].body 0 (by simp) rfl S2 cs _ mb 0 #[] _ _ st0 (tellC (hq.monoT hle2) (hle2 _ _ hb3)) (hcs.mono hE2.1) (hq.monoT hle2) hmb (KnownM.empty S2) st0_F hpj.2.2 rfl) fun v' I' S3 w' => ?_
    rintro ⟨rfl, hIt⟩ hE3 hI
    rw [ItB, fold_and] at hIt
    subst hIt
    refine r_add (by omega) ?_
    refine ⟨⟨j + 1, S3, hj', rfl, (hE.trans hE2).trans hE3, hle2.trans hE3.1, ?_⟩, by simp [intOf]; omega⟩
    have e : (p.take (j + 1)).all (closedC facts) = ((p.take j).all (closedC facts) && (follL p[j].head facts p[j].body st0).all (hasT facts)) := by
      rw [List.take_succ_eq_append_getElem hj', List.all_append, List.all_cons, List.all_nil, Bool.and_true]; rfl
    rw [e]
    exact hI
  · have : j = p.length := by omega
    subst this
    rw [List.take_length] at hI
    refine r_loadL hI 0 (by decide +kernel) rfl rfl ?_
    exact doneS hI hE.1 (by rw [hm]; rfl)
end

end Go.Proofs.Ytgdibnmabnimaaa

/- FnExactModelClosed returns true, whatever program and facts come in. -/
namespace Go.Proofs.Ytgdibnmabnimaaa
open Go Go.RowKit
section
attribute [local irreducible] Run CondV GuardV LoadV
theorem lawModel_calls {p : List C} {q : List T} {S : Store} {v u : Value} (h : RdSl S 5 (RdC S) v p) (hq : RdSl S 4 (RdT S) u q) : Pure Try.prog n_l_FnExactModelClosed [v, u] S (.bool true) := by
  intro w hI
  refine calls_l_FnExactModelClosed ?_
  unfold sh_l_FnExactModelClosed
  refine Run.callPure fn_l_szClauseS nm_l_szClauseS hI (szClauseS_calls h (by omega) (by omega)) fun w' hI => ?_
  refine r_lss ?_
  refine condP (fun _ => done hI rfl) (fun hsz => ?_)
  have hw := sz_wPs (p := p) (left := 1048576) (by omega)
  have hle0 := (szPs_le p 1048576 (by omega)).2
  refine Run.callPure fn_l_szTermS nm_l_szTermS hI (szTermS_calls hq (by omega) (by omega)) fun w' hI => ?_
  refine r_lss ?_
  refine condP (fun _ => done hI rfl) (fun hsq => ?_)
  have hw2 := sz_wTs (ts := q) (left := szPs p 1048576) (by omega)
  have hw2 : q.length + wL q ≤ 1048576 := by omega
  have hw : p.length + wP p ≤ 1048576 := by omega
  refine Run.toClauseS hI h hw fun v1 S0 w' hle0 h1 hI => ?_
  refine Run.toTermS hI (hq.monoT hle0) hw2 fun u1 S1 w' hle1 q1 hI => ?_
  have h1 := h1.monoC hle1
  have hle := hle0.trans hle1
  refine Run.callPure fn_s_ModelClosed nm_s_ModelClosed hI (s_ModelClosed_calls h1 q1 (by omega) (by omega)) fun w' hI => ?_
  refine Run.toClauseS hI (h.monoC hle) hw fun v3 S3 w' hle3 h3 hI => ?_
  have hle := hle.trans hle3
  refine Run.toTermS hI (hq.monoT hle) hw2 fun u3 S4 w' hle4 q3 hI => ?_
  have h3 := h3.monoC hle4
  have hle := hle.trans hle4
  refine Run.callPure fn_i_ModelClosed nm_i_ModelClosed hI (i_ModelClosed_calls h3 q3 (by omega) (by omega)) fun w' hI => ?_
  refine r_bneq un_bool ?_
  refine condV (fun hb => by simp at hb) (fun _ => ?_)
  refine Run.toClauseS hI (h.monoC hle) hw fun v5 S5 w' hle5 h5 hI => ?_
  refine Run.callPure fn_l_eqClauseS nm_l_eqClauseS hI (eqClauseS_calls (h3.monoC hle5) h5) fun w' hI => ?_
  refine r_not ?_
  rw [(eqP_iff p p).2 rfl]
  refine condV (fun hb => by simp at hb) (fun _ => ?_)
  have hle := hle.trans hle5
  refine Run.toTermS hI (hq.monoT hle) hw2 fun u5 S6 w' hle6 q5 hI => ?_
  refine Run.callPure fn_l_eqTermS nm_l_eqTermS hI (eqTermS_calls ((q3.monoT hle5).monoT hle6) q5) fun w' hI => ?_
  refine r_not ?_
  rw [(eqL_iff q q).2 rfl]
  exact condV (fun hb => by simp at hb) (fun _ => doneS hI (hle.trans hle6) rfl)
end

end Go.Proofs.Ytgdibnmabnimaaa

/- What every row of this seat owes beside its walk: the arguments read again as they did, and nothing that was there has turned. -/
namespace Go.Proofs.Ytgdibnmabnimaaa
open Go Go.ChangeShapes Go.WideShapes Go.ChangeAt Go.RowKit

theorem Try.own : ownKnob Try.prog.godebug = none := by kernel_rfl
theorem Try.kids : Kids Try.prog (· < Try.prog.types.size) := kids_rows (by kernel_rfl) (by kernel_rfl)
theorem Try.full : ∀ t e, t < Try.prog.types.size → Try.prog.underlying t = some (.slice e) → 0 < Try.prog.cellsOf e := slices_full_of Try.prog (by kernel_rfl)
section
variable {H : Type} {enc : TypeId × Value → H} {W W' : World}
theorem carryAll {P : Program} : ∀ {ts : List TypeId} {vs : List Value} {ds : List (DataW H)} {ps : List MemPlace}, DataW.TrodAll enc P W 0 (fun _ => true) true ts vs ds ps → (∀ p ∈ ps, W.sameAt W' p) →
    DataW.TrodAll enc P W' 0 (fun _ => true) true ts vs ds ps
  | [], [], [], _, h, _ => h
  | _ :: _, _ :: _, _ :: _, _, ⟨p, q, ⟨n, h1⟩, h2, e⟩, hs =>
    ⟨p, q, ⟨n, DataW.trod_carry n _ _ _ h1 fun x hx => hs x (by rw [e]; exact List.mem_append_left _ hx)⟩, carryAll h2 fun x hx => hs x (by rw [e]; exact List.mem_append_right _ hx), e⟩
theorem same_at {p : MemPlace} (h : ∀ b, b < W.heap.size → W'.heap[b]? = W.heap[b]?) (hp : p.block < W.heap.size) : W.sameAt W' p := by
  cases p with
  | cell b off => simp only [World.sameAt, World.cell?]; rw [h b hp]
  | map b => exact h b hp
/- a function of the program whose walk ends with 'true' and with all that was there as it was: the row's 'post' -/
theorem post_true {f : Func} {s : ChangeSpec} {args : Array Value} {ds gs : List (DataW H)} {before p q : List MemPlace}
    (hW : DataW.Whole enc Try.prog f.params.toList s.vars false W args.toList ds gs before) (hA : DataW.TrodAll enc Try.prog W 0 (fun _ => true) true f.params.toList args.toList ds p)
    (hV : DataW.TrodVars enc Try.prog W (fun _ => true) s.vars gs q) (hb : before = p ++ q) (hv : s.vars = []) (hts : ∀ t ∈ f.params.toList, t < Try.prog.types.size) (hr : f.resultTypes = #[t_bool])
    (hs : (s.fn H (ds ++ gs)).results = [.lit (.bool true)]) (ha : (s.fn H (ds ++ gs)).args = ds) (hsv : (s.fn H (ds ++ gs)).vars = []) (hI : Inv W [] [] (heapS W) W') :
    s.post enc Try.prog f false true false false W args (.bool true) W' := by
  have hsame : ∀ b, b < W.heap.size → W'.heap[b]? = W.heap[b]? := fun b hb => hI.same b hb
  have hlt := hW.lt
  rw [hv] at hV
  obtain ⟨hg, hq⟩ := trodVars_none hV
  subst hq
  rw [List.append_nil] at hb
  subst hb
  have hA' := carryAll (W' := W') hA fun x hx => same_at hsame (hlt x hx)
  refine ⟨ds, gs, before, [], before, [], hW, ?_, ?_, ?_, same_kept hI.os hI.output hsame, fun h => by cases h⟩
  · rw [hs, hr]
    exact trodAll_mk1 (shut_bool un_bool true)
  · rw [ha]
    exact DataW.TrodAll.respare Try.kids Try.full hts hA' fun x hx => by simpa using hlt x hx
  · rw [hv, hsv]
    rfl
end

end Go.Proofs.Ytgdibnmabnimaaa

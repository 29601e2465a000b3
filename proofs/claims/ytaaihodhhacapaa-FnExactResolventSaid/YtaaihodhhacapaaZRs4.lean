/- Reslicing; a read slice joined to a row. -/
import Derived.Test.YtaaihodhhacapaaZRs2
import Derived.Test.YtaaihodhhacapaaZRs0
import Derived.Test.YtaaihodhhacapaaZRs1
import Derived.Test.YtaaihodhhacapaaZRs3
namespace Go.Proofs.Ytaaihodhhacapaa
open Go Go.RowKit

theorem sliceOf_size {P : Program} {T e : TypeId} {k : Nat} (h : sliceOf P T = some (e, k)) : P.underlying T = some (.slice e) ∧ ∃ i, P.info? e = some i ∧ i.size = k := by
  unfold sliceOf at h
  split at h
  · rename_i e1 he
    rw [Option.map_eq_some_iff] at h
    obtain ⟨i, hi, hx⟩ := h
    simp only [Prod.mk.injEq] at hx
    obtain ⟨rfl, rfl⟩ := hx
    exact ⟨he, i, hi, rfl⟩
  · cases h
section
variable {P : Program} {w : World} {K : Value → World → Prop}
attribute [local irreducible] Run
theorem run_bound {n y : Nat} {code : BoundsCode} (h : n ≤ y) : (Instr.sliceBound (.int .i64 n) y code).run P w = .ok n w := by
  have h1 : (0 : Int) ≤ (n : Int) ∧ (n : Int) ≤ (y : Int) := by omega
  simp [Instr.sliceBound, asIntOf, h]
theorem r_slTo {T ty e : TypeId} {k h len cap : Nat} {a : Option Addr} (hT : sliceOf P T = some (e, k)) (hh : h ≤ cap) (hk : K (.slice (if cap = 0 then a else a.map (·.add (0 * k))) h cap) w) :
    Run P (sOp (.slice T (.const (.slice a len cap)) none (some (.const (.int .i64 h))) none) ty) w K := by
  obtain ⟨hu, i, hi, _⟩ := sliceOf_size hT
  refine Run.of ?_ hk
  simp [sOp, execOp, ev0, evE, Instr.sliceAt, Instr.slice, Instr.sliceBounds, run_underlying hu, run_bound hh, sizeOf, typeInfo, hi]
theorem r_slFrom {T ty e : TypeId} {k l len cap : Nat} {a : Option Addr} (hT : sliceOf P T = some (e, k)) (hl : l ≤ len) (hk : K (.slice (if cap = l then a else a.map (·.add (l * k))) (len - l) (cap - l)) w) :
    Run P (sOp (.slice T (.const (.slice a len cap)) (some (.const (.int .i64 l))) none none) ty) w K := by
  obtain ⟨hu, i, hi, hs⟩ := sliceOf_size hT
  refine Run.of ?_ hk
  simp [sOp, execOp, ev0, evE, Instr.sliceAt, Instr.slice, Instr.sliceBounds, run_underlying hu, run_bound hl, sizeOf, typeInfo, hi, hs]
theorem r_slMid {T ty e : TypeId} {k l h len cap : Nat} {a : Option Addr} (hT : sliceOf P T = some (e, k)) (hl : l ≤ h) (hh : h ≤ cap) (hk : K (.slice (if cap = l then a else a.map (·.add (l * k))) (h - l) (cap - l)) w) :
    Run P (sOp (.slice T (.const (.slice a len cap)) (some (.const (.int .i64 l))) (some (.const (.int .i64 h))) none) ty) w K := by
  obtain ⟨hu, i, hi, hs⟩ := sliceOf_size hT
  refine Run.of ?_ hk
  simp [sOp, execOp, ev0, evE, Instr.sliceAt, Instr.slice, Instr.sliceBounds, run_underlying hu, run_bound hl, run_bound hh, sizeOf, typeInfo, hi, hs]
theorem r_slMax {T ty e : TypeId} {k l h m len cap : Nat} {a : Option Addr} (hT : sliceOf P T = some (e, k)) (hl : l ≤ h) (hh : h ≤ m) (hm : m ≤ cap) (hk : K (.slice (if m = l then a else a.map (·.add (l * k))) (h - l) (m - l)) w) :
    Run P (sOp (.slice T (.const (.slice a len cap)) (some (.const (.int .i64 l))) (some (.const (.int .i64 h))) (some (.const (.int .i64 m)))) ty) w K := by
  obtain ⟨hu, i, hi, hs⟩ := sliceOf_size hT
  refine Run.of ?_ hk
  simp [sOp, execOp, ev0, evE, Instr.sliceAt, Instr.slice, Instr.sliceBounds, run_underlying hu, run_bound hl, run_bound hh, run_bound hm, sizeOf, typeInfo, hi, hs]
end
theorem RdSl.to {α : Type} {S : Store} {k : Nat} {R : List Value → α → Prop} {a : Option Addr} {cap n h : Nat} {xs : List α} (hx : RdSl S k R (.slice a n cap) xs) (hh : h ≤ xs.length) :
    RdSl S k R (.slice (if cap = 0 then a else a.map (·.add (0 * k))) h cap) (xs.take h) := by
  obtain ⟨a', cap', e, hl, hc, hx⟩ := hx
  simp only [Value.slice.injEq] at e
  obtain ⟨rfl, rfl, rfl⟩ := e
  have e1 : (if cap = 0 then a else a.map (·.add (0 * k))) = a := by
    split
    · rfl
    · cases a <;> simp [Addr.add]
  rw [e1]
  have e2 : h = (xs.take h).length := by rw [List.length_take]; omega
  refine ⟨a, cap, by rw [← e2], by omega, hc, ?_⟩
  rcases hx with rfl | ⟨b, o, c, E, fz, rfl, hS, hR⟩
  · left; simp
  · right
    refine ⟨b, o, c, E, fz, rfl, hS, fun i hi => ?_⟩
    rw [List.getElem_take]
    exact hR i (by omega)
theorem RdSl.from {α : Type} {S : Store} {k : Nat} {R : List Value → α → Prop} {a : Option Addr} {cap n l : Nat} {xs : List α} (hx : RdSl S k R (.slice a n cap) xs) (hl : l ≤ xs.length) :
    RdSl S k R (.slice (if cap = l then a else a.map (·.add (l * k))) (n - l) (cap - l)) (xs.drop l) := by
  obtain ⟨a', cap', e, hlc, hc, hx⟩ := hx
  simp only [Value.slice.injEq] at e
  obtain ⟨rfl, rfl, rfl⟩ := e
  refine ⟨_, cap - l, by rw [List.length_drop], by rw [List.length_drop]; omega, by omega, ?_⟩
  by_cases hd : xs.drop l = []
  · exact .inl hd
  · rcases hx with rfl | ⟨b, o, c, E, fz, rfl, hS, hR⟩
    · simp at hd
    · right
      have hlt : l < xs.length := by
        rcases Nat.lt_or_ge l xs.length with h | h
        · exact h
        · exact absurd (List.drop_eq_nil_of_le h) hd
      refine ⟨b, o + l * k, c, E, fz, ?_, hS, fun i hi => ?_⟩
      · rw [if_neg (by omega)]
        simp [Addr.add]
      · rw [List.getElem_drop]
        have := hR (l + i) (by simp at hi; omega)
        rwa [Nat.add_mul, ← Nat.add_assoc] at this
section
variable {P : Program} {w w0 : World} {X : List Nat} {L : List Item} {S : Store} {K : Value → World → Prop}
attribute [local irreducible] Run CondV GuardV LoadV
theorem r_sliceTo {α : Type} {R : List Value → α → Prop} {xs : List α} {v : Value} {T ty e : TypeId} {k h : Nat} (hT : sliceOf P T = some (e, k)) (hx : RdSl S k R v xs) (hh : h ≤ xs.length)
    (hk : ∀ v', RdSl S k R v' (xs.take h) → K v' w) : Run P (sOp (.slice T (.const v) none (some (.const (.int .i64 h))) none) ty) w K := by
  obtain ⟨a, cap, rfl, hl, hc, hx'⟩ := id hx
  exact r_slTo hT (by omega) (hk _ (hx.to hh))
theorem r_sliceFrom {α : Type} {R : List Value → α → Prop} {xs : List α} {v : Value} {T ty e : TypeId} {k l : Nat} (hT : sliceOf P T = some (e, k)) (hx : RdSl S k R v xs) (hl : l ≤ xs.length)
    (hk : ∀ v', RdSl S k R v' (xs.drop l) → K v' w) : Run P (sOp (.slice T (.const v) (some (.const (.int .i64 l))) none none) ty) w K := by
  obtain ⟨a, cap, rfl, hl', hc, hx'⟩ := id hx
  exact r_slFrom hT hl (hk _ (hx.from hl))
end
theorem RdSl.exact {α : Type} {S : Store} {k : Nat} {R : List Value → α → Prop} {v : Value} {ys : List α} (h : RdSl S k R v ys) (hk : ∀ cs y, R cs y → cs.length = k) :
    ∃ ds : List {cs : List Value // cs.length = k}, RdSl S k (fun cs d => cs = d.val) v ds ∧ Rows k R (ds.map (·.val)) ys := by
  obtain ⟨a, cap, rfl, hl, hc, hx⟩ := h
  rcases hx with rfl | ⟨b, o, c, E, fz, rfl, hS, hR⟩
  · exact ⟨[], ⟨a, cap, rfl, hl, hc, .inl rfl⟩, Rows.nil _ _⟩
  · refine ⟨List.ofFn fun i : Fin ys.length => ⟨cellsAt c (o + i.val * k) k, hk _ _ (hR i.val i.isLt)⟩, ⟨_, cap, by rw [List.length_ofFn], by rw [List.length_ofFn]; exact hl, hc, .inr ⟨b, o, c, E, fz, rfl, hS, fun i hi => by simp⟩⟩, ⟨by simp, fun cs hcs => ?_, fun i h1 h2 => ?_⟩⟩
    · obtain ⟨d, _, rfl⟩ := List.mem_map.1 hcs
      exact d.property
    · simp only [List.getElem_map, List.getElem_ofFn]
      exact hR i h1
section
variable {P : Program} {w w0 : World} {X : List Nat} {L : List Item} {S : Store} {K : Value → World → Prop}
attribute [local irreducible] Run CondV GuardV LoadV
theorem r_appendRd {α : Type} {R : List Value → α → Prop} (h : Inv w0 X L S w) {T ty e : TypeId} {k by_ : Nat} {z v u : Value} {cs : List Bool} {css : List (List Value)} {ys : List α} (i : Nat)
    (hT : mkOf P T = some (e, k, by_, z)) (hk0 : 0 < k) (hi : L[i]? = some (rowG v e k css)) (hr : RdSl S k R u ys) (hlen : ∀ cs y, R cs y → cs.length = k) (h1 : ∀ cs y, R cs y → ∀ c ∈ cs, c.oneCell' = true)
    (hfit : css.length + ys.length ≤ 4294967296) (hby : by_ ≤ 32768) (hk : ∀ v' w' css2, Rows k R css2 ys → Inv w0 X (L.set i (rowG v' e k (css ++ css2))) S w' → K v' w') :
    Run P (sBuiltin .append #[T, T] ty cs [v, u]) w K := by
  obtain ⟨ds, hd, hR⟩ := hr.exact hlen
  have hdl : ds.length = ys.length := by have := hR.hc; simpa using this
  have hone : ∀ d ∈ ds, ∀ c ∈ d.val, c.oneCell' = true := by
    intro d hd' c hc
    obtain ⟨j, hj, rfl⟩ := List.mem_iff_getElem.1 hd'
    have := hR.hR j (by omega) (by simpa using hj)
    simp only [List.getElem_map] at this
    exact h1 _ _ this c hc
  obtain ⟨a, cap, rfl, hl', hc', hx⟩ := id hd
  have e1 : ∀ v', Item.row v' e k (css.length + ds.length) (css.flatten ++ (ds.map (·.val)).flatten) = rowG v' e k (css ++ ds.map (·.val)) := fun v' => by simp [rowG]
  rcases hx with rfl | ⟨b, o, c, E, fz, rfl, hS, hel⟩
  · refine r_append0 h i hT hi (hk v w [] (by simpa using hR) ?_)
    have : L.set i (rowG v e k (css ++ [])) = L := by
      obtain ⟨hlt, e'⟩ := List.getElem?_eq_some_iff.1 hi
      rw [List.append_nil, ← e', List.set_getElem_self]
    rw [this]
    exact h
  · have hfl : (ds.map (·.val)).flatten.length = ds.length * k := by
      rw [flatten_len (k := k) (fun cs hcs => by obtain ⟨d, _, rfl⟩ := List.mem_map.1 hcs; exact d.property), List.length_map]
    refine r_append h i (ds.map (·.val)).flatten hT hk0 hi hfl ?_ ?_ (by omega) hby fun v' w' hI => hk _ _ _ hR ?_
    · intro j u hj
      have hj' : j < ds.length * k := by
        rw [← hfl]
        exact (List.getElem?_eq_some_iff.1 hj).1
      have hq : j / k < ds.length := (Nat.div_lt_iff_lt_mul hk0).2 hj'
      have hcell := hel (j / k) hq
      have hflat := flatten_at k (ds.map (·.val)) (j / k) (fun cs hcs => by obtain ⟨d, _, rfl⟩ := List.mem_map.1 hcs; exact d.property) (by simpa using hq)
      have hdm := Nat.div_add_mod j k
      rw [Nat.mul_comm] at hdm
      rw [h.cellS hS]
      have e2 : (ds.map (·.val)).flatten[j]? = (ds[j / k].val)[j % k]? := by
        rw [List.getElem_map] at hflat
        rw [← hflat, List.getElem?_take, if_pos (Nat.mod_lt _ hk0), List.getElem?_drop]
        congr 1
        omega
      rw [e2] at hj
      have := cellsAt_get hcell (j % k) u hj
      rw [← this]
      congr 1
      omega
    · intro u hu
      obtain ⟨cs, hcs, hu⟩ := List.mem_flatten.1 hu
      obtain ⟨d, hd', rfl⟩ := List.mem_map.1 hcs
      exact hone d hd' u hu
    · rw [← e1]
      exact hI
end

end Go.Proofs.Ytaaihodhhacapaa

/- Publishing what a call owns; what is published since. -/
namespace Go.Proofs.Ytaaihodhhacapaa
open Go Go.RowKit
/- a tree of one's own, published -/
theorem Inv.pubExt {w0 w : World} {X : List Nat} {A : List Item} {S : Store} {L : Heaplet} (h : Inv w0 X (A ++ blks L) S w) :
    ∃ S', Inv w0 X A S' w ∧ Ext w0.heap.size X S S' ∧ Ins S' L := by
  obtain ⟨S', h1, h2, h3, h4⟩ := h.publishAll L
  refine ⟨S', h1, ⟨h2, fun b o hb => ?_⟩, h3⟩
  rcases h4 b o hb with h5 | h5
  · exact .inl h5
  · right
    exact h.new b (by rw [feet_append]; exact List.mem_append_right _ h5)
theorem Inv.pub1 {w0 w : World} {X : List Nat} {A : List Item} {S : Store} {b : Nat} {o : Obj} (h : Inv w0 X (A ++ [.blk b o]) S w) :
    ∃ S', Inv w0 X A S' w ∧ Ext w0.heap.size X S S' ∧ S' b = some o := by
  obtain ⟨S', h1, h2, h3⟩ := Inv.pubExt (A := A) (L := [(b, o)]) h
  exact ⟨S', h1, h2, h3 _ (List.mem_singleton.2 rfl)⟩
theorem Rows.monoR {α : Type} {k : Nat} {R R' : List Value → α → Prop} {css : List (List Value)} {ys : List α} (h : Rows k R css ys) (hR : ∀ cs y, R cs y → R' cs y) : Rows k R' css ys := ⟨h.hc, h.hk, fun i h1 h2 => hR _ _ (h.hR i h1 h2)⟩
theorem Rows.one {α : Type} {k : Nat} {R : List Value → α → Prop} {cs : List Value} {y : α} (hR : R cs y) (hl : cs.length = k) : Rows k R [cs] [y] := by
  have := (Rows.nil k R).snoc hR hl
  exact this
section
variable {P : Program} {w w0 : World} {X : List Nat} {L : List Item} {S : Store} {K : Value → World → Prop}
theorem Run.call0E {f : FuncId} {fn : Func} {args : List Value} {Post : Value → List Item → Store → Prop}
    (hf : P.funcs[f]? = some fn) (hn : (fn.name == "runtime.NumGoroutine" || fn.body.isNone) = false) (h : Inv w0 X L S w) (hc : Tri P f args [] S Post)
    (hk : ∀ v I' S' w', Post v I' S' → Ext w0.heap.size X S S' → Inv w0 X (L ++ I') S' w' → K v w') : Run P (sCall (.func (.func f) #[] #[]) args) w K := by
  refine Run.callP hf hn ((hc w h.nil.begin).mono ?_)
  rintro e w' ⟨v, I', S', rfl, hI, hE, hP⟩
  refine hk v I' S' w' hP ⟨hE.1, fun b o hb => ?_⟩ (Inv.step (A := L) (B := []) (by simpa using h) hI hE.2)
  rcases hE.2 b o hb with h1 | h1 | h1
  · exact .inl h1
  · simp [feet] at h1
  · exact .inr (.inr (Nat.le_trans h.size h1))
end
theorem Ext.trans {n : Nat} {Y : List Nat} {S S' S'' : Store} (h : Ext n Y S S') (h' : Ext n Y S' S'') : Ext n Y S S'' := by
  refine ⟨h.1.trans h'.1, fun b o hb => ?_⟩
  rcases h'.2 b o hb with h1 | h1
  · exact h.2 b o h1
  · exact .inr h1
section
variable {P : Program} {w w0 : World} {X : List Nat} {A I : List Item} {S : Store} {K : Value → World → Prop}
theorem ext_of {f : FuncId} {args : List Value} {Post : Value → List Item → Store → Prop} (h : Inv w0 X (A ++ I) S w) (hc : Tri P f args I S Post) :
    Calls P f args.toArray w fun e w' => ∃ v I' S', e = .returned v ∧ Inv w0 X (A ++ I') S' w' ∧ Ext w0.heap.size X S S' ∧ Post v I' S' := by
  refine (hc w (h.sub (List.sublist_append_right A I)).begin).mono ?_
  rintro e w' ⟨v, I', S', rfl, hI, hE, hP⟩
  refine ⟨v, I', S', rfl, Inv.step h hI hE.2, ⟨hE.1, fun b o hb => ?_⟩, hP⟩
  rcases hE.2 b o hb with h1 | h1 | h1
  · exact .inl h1
  · exact .inr (h.new b (by rw [feet_append]; exact List.mem_append_right _ h1))
  · exact .inr (.inr (Nat.le_trans h.size h1))
theorem Run.callE {f : FuncId} {fn : Func} {args : List Value} {Post : Value → List Item → Store → Prop}
    (hf : P.funcs[f]? = some fn) (hn : (fn.name == "runtime.NumGoroutine" || fn.body.isNone) = false) (h : Inv w0 X (A ++ I) S w) (hc : Tri P f args I S Post)
    (hk : ∀ v I' S' w', Post v I' S' → Ext w0.heap.size X S S' → Inv w0 X (A ++ I') S' w' → K v w') : Run P (sCall (.func (.func f) #[] #[]) args) w K := by
  refine Run.callP hf hn ((ext_of h hc).mono ?_)
  rintro e w' ⟨v, I', S', rfl, hI, hE, hP⟩
  exact hk v I' S' w' hP hE hI
theorem Run.callVE {f : FuncId} {fn : Func} {cap args : List Value} {Post : Value → List Item → Store → Prop}
    (hf : P.funcs[f]? = some fn) (hn : (fn.name == "runtime.NumGoroutine" || fn.body.isNone) = false) (h : Inv w0 X (A ++ I) S w) (hc : Tri P f (args ++ cap) I S Post)
    (hk : ∀ v I' S' w', Post v I' S' → Ext w0.heap.size X S S' → Inv w0 X (A ++ I') S' w' → K v w') : Run P (sCall (fv f cap) args) w K := by
  unfold Run
  rw [callV_sem hf hn]
  refine (ext_of h hc).mono ?_
  rintro e w' ⟨v, I', S', rfl, hI, hE, hP⟩
  exact hk v I' S' w' hP hE hI
end
theorem Inv.lendExt {w0 w : World} {X : List Nat} {A : List Item} {S : Store} {v : Value} {e : TypeId} {k : Nat} {css : List (List Value)} (h : Inv w0 X (A ++ [rowG v e k css]) S w) :
    ∃ S', Ext w0.heap.size X S S' ∧ RowRd S' v e k css.length css.flatten ∧ Inv w0 X A S' w := by
  obtain ⟨hl, ho⟩ := h.openRow
  rcases ho with ⟨rfl, h0⟩ | ⟨g, cap, cur, rfl, hnc, hcm, hcs, ht, hI⟩
  · exact ⟨S, Ext.refl _ _ _, ⟨hl, .inl ⟨rfl, h0⟩⟩, h.sub (List.sublist_append_left _ _)⟩
  · obtain ⟨S', h1, h2, h3⟩ := Inv.pub1 (A := A) hI
    exact ⟨S', h2, ⟨hl, .inr ⟨g, cap, cur, rfl, h3, hnc, hcm, hcs, ht⟩⟩, h1⟩

end Go.Proofs.Ytaaihodhhacapaa

/- slices.Delete on a tree of the function's own. -/
namespace Go.Proofs.Ytaaihodhhacapaa
open Go Go.RowKit
section
variable {P : Program} {w w0 : World} {X : List Nat} {L : List Item} {S : Store} {K : Value → World → Prop}
attribute [local irreducible] Run CondV GuardV LoadV
/- append within the room of a block -/
theorem r_appendIn (h : Inv w0 X L S w) {T ty e E : TypeId} {k by_ n m g o cap cp : Nat} {z : Value} {cs : List Bool} {cur : Array Value} (i : Nat) (news : List Value) {a : Addr} (ha : a = ⟨g, o, none⟩ ∨ m = 0)
    (hT : mkOf P T = some (e, k, by_, z)) (hi : L[i]? = some (.blk g (.cells cur E))) (hl : news.length = m * k) (hnews : ∀ j u, news[j]? = some u → cur[o + j]? = some u) (h1 : ∀ u ∈ news, u.oneCell' = true)
    (hroom : n + m ≤ cap) (hfit : n * k + news.length ≤ cur.size) (hk : ∀ w', Inv w0 X (L.set i (.blk g (.cells (putCells cur (n * k) news) E))) S w' → K (.slice (some ⟨g, 0, none⟩) (n + m) cap) w') :
    Run P (sBuiltin .append #[T, T] ty cs [.slice (some ⟨g, 0, none⟩) n cap, .slice (some a) m cp]) w K := by
  obtain ⟨hu, inf, hi', hz, hs, hb, hzs⟩ := mkOf_some hT
  have hg := h.its _ (List.mem_of_getElem? hi)
  simp only [Item.holds] at hg
  have hn : ∀ j u, news[j]? = some u → w.cell? (a.add j) = some u := by
    intro j u hj
    rcases ha with rfl | rfl
    · rw [add_lit, h.cellL hi]
      exact hnews j u hj
    · rw [Nat.zero_mul] at hl
      have : news = [] := List.eq_nil_of_length_eq_zero hl
      subst this
      simp at hj
  have hf := run_firstCells_some (P := P) w inf.size m a m cp news (by rw [hs]; exact hl) hn
  have hst := run_storeCells_at P g (n * k) E news 0 cur w hg (by simpa using hfit) h1
  simp only [Nat.add_zero] at hst
  refine Run.of (v := .slice (some ⟨g, 0, none⟩) (n + m) cap) (w' := w.setRow g (putCells cur (n * k) news)) ?_ (hk _ (h.setBlk hi _ (setRow_eq hg)))
  rw [hs] at hf
  simp [sBuiltin, builtin, Builtin.append_, run_underlying hu, sizeOf, typeInfo, hi', Builtin.lenOf, hroom, hf, hs, hst, putCells, add_lit]
theorem r_clear (h : Inv w0 X L S w) {T ty e E : TypeId} {k by_ n g o cp : Nat} {z : Value} {cs : List Bool} {cur : Array Value} (i : Nat)
    (hT : mkOf P T = some (e, k, by_, z)) (hi : L[i]? = some (.blk g (.cells cur E))) (hfit : o + n * k ≤ cur.size) (hn : 0 < n) (h1 : ∀ u ∈ (Builtin.zeroCells z.cells n).toList, u.oneCell' = true)
    (hk : ∀ w', Inv w0 X (L.set i (.blk g (.cells (putCells cur o (Builtin.zeroCells z.cells n).toList) E))) S w' → K (.tuple #[]) w') :
    Run P (sBuiltin .clear #[T] ty cs [.slice (some ⟨g, o, none⟩) n cp]) w K := by
  obtain ⟨hu, inf, hi', hz, hs, hb, hzs⟩ := mkOf_some hT
  have hg := h.its _ (List.mem_of_getElem? hi)
  simp only [Item.holds] at hg
  obtain ⟨n', rfl⟩ : ∃ n', n = n' + 1 := ⟨n - 1, by omega⟩
  have hst := run_storeCells_at P g o E (Builtin.zeroCells z.cells (n' + 1)).toList 0 cur w hg (by rw [Array.length_toList, size_zeroCells, hzs]; simpa using hfit) h1
  simp only [Nat.add_zero] at hst
  refine Run.of (v := .tuple #[]) (w' := w.setRow g (putCells cur o (Builtin.zeroCells z.cells (n' + 1)).toList)) ?_ (hk _ (h.setBlk hi _ (setRow_eq hg)))
  simp [sBuiltin, builtin, Builtin.clear_, run_underlying hu, zeroValue, typeInfo, hi', hz, hst, putCells]
end
theorem cellsAt_put_in {c : Array Value} {p q k : Nat} {news : List Value} (hf : p + news.length ≤ c.size) (hq : q + k ≤ news.length) : cellsAt (putCells c p news) (p + q) k = (news.drop q).take k := by
  apply List.ext_getElem?
  intro i
  simp only [cellsAt, putCells, List.getElem?_take, List.getElem?_drop]
  split
  · rename_i hi
    simp only [List.getElem?_append, List.length_append, List.length_take, Array.length_toList]
    have e1 : min p c.size = p := by omega
    rw [e1, if_pos (by omega), if_neg (by omega)]
    congr 1
    omega
  · rfl
theorem sub_flatten {α : Type} {l m : List (List α)} (h : List.Sublist l m) : List.Sublist l.flatten m.flatten := by
  induction h with
  | slnil => exact List.Sublist.refl _
  | cons a _ ih => rw [List.flatten_cons]; exact ih.trans (List.sublist_append_right _ _)
  | cons_cons a _ ih => rw [List.flatten_cons, List.flatten_cons]; exact List.Sublist.append_left ih _

end Go.Proofs.Ytaaihodhhacapaa

/- DropClause: both sides. -/
namespace Go.Proofs.Ytaaihodhhacapaa
open Go Go.RowKit
attribute [local irreducible] Run CondV GuardV LoadV

end Go.Proofs.Ytaaihodhhacapaa

/- DropClause: both sides. -/
namespace Go.Proofs.Ytaaihodhhacapaa
open Go Go.RowKit
attribute [local irreducible] Run CondV GuardV LoadV

def dropB (p : List C) (i : Int) : Bool := progB p && (decide (0 ≤ i) && decide (i < p.length))
def dropPs (p : List C) (i : Int) : List C := if dropB p i = true then p.eraseIdx i.toNat else []
theorem dropB_iff {p : List C} {i : Int} (h : dropB p i = true) : ∃ j : Nat, i = j ∧ j < p.length := by
  simp only [dropB, Bool.and_eq_true, decide_eq_true_eq] at h
  exact ⟨i.toNat, by omega, by omega⟩
theorem erase_w : ∀ (p : List C) (j : Nat), (p.eraseIdx j).length + wP (p.eraseIdx j) ≤ p.length + wP p
  | [], j => by simp
  | c :: p, 0 => by simp [wP]; omega
  | c :: p, j + 1 => by
    have := erase_w p j
    simp only [List.eraseIdx_cons_succ, List.length_cons, wP]
    omega
def dcItems (r0 r4 r9 : Item) (M : Heaplet) (d0 d4 d9 d10 : Bool) : List Item := match d10, d9, d4, d0 with
  | true, _, _, _ => blks M
  | false, true, _, _ => [r9]
  | false, false, true, _ => [r4]
  | false, false, false, true => [r0]
  | false, false, false, false => []
end Go.Proofs.Ytaaihodhhacapaa

/- spec.RenumberClause. -/
namespace Go.Proofs.Ytaaihodhhacapaa
open Go Go.RowKit
section
attribute [local irreducible] Run CondV GuardV LoadV
theorem lastI_in {vs : List Int} {n : Int} (hn : inI n) (hl : vs.length ≤ 1000000000) : inI (lastI vs n n 0) := by
  rcases lastI_rng vs n n 0 with h | h
  · rw [h]; exact hn
  · simp only [inI] at hn ⊢; omega
theorem l1Rename_calls (vs : List Int) (hvl : vs.length ≤ 1000000000) : ∀ (t : T) (S : Store) (cs : List Value) (v : Value), RdT S cs t → RdSl S 1 RdInt v vs → wT t ≤ 1048576 → Tri Try.prog n_s_l1Rename [.agg cs.toArray, v] [] S (PostT S (srenT vs t)) := by
  refine T.ind fun k n s ks ih S cs v h hv hw => ?_
  intro w hI
  obtain ⟨kv, rfl, h1, h2, hs, hks⟩ := RdT.iff.1 h
  simp only [T.name, T.kids, T.kind, T.n] at h1 h2 hs hks ⊢
  simp only [wT] at hw
  obtain ⟨N, hN⟩ : ∃ N, N = if k = 1 then lastI vs n n 0 else n := ⟨_, rfl⟩
  have hNi : inI N := by
    rw [hN]
    split
    · exact lastI_in h2 hvl
    · exact h2
  refine calls_s_l1Rename ?_
  unfold sh_s_l1Rename
  refine r_box hI fun b1 w' hI => ?_
  refine r_alloc hI zo_iTerm fun b2 w' hI => ?_
  refine r_fieldL hI 0 rfl fo_iTerm_0 sc_int rfl ?_
  refine r_fieldL hI 0 rfl fo_iTerm_1 sc_int rfl ?_
  refine r_fieldL hI 0 rfl fo_iTerm_2 sc_string rfl ?_
  refine r_buildTerm ?_
  refine r_alloc hI zo_iTerm fun b3 w' hI => ?_
  refine r_storeW hI 2 rfl ag_iTerm rfl rfl (by simp [Value.oneCell']) fun w' hI => ?_
  refine ⟨fun i w' => ∃ (j : Nat) (cur : Int), j ≤ vs.length ∧ i = .int .i64 j ∧ (if k = 1 then lastI (vs.drop j) n cur j else cur) = N ∧
      Inv w [] [.blk b1 (.cells #[.int .i64 k, .int .i64 n, .string s, kv] t_iTerm), .blk b2 (.cells #[.int .i64 0, .int .i64 0, .string ⟨#[]⟩, .slice none 0 0] t_iTerm), .blk b3 (.cells #[.int .i64 k, .int .i64 cur, .string s, .slice none 0 0] t_iTerm)] S w',
    fun i _ => vs.length - (intOf i).toNat, ⟨0, n, Nat.zero_le _, rfl, hN.symm, hI⟩, ?_⟩
  intro t6 _ _ _ _ _ _ _ _ _ _ _ _ _ _ _ _ _ _ _ _ w'
  rintro ⟨j, cur, hj, rfl, hrel, hI⟩
  refine ⟨fun t w' => t = .bool (decide (j < vs.length) && decide (k = 1)) ∧ Inv w [] [.blk b1 (.cells #[.int .i64 k, .int .i64 n, .string s, kv] t_iTerm), .blk b2 (.cells #[.int .i64 0, .int .i64 0, .string ⟨#[]⟩, .slice none 0 0] t_iTerm), .blk b3 (.cells #[.int .i64 k, .int .i64 cur, .string s, .slice none 0 0] t_iTerm)] S w', ?_, ?_⟩
  · refine r_lenSl hv sl_Sint ?_
    refine r_lss ?_
    by_cases hji : j < vs.length
    · rw [decide_eq_true (show (j : Int) < (vs.length : Int) by omega)]
      repeat (first | refine guard_true ?_ | refine guard_ne (by decide) ?_ | refine guard_undef ?_ | refine r_pickT ?_ | refine r_pickF ?_)
      refine r_fieldL hI 0 rfl fo_iTerm_0 sc_int rfl ?_
      refine r_eql ?_
      repeat (first | refine guard_true ?_ | refine guard_ne (by decide) ?_ | refine guard_undef ?_ | refine r_pickT ?_ | refine r_pickF ?_)
      exact ⟨by rw [decide_eq_true hji]; rfl, hI⟩
    · rw [decide_eq_false (show ¬ (j : Int) < (vs.length : Int) by omega)]
      repeat (first | refine guard_true ?_ | refine guard_ne (by decide) ?_ | refine guard_undef ?_ | refine r_pickT ?_ | refine r_pickF ?_)
      exact ⟨by rw [decide_eq_false hji]; rfl, hI⟩
  intro t _ _ _ _ _ _ _ _ w'
  rintro ⟨rfl, hI⟩
  refine condV (fun hb => ?_) (fun hb => ?_)
  · simp only [Bool.and_eq_true, decide_eq_true_eq] at hb
    obtain ⟨hji, hk⟩ := hb
    rw [if_pos hk, List.drop_eq_getElem_cons hji, lastI] at hrel
    refine ⟨fun w' => Inv w [] [.blk b1 (.cells #[.int .i64 k, .int .i64 n, .string s, kv] t_iTerm), .blk b2 (.cells #[.int .i64 0, .int .i64 0, .string ⟨#[]⟩, .slice none 0 0] t_iTerm), .blk b3 (.cells #[.int .i64 k, .int .i64 (if vs[j] = n then (j : Int) else cur), .string s, .slice none 0 0] t_iTerm)] S w', ?_, ?_⟩
    · obtain ⟨b, o, cap, c, E, fz, rfl, hS, hR⟩ := hv.at_ hji
      refine ⟨fun D x32 x31 x30 x29 x28 x27 x26 w_ => (D 0 = true → x26 = .slice (some ⟨b, o, none⟩) vs.length cap) ∧ (D 1 = true → x27 = .int .i64 j) ∧ (D 2 = true → x28 = .pointer (some ⟨b, o + j * 1, none⟩)) ∧ (D 3 = true → x29 = .int .i64 vs[j]) ∧ (D 4 = true → x30 = .pointer (some ⟨b1, 1, none⟩)) ∧ (D 5 = true → x31 = .int .i64 n) ∧ (D 6 = true → x32 = .bool (decide (vs[j] = n))) ∧ Inv w [] [.blk b1 (.cells #[.int .i64 k, .int .i64 n, .string s, kv] t_iTerm), .blk b2 (.cells #[.int .i64 0, .int .i64 0, .string ⟨#[]⟩, .slice none 0 0] t_iTerm), .blk b3 (.cells #[.int .i64 k, .int .i64 cur, .string s, .slice none 0 0] t_iTerm)] S w_, ⟨fun h => Bool.noConfusion h, fun h => Bool.noConfusion h, fun h => Bool.noConfusion h, fun h => Bool.noConfusion h, fun h => Bool.noConfusion h, fun h => Bool.noConfusion h, fun h => Bool.noConfusion h, hI.draw⟩, ⟨?_, ?_, ?_, ?_, ?_, ?_, ?_, trivial⟩, ?_⟩
      · intro D hD_  x32 x31 x30 x29 x28 x27 x26 w_
        rintro ⟨h0_, h1_, h2_, h3_, h4_, h5_, h6_, hI⟩
        exact ⟨fun _ => rfl, h1_, h2_, h3_, h4_, h5_, h6_, hI⟩
      · intro D hD_  x32 x31 x30 x29 x28 x27 x26 w_
        rintro ⟨h0_, h1_, h2_, h3_, h4_, h5_, h6_, hI⟩
        exact ⟨h0_, fun _ => rfl, h2_, h3_, h4_, h5_, h6_, hI⟩
      · intro D hD_ d0_0 d1_1 x32 x31 x30 x29 x28 x27 x26 w_
        rintro ⟨h0_, h1_, h2_, h3_, h4_, h5_, h6_, hI⟩
        obtain rfl := h0_ d0_0
        obtain rfl := h1_ d1_1
        refine r_indexAddr sl_Sint hji ?_
        exact ⟨h0_, h1_, fun _ => rfl, h3_, h4_, h5_, h6_, hI⟩
      · intro D hD_ d2_0 x32 x31 x30 x29 x28 x27 x26 w_
        rintro ⟨h0_, h1_, h2_, h3_, h4_, h5_, h6_, hI⟩
        obtain rfl := h2_ d2_0
        refine r_load sc_int (by rw [hI.cellS hS]; exact cellsAt_get hR 0 _ rfl) ?_
        exact ⟨h0_, h1_, h2_, fun _ => rfl, h4_, h5_, h6_, hI⟩
      · intro D hD_  x32 x31 x30 x29 x28 x27 x26 w_
        rintro ⟨h0_, h1_, h2_, h3_, h4_, h5_, h6_, hI⟩
        refine r_field fo_iTerm_1 ?_
        exact ⟨h0_, h1_, h2_, h3_, fun _ => rfl, h5_, h6_, hI⟩
      · intro D hD_ d4_0 x32 x31 x30 x29 x28 x27 x26 w_
        rintro ⟨h0_, h1_, h2_, h3_, h4_, h5_, h6_, hI⟩
        obtain rfl := h4_ d4_0
        refine r_loadL hI 0 sc_int rfl rfl ?_
        exact ⟨h0_, h1_, h2_, h3_, h4_, fun _ => rfl, h6_, hI⟩
      · intro D hD_ d3_0 d5_1 x32 x31 x30 x29 x28 x27 x26 w_
        rintro ⟨h0_, h1_, h2_, h3_, h4_, h5_, h6_, hI⟩
        obtain rfl := h3_ d3_0
        obtain rfl := h5_ d5_1
        refine r_eql ?_
        exact ⟨h0_, h1_, h2_, h3_, h4_, h5_, fun _ => rfl, hI⟩
      intro D d6_ d5_ d4_ d3_ d2_ d1_ d0_ x32 x31 x30 x29 x28 x27 x26 w_
      rintro ⟨h0_, h1_, h2_, h3_, h4_, h5_, h6_, hI⟩
      obtain rfl := h6_ d6_
      obtain rfl := h5_ d5_
      obtain rfl := h4_ d4_
      obtain rfl := h3_ d3_
      obtain rfl := h2_ d2_
      obtain rfl := h1_ d1_
      obtain rfl := h0_ d0_
      clear h0_ h1_ h2_ h3_ h4_ h5_ h6_
      refine condP (fun he => ?_) (fun he => ?_)
      · rw [if_pos he]
        exact r_fieldSt hI 2 rfl fo_iTerm_1 sc_int rfl rfl rfl fun w' hI => hI
      · rw [if_neg he]
        exact hI
    intro _ _ _ _ _ _ _ _ _ w' hI
    refine r_add (by omega) ?_
    exact ⟨⟨j + 1, _, hji, rfl, by rw [if_pos hk]; exact hrel, hI⟩, by simp [intOf]; omega⟩
  have hcur : cur = N := by
    by_cases hk : k = 1
    · rw [if_pos hk] at hrel
      have : j = vs.length := by
        have : decide (j < vs.length) = false := by
          rw [decide_eq_true hk, Bool.and_true] at hb
          exact hb
        have := of_decide_eq_false this
        omega
      rw [this, List.drop_length] at hrel
      exact hrel
    · rw [if_neg hk] at hrel
      exact hrel
  clear hrel hb
  subst hcur
  have hI := hI.rowNil t_iTerm 4
  refine ⟨fun i w' => ∃ (j : Nat) (kvc : Value) (Ls : List Heaplet) (css : List (List Value)), j ≤ ks.length ∧ i = .int .i64 j ∧ Grown 4 TrT Ls css (srenL vs (ks.take j)) ∧
      Inv w [] (.blk b1 (.cells #[.int .i64 k, .int .i64 n, .string s, kv] t_iTerm) :: .blk b2 (.cells #[.int .i64 0, .int .i64 0, .string ⟨#[]⟩, .slice none 0 0] t_iTerm) :: .blk b3 (.cells #[.int .i64 k, .int .i64 cur, .string s, kvc] t_iTerm) :: rowG kvc t_iTerm 4 css :: blks Ls.flatten) S w',
    fun i _ => ks.length - (intOf i).toNat, ⟨0, _, [], [], Nat.zero_le _, rfl, Grown.nil _ _, hI⟩, ?_⟩
  intro t7 _ _ _ _ _ _ _ _ _ _ _ _ _ _ _ _ _ _ _ w'
  rintro ⟨j, kvc, Ls, css, hj, rfl, hg, hI⟩
  refine r_fieldL hI 0 rfl fo_iTerm_3 sc_SiTerm rfl ?_
  refine r_lenSl hks sl_SiTerm ?_
  refine r_lss ?_
  refine condP (fun hji => ?_) (fun hji => ?_)
  · have hj' : j < ks.length := by omega
    have hjl : (ks.take j).length = j := by simp; omega
    have hcl := hg.hc
    rw [srenL_len] at hcl
    have hm := List.getElem_mem hj'
    have hwm := wL_mem hm
    obtain ⟨b, o, cap, c, E, fz, rfl, hS, hR⟩ := hks.at_ hj'
    refine ⟨fun D x53 x52 x51 x50 x49 x48 x47 x46 x45 x44 x43 x42 w_ => (D 0 = true → x42 = .pointer (some ⟨b3, 3, none⟩)) ∧ (D 1 = true → x43 = kvc) ∧ (D 2 = true → x44 = .pointer (some ⟨b1, 3, none⟩)) ∧ (D 3 = true → x45 = .slice (some ⟨b, o, none⟩) ks.length cap) ∧ (D 4 = true → x46 = .int .i64 j) ∧ (D 5 = true → x47 = .pointer (some ⟨b, o + j * 4, none⟩)) ∧ (D 6 = true → x48 = .agg (cellsAt c (o + j * 4) 4).toArray) ∧ (D 7 = true → x49 = v) ∧ (D 8 = true → True) ∧ (D 9 = true → True) ∧ (D 10 = true → True) ∧ (D 11 = true → x53 = .pointer (some ⟨b3, 3, none⟩)) ∧ (D 12 = true → True) ∧ ∃ M cs7 b8, (D 8 = true → x50 = .agg cs7.toArray ∧ TrT M cs7 (srenT vs ks[j])) ∧ (D 9 = true → x51 = .slice (some ⟨b8, 0, none⟩) 1 1) ∧ (D 9 = true → D 8 = true) ∧ (D 10 = true → D 9 = true) ∧ (D 12 = true → D 10 = true) ∧ (D 12 = true → D 1 = true) ∧ Inv w [] (cpItems (.blk b1 (.cells #[.int .i64 k, .int .i64 n, .string s, .slice (some ⟨b, o, none⟩) ks.length cap] t_iTerm)) (.blk b2 (.cells #[.int .i64 0, .int .i64 0, .string ⟨#[]⟩, .slice none 0 0] t_iTerm)) (.blk b3 (.cells #[.int .i64 k, .int .i64 cur, .string s, kvc] t_iTerm)) (.blk b3 (.cells #[.int .i64 k, .int .i64 cur, .string s, x52] t_iTerm)) (rowG kvc t_iTerm 4 css) (rowG x52 t_iTerm 4 (css ++ [cs7])) (blks Ls.flatten) M (.blk b8 (.cells cs7.toArray t_iTerm)) (D 8) (D 9) (D 10) (D 12)) S w_, ⟨fun h => Bool.noConfusion h, fun h => Bool.noConfusion h, fun h => Bool.noConfusion h, fun h => Bool.noConfusion h, fun h => Bool.noConfusion h, fun h => Bool.noConfusion h, fun h => Bool.noConfusion h, fun h => Bool.noConfusion h, fun h => Bool.noConfusion h, fun h => Bool.noConfusion h, fun h => Bool.noConfusion h, fun h => Bool.noConfusion h, fun h => Bool.noConfusion h, ⟨[], [], 0, fun h => Bool.noConfusion h, fun h => Bool.noConfusion h, fun h => Bool.noConfusion h, fun h => Bool.noConfusion h, fun h => Bool.noConfusion h, fun h => Bool.noConfusion h, by simpa [cpItems, blks] using hI.draw⟩⟩, ⟨?_, ?_, ?_, ?_, ?_, ?_, ?_, ?_, ?_, ?_, ?_, ?_, ?_, trivial⟩, ?_⟩
    · intro D hD_  x53 x52 x51 x50 x49 x48 x47 x46 x45 x44 x43 x42 w_
      rintro ⟨h0_, h1_, h2_, h3_, h4_, h5_, h6_, h7_, h8_, h9_, h10_, h11_, h12_, ⟨M, cs7, b8, e7, e8, k8, k9, k11, k1, hI⟩⟩
      refine r_field fo_iTerm_3 ?_
      exact ⟨fun _ => rfl, h1_, h2_, h3_, h4_, h5_, h6_, h7_, h8_, h9_, h10_, h11_, h12_, ⟨M, cs7, b8, e7, e8, k8, k9, k11, k1, hI⟩⟩
    · intro D hD_ d0_0 x53 x52 x51 x50 x49 x48 x47 x46 x45 x44 x43 x42 w_
      rintro ⟨h0_, h1_, h2_, h3_, h4_, h5_, h6_, h7_, h8_, h9_, h10_, h11_, h12_, ⟨M, cs7, b8, e7, e8, k8, k9, k11, k1, hI⟩⟩
      obtain rfl := h0_ d0_0
      have f11 : D 12 = false := Bool.eq_false_iff.2 fun h => by rw [k1 h] at hD_; cases hD_
      refine r_loadL (b := b3) hI 2 (c := (#[.int .i64 k, .int .i64 cur, .string s, kvc])) sc_SiTerm (by rw [f11]; rfl) rfl ?_
      have k1 := fun (_ : setD D 1 12 = true) => (rfl : setD D 1 1 = true)
      exact ⟨h0_, fun _ => rfl, h2_, h3_, h4_, h5_, h6_, h7_, h8_, h9_, h10_, h11_, h12_, ⟨M, cs7, b8, e7, e8, k8, k9, k11, k1, hI⟩⟩
    · intro D hD_  x53 x52 x51 x50 x49 x48 x47 x46 x45 x44 x43 x42 w_
      rintro ⟨h0_, h1_, h2_, h3_, h4_, h5_, h6_, h7_, h8_, h9_, h10_, h11_, h12_, ⟨M, cs7, b8, e7, e8, k8, k9, k11, k1, hI⟩⟩
      refine r_field fo_iTerm_3 ?_
      exact ⟨h0_, h1_, fun _ => rfl, h3_, h4_, h5_, h6_, h7_, h8_, h9_, h10_, h11_, h12_, ⟨M, cs7, b8, e7, e8, k8, k9, k11, k1, hI⟩⟩
    · intro D hD_ d2_0 x53 x52 x51 x50 x49 x48 x47 x46 x45 x44 x43 x42 w_
      rintro ⟨h0_, h1_, h2_, h3_, h4_, h5_, h6_, h7_, h8_, h9_, h10_, h11_, h12_, ⟨M, cs7, b8, e7, e8, k8, k9, k11, k1, hI⟩⟩
      obtain rfl := h2_ d2_0
      refine r_loadL hI 0 sc_SiTerm rfl rfl ?_
      exact ⟨h0_, h1_, h2_, fun _ => rfl, h4_, h5_, h6_, h7_, h8_, h9_, h10_, h11_, h12_, ⟨M, cs7, b8, e7, e8, k8, k9, k11, k1, hI⟩⟩
    · intro D hD_  x53 x52 x51 x50 x49 x48 x47 x46 x45 x44 x43 x42 w_
      rintro ⟨h0_, h1_, h2_, h3_, h4_, h5_, h6_, h7_, h8_, h9_, h10_, h11_, h12_, ⟨M, cs7, b8, e7, e8, k8, k9, k11, k1, hI⟩⟩
      exact ⟨h0_, h1_, h2_, h3_, fun _ => rfl, h5_, h6_, h7_, h8_, h9_, h10_, h11_, h12_, ⟨M, cs7, b8, e7, e8, k8, k9, k11, k1, hI⟩⟩
    · intro D hD_ d3_0 d4_1 x53 x52 x51 x50 x49 x48 x47 x46 x45 x44 x43 x42 w_
      rintro ⟨h0_, h1_, h2_, h3_, h4_, h5_, h6_, h7_, h8_, h9_, h10_, h11_, h12_, ⟨M, cs7, b8, e7, e8, k8, k9, k11, k1, hI⟩⟩
      obtain rfl := h3_ d3_0
      obtain rfl := h4_ d4_1
      refine r_indexAddr sl_SiTerm hj' ?_
      exact ⟨h0_, h1_, h2_, h3_, h4_, fun _ => rfl, h6_, h7_, h8_, h9_, h10_, h11_, h12_, ⟨M, cs7, b8, e7, e8, k8, k9, k11, k1, hI⟩⟩
    · intro D hD_ d5_0 x53 x52 x51 x50 x49 x48 x47 x46 x45 x44 x43 x42 w_
      rintro ⟨h0_, h1_, h2_, h3_, h4_, h5_, h6_, h7_, h8_, h9_, h10_, h11_, h12_, ⟨M, cs7, b8, e7, e8, k8, k9, k11, k1, hI⟩⟩
      obtain rfl := h5_ d5_0
      refine r_loadA ag_iTerm hR.length (fun j v hj => by rw [hI.cellS hS]; exact cellsAt_get rfl j v hj) ?_
      exact ⟨h0_, h1_, h2_, h3_, h4_, h5_, fun _ => rfl, h7_, h8_, h9_, h10_, h11_, h12_, ⟨M, cs7, b8, e7, e8, k8, k9, k11, k1, hI⟩⟩
    · intro D hD_  x53 x52 x51 x50 x49 x48 x47 x46 x45 x44 x43 x42 w_
      rintro ⟨h0_, h1_, h2_, h3_, h4_, h5_, h6_, h7_, h8_, h9_, h10_, h11_, h12_, ⟨M, cs7, b8, e7, e8, k8, k9, k11, k1, hI⟩⟩
      exact ⟨h0_, h1_, h2_, h3_, h4_, h5_, h6_, fun _ => rfl, h8_, h9_, h10_, h11_, h12_, ⟨M, cs7, b8, e7, e8, k8, k9, k11, k1, hI⟩⟩
    · intro D hD_ d6_0 d7_1 x53 x52 x51 x50 x49 x48 x47 x46 x45 x44 x43 x42 w_
      rintro ⟨h0_, h1_, h2_, h3_, h4_, h5_, h6_, h7_, h8_, h9_, h10_, h11_, h12_, ⟨M, cs7, b8, e7, e8, k8, k9, k11, k1, hI⟩⟩
      obtain rfl := h6_ d6_0
      obtain rfl := h7_ d7_1
      have f8 : D 9 = false := Bool.eq_false_iff.2 fun h => by rw [k8 h] at hD_; cases hD_
      have f9 : D 10 = false := Bool.eq_false_iff.2 fun h => by rw [k9 h] at f8; cases f8
      have f11 : D 12 = false := Bool.eq_false_iff.2 fun h => by rw [k11 h] at f9; cases f9
      rw [hD_, f8, f9, f11] at hI
      refine Run.call0 fn_s_l1Rename nm_s_l1Rename hI (ih _ (List.getElem_mem hj') S _ _ hR hv (by omega)) fun v' I' S w_ => ?_
      rintro ⟨rfl, cs7, M, rfl, rfl, hT⟩ _ hI
      have e7 : setD D 8 8 = true → Value.agg cs7.toArray = Value.agg cs7.toArray ∧ TrT M cs7 (srenT vs ks[j]) := fun _ => ⟨rfl, hT⟩
      have k8 := fun (_ : setD D 8 9 = true) => (rfl : setD D 8 8 = true)
      have hI : Inv w [] (cpItems (.blk b1 (.cells #[.int .i64 k, .int .i64 n, .string s, .slice (some ⟨b, o, none⟩) ks.length cap] t_iTerm)) (.blk b2 (.cells #[.int .i64 0, .int .i64 0, .string ⟨#[]⟩, .slice none 0 0] t_iTerm)) (.blk b3 (.cells #[.int .i64 k, .int .i64 cur, .string s, kvc] t_iTerm)) (.blk b3 (.cells #[.int .i64 k, .int .i64 cur, .string s, x52] t_iTerm)) (rowG kvc t_iTerm 4 css) (rowG x52 t_iTerm 4 (css ++ [cs7])) (blks Ls.flatten) M (.blk b8 (.cells cs7.toArray t_iTerm)) true (D 9) (D 10) (D 12)) S w_ := by
        rw [f8, f9, f11]
        simpa [cpItems] using hI
      exact ⟨h0_, h1_, h2_, h3_, h4_, h5_, h6_, h7_, fun _ => by first | assumption | trivial, h9_, h10_, h11_, h12_, ⟨M, cs7, b8, e7, e8, k8, k9, k11, k1, hI⟩⟩
    · intro D hD_ d8_0 x53 x52 x51 x50 x49 x48 x47 x46 x45 x44 x43 x42 w_
      rintro ⟨h0_, h1_, h2_, h3_, h4_, h5_, h6_, h7_, h8_, h9_, h10_, h11_, h12_, ⟨M, cs7, b8, e7, e8, k8, k9, k11, k1, hI⟩⟩
      have g8_ := h8_ d8_0
      have f9 : D 10 = false := Bool.eq_false_iff.2 fun h => by rw [k9 h] at hD_; cases hD_
      have f11 : D 12 = false := Bool.eq_false_iff.2 fun h => by rw [k11 h] at f9; cases f9
      obtain ⟨q7, hT⟩ := e7 d8_0
      subst q7
      rw [d8_0, hD_, f9, f11] at hI
      refine r_slice1 hI mk_SiTerm (by simp [Value.cells, hT.length]) (by omega) (by omega) fun b8 w_ hI => ?_
      have e7 : setD D 9 8 = true → Value.agg cs7.toArray = Value.agg cs7.toArray ∧ TrT M cs7 (srenT vs ks[j]) := fun _ => ⟨rfl, hT⟩
      have e8 := fun (_ : setD D 9 9 = true) => (rfl : Value.slice (some ⟨b8, 0, none⟩) 1 1 = _)
      have k8 := fun (_ : setD D 9 9 = true) => d8_0
      have k9 := fun (_ : setD D 9 10 = true) => (rfl : setD D 9 9 = true)
      have hI : Inv w [] (cpItems (.blk b1 (.cells #[.int .i64 k, .int .i64 n, .string s, .slice (some ⟨b, o, none⟩) ks.length cap] t_iTerm)) (.blk b2 (.cells #[.int .i64 0, .int .i64 0, .string ⟨#[]⟩, .slice none 0 0] t_iTerm)) (.blk b3 (.cells #[.int .i64 k, .int .i64 cur, .string s, kvc] t_iTerm)) (.blk b3 (.cells #[.int .i64 k, .int .i64 cur, .string s, x52] t_iTerm)) (rowG kvc t_iTerm 4 css) (rowG x52 t_iTerm 4 (css ++ [cs7])) (blks Ls.flatten) M (.blk b8 (.cells cs7.toArray t_iTerm)) (D 8) true (D 10) (D 12)) S w_ := by
        rw [d8_0, f9, f11]
        simpa [cpItems, Value.cells] using hI
      exact ⟨h0_, h1_, h2_, h3_, h4_, h5_, h6_, h7_, h8_, fun _ => by first | assumption | trivial, h10_, h11_, h12_, ⟨M, cs7, b8, e7, e8, k8, k9, k11, k1, hI⟩⟩
    · intro D hD_ d1_0 d9_1 d8_2 x53 x52 x51 x50 x49 x48 x47 x46 x45 x44 x43 x42 w_
      rintro ⟨h0_, h1_, h2_, h3_, h4_, h5_, h6_, h7_, h8_, h9_, h10_, h11_, h12_, ⟨M, cs7, b8, e7, e8, k8, k9, k11, k1, hI⟩⟩
      obtain rfl := h1_ d1_0
      have g9_ := h9_ d9_1
      have f11 : D 12 = false := Bool.eq_false_iff.2 fun h => by rw [k11 h] at hD_; cases hD_
      have q8 := e8 d9_1
      subst q8
      obtain ⟨_, hT⟩ := e7 d8_2
      rw [d8_2, d9_1, hD_, f11] at hI
      have hblk : ((cpItems (.blk b1 (.cells #[.int .i64 k, .int .i64 n, .string s, .slice (some ⟨b, o, none⟩) ks.length cap] t_iTerm)) (.blk b2 (.cells #[.int .i64 0, .int .i64 0, .string ⟨#[]⟩, .slice none 0 0] t_iTerm)) (.blk b3 (.cells #[.int .i64 k, .int .i64 cur, .string s, x43] t_iTerm)) (.blk b3 (.cells #[.int .i64 k, .int .i64 cur, .string s, x52] t_iTerm)) (rowG x43 t_iTerm 4 css) (rowG x52 t_iTerm 4 (css ++ [cs7])) (blks Ls.flatten) M (.blk b8 (.cells cs7.toArray t_iTerm)) true true false false))[4 + (blks Ls.flatten).length + (blks M).length]? = some (.blk b8 (.cells cs7.toArray t_iTerm)) := by
        have e4 : 4 + (blks Ls.flatten).length + (blks M).length = ((blks Ls.flatten).length + (blks M).length) + 1 + 1 + 1 + 1 := by omega
        rw [e4]
        simp only [cpItems, List.getElem?_cons_succ]
        rw [List.getElem?_append_right (by omega), Nat.add_sub_cancel_left, List.getElem?_append_right (Nat.le_refl _), Nat.sub_self]; rfl
      refine r_append hI 3 cs7 mk_SiTerm (by omega) rfl (by rw [hT.length]) (m := 1) (o := 0) ?_ hT.one (by omega) (by omega) fun v' w_ hI => ?_
      · intro i u hi
        rw [hI.cellL hblk, Nat.zero_add]
        simpa using hi
      rw [rowG_snoc] at hI
      have k9 := fun (_ : setD D 10 10 = true) => d9_1
      have k11 := fun (_ : setD D 10 12 = true) => (rfl : setD D 10 10 = true)
      have hI : Inv w [] (cpItems (.blk b1 (.cells #[.int .i64 k, .int .i64 n, .string s, .slice (some ⟨b, o, none⟩) ks.length cap] t_iTerm)) (.blk b2 (.cells #[.int .i64 0, .int .i64 0, .string ⟨#[]⟩, .slice none 0 0] t_iTerm)) (.blk b3 (.cells #[.int .i64 k, .int .i64 cur, .string s, x43] t_iTerm)) (.blk b3 (.cells #[.int .i64 k, .int .i64 cur, .string s, v'] t_iTerm)) (rowG x43 t_iTerm 4 css) (rowG v' t_iTerm 4 (css ++ [cs7])) (blks Ls.flatten) M (.blk b8 (.cells cs7.toArray t_iTerm)) (D 8) (D 9) true (D 12)) S w_ := by
        rw [d8_2, d9_1, f11]
        exact hI
      exact ⟨h0_, h1_, h2_, h3_, h4_, h5_, h6_, h7_, h8_, h9_, fun _ => by first | assumption | trivial, h11_, h12_, ⟨M, cs7, b8, e7, e8, k8, k9, k11, k1, hI⟩⟩
    · intro D hD_ d0_0 d1_1 d2_2 d3_3 d4_4 d5_5 d6_6 d7_7 d8_8 d9_9 d10_10 x53 x52 x51 x50 x49 x48 x47 x46 x45 x44 x43 x42 w_
      rintro ⟨h0_, h1_, h2_, h3_, h4_, h5_, h6_, h7_, h8_, h9_, h10_, h11_, h12_, ⟨M, cs7, b8, e7, e8, k8, k9, k11, k1, hI⟩⟩
      refine r_field fo_iTerm_3 ?_
      exact ⟨h0_, h1_, h2_, h3_, h4_, h5_, h6_, h7_, h8_, h9_, h10_, fun _ => rfl, h12_, ⟨M, cs7, b8, e7, e8, k8, k9, k11, k1, hI⟩⟩
    · intro D hD_ d11_0 d10_1 d10_2 d0_3 d1_4 d2_5 d3_6 d4_7 d5_8 d6_9 d7_10 d8_11 d9_12 d10_13 x53 x52 x51 x50 x49 x48 x47 x46 x45 x44 x43 x42 w_
      rintro ⟨h0_, h1_, h2_, h3_, h4_, h5_, h6_, h7_, h8_, h9_, h10_, h11_, h12_, ⟨M, cs7, b8, e7, e8, k8, k9, k11, k1, hI⟩⟩
      obtain rfl := h11_ d11_0
      have g10_ := h10_ d10_1
      rw [d8_11, d9_12, d10_1, hD_] at hI
      obtain ⟨va, vn, vc, hv9⟩ := Inv.rowSlice hI 3 rfl
      refine r_store hI 2 (n := 1) (by rw [hv9]; rfl) (by decide +kernel) rfl (by simp) (by rw [hv9]; simp [Value.cells, Value.oneCell']) fun w_ hI => ?_
      have hcl9 : Value.cells x52 = #[x52] := by rw [hv9]; rfl
      rw [hcl9] at hI
      have k1 := fun (_ : setD D 12 12 = true) => d1_4
      have k11 := fun (_ : setD D 12 12 = true) => d10_1
      have hI : Inv w [] (cpItems (.blk b1 (.cells #[.int .i64 k, .int .i64 n, .string s, .slice (some ⟨b, o, none⟩) ks.length cap] t_iTerm)) (.blk b2 (.cells #[.int .i64 0, .int .i64 0, .string ⟨#[]⟩, .slice none 0 0] t_iTerm)) (.blk b3 (.cells #[.int .i64 k, .int .i64 cur, .string s, kvc] t_iTerm)) (.blk b3 (.cells #[.int .i64 k, .int .i64 cur, .string s, x52] t_iTerm)) (rowG kvc t_iTerm 4 css) (rowG x52 t_iTerm 4 (css ++ [cs7])) (blks Ls.flatten) M (.blk b8 (.cells cs7.toArray t_iTerm)) (D 8) (D 9) (D 10) true) S w_ := by
        rw [d8_11, d9_12, d10_1]
        exact hI
      exact ⟨h0_, h1_, h2_, h3_, h4_, h5_, h6_, h7_, h8_, h9_, h10_, h11_, fun _ => trivial, ⟨M, cs7, b8, e7, e8, k8, k9, k11, k1, hI⟩⟩
    intro D d12_ d11_ d10_ d9_ d8_ d7_ d6_ d5_ d4_ d3_ d2_ d1_ d0_ x53 x52 x51 x50 x49 x48 x47 x46 x45 x44 x43 x42 w_
    rintro ⟨h0_, h1_, h2_, h3_, h4_, h5_, h6_, h7_, h8_, h9_, h10_, h11_, h12_, ⟨M, cs7, b8, e7, e8, k8, k9, k11, k1, hI⟩⟩
    obtain rfl := h11_ d11_
    have g10_ := h10_ d10_
    have g9_ := h9_ d9_
    have g8_ := h8_ d8_
    obtain rfl := h7_ d7_
    obtain rfl := h6_ d6_
    obtain rfl := h5_ d5_
    obtain rfl := h4_ d4_
    obtain rfl := h3_ d3_
    obtain rfl := h2_ d2_
    obtain rfl := h1_ d1_
    obtain rfl := h0_ d0_
    clear h0_ h1_ h2_ h3_ h4_ h5_ h6_ h7_ h8_ h9_ h10_ h11_ h12_
    obtain ⟨_, hT⟩ := e7 d8_
    rw [d8_, d9_, d10_, d12_] at hI
    refine r_add (by omega) ?_
    refine ⟨⟨j + 1, x52, Ls ++ [M], css ++ [cs7], hj', rfl, ?_, ?_⟩, by simp [intOf]; omega⟩
    · rw [srenL_take vs ks j hj']
      exact hg.snoc hT hT.length
    · simp only [List.flatten_append, List.flatten_cons, List.flatten_nil, List.append_nil, blks_append]
      refine hI.sub ?_
      simp only [cpItems]
      rw [← List.append_assoc]
      exact (((List.sublist_append_left _ _).cons_cons _).cons_cons _).cons_cons _ |>.cons_cons _
  · have : j = ks.length := by omega
    subst this
    rw [List.take_length] at hg
    obtain ⟨va, vn, vc, hvk⟩ := hI.rowSlice 3 rfl
    have hv1 : kvc.oneCell' = true := by rw [hvk]; rfl
    refine r_loadW hI 2 ag_iTerm rfl rfl ?_
    refine r_storeW hI 1 rfl ag_iTerm rfl rfl ?_ fun w' hI => ?_
    · intro u hu
      have hu' : u ∈ ([.int .i64 k, .int .i64 cur, .string s, kvc] : List Value) := hu
      simp at hu'
      rcases hu' with rfl | rfl | rfl | rfl <;> first | rfl | exact hv1
    refine loadV_W hI 1 ag_iTerm rfl rfl ?_
    have hI : Inv w [] ([] ++ (rowG kvc t_iTerm 4 css :: blks Ls.flatten)) S w' := hI.sub (List.sublist_append_right [_, _, _] _)
    obtain ⟨L, hT, hI⟩ := Inv.rowTree hI hg
    exact ⟨_, _, _, rfl, hI, Ext.refl _ _ _, rfl, _, L, rfl, rfl, TrT.iff.2 ⟨kvc, by rw [srenT, ← hN]; rfl, by rw [srenT]; exact h1, by rw [srenT, ← hN]; exact hNi, by rw [srenT]; exact hs, by rw [srenT]; exact hT⟩⟩
end

end Go.Proofs.Ytaaihodhhacapaa

/- spec.RenumberClause: lists and clauses. -/
namespace Go.Proofs.Ytaaihodhhacapaa
open Go Go.RowKit
section
variable {w : World} {K : Value → World → Prop}
attribute [local irreducible] Run
theorem r_buildClause0 (hk : K (.agg #[.int .i64 0, .int .i64 0, .string ⟨#[]⟩, .slice none 0 0, .slice none 0 0]) w) : Run Try.prog (sBuild t_iClause []) w K := by
  refine Run.of (v := .agg #[.int .i64 0, .int .i64 0, .string ⟨#[]⟩, .slice none 0 0, .slice none 0 0]) (w' := w) ?_ hk
  unfold sBuild
  rw [Sem.run_bind, run_build w t_iClause _ #[.int .i64 0, .int .i64 0, .string ⟨#[]⟩, .slice none 0 0, .slice none 0 0] (by kernel_rfl), Result.andThen_ok]
  rfl
end
theorem svars_split (ts : List T) (j : Nat) (h : j < ts.length) (l : List Int) : svarsL (ts.drop j) l = svarsL (ts.drop (j + 1)) (svarsT ts[j] l) := by
  rw [List.drop_eq_getElem_cons h, svarsL]
section
attribute [local irreducible] Run CondV GuardV LoadV
theorem l1Renumber_calls {ts : List T} {S : Store} {v : Value} (h : RdSl S 4 (RdT S) v ts) (hw : ts.length + wL ts ≤ 1048577) : Tri Try.prog n_s_l1Renumber [v] [] S (PostS 4 TrT S (srenL (svarsL ts []) ts)) := by
  intro w hI
  have hlen := h.le
  simp only [maxLen] at hlen
  have hcl := cnt_wL ts
  refine calls_s_l1Renumber ?_
  unfold sh_s_l1Renumber
  refine r_slice0 hI mk_Sint fun v0 w' hI => ?_
  refine ⟨fun i t w' => ∃ (j : Nat) (l : List Int), j ≤ ts.length ∧ i = .int .i64 j ∧ svarsL (ts.drop j) l = svarsL ts [] ∧ l.length + cntL (ts.drop j) ≤ 3000000 ∧ Inv w [] [rowI t l] S w',
    fun i _ _ => ts.length - (intOf i).toNat, ⟨0, [], Nat.zero_le _, rfl, rfl, by simp only [List.drop_zero, List.length_nil]; omega, hI⟩, ?_⟩
  intro t4 _ _ t3 _ _ _ _ _ _ _ _ _ _ w'
  rintro ⟨j, l, hj, rfl, hvs, hl, hI⟩
  refine r_lenSl h sl_SiTerm ?_
  refine r_lss ?_
  refine condP (fun hji => ?_) (fun hji => ?_)
  · have hj' : j < ts.length := by omega
    rw [cntL_split ts j hj'] at hl
    rw [svars_split ts j hj'] at hvs
    have hc1 := cntL_pos (ts.drop (j + 1))
    have hc2 := svarsT_le ts[j] l
    refine r_elem hI h sl_SiTerm ag_iTerm hj' (fun _ _ => RdT.length) fun cs' hcs' => ?_
    refine Run.call (A := []) fn_s_l1Vars nm_s_l1Vars hI (l1Vars_calls _ S cs' t3 l hcs' (by omega)) fun v' I' S' w' => ?_
    rintro ⟨rfl, rfl⟩ _ hI
    refine r_add (by omega) ?_
    exact ⟨⟨j + 1, _, hj', rfl, hvs, by omega, hI⟩, by simp [intOf]; omega⟩
  have : j = ts.length := by omega
  subst this
  rw [List.drop_length, svarsL] at hvs
  rw [List.drop_length] at hl
  subst hvs
  have hl' : (svarsL ts []).length ≤ 1000000000 := by
    have : cntL ([] : List T) = 0 := rfl
    omega
  clear hl
  generalize svarsL ts [] = vs at hI hl' ⊢
  obtain ⟨S1, hle1, hrd, hI, _⟩ := Inv.lend (A := []) hI
  have hrd := hrd.ints
  have h := h.mono hle1 fun _ _ h => h.mono hle1
  refine r_slice0 hI mk_SiTerm fun v1 w' hI => ?_
  refine ⟨fun i t w' => ∃ (k : Nat) (Ls : List Heaplet) (css : List (List Value)), k ≤ ts.length ∧ i = .int .i64 k ∧ Grown 4 TrT Ls css (srenL vs (ts.take k)) ∧ Inv w [] (rowG t t_iTerm 4 css :: blks Ls.flatten) S1 w',
    fun i _ _ => ts.length - (intOf i).toNat, ⟨0, [], [], Nat.zero_le _, rfl, Grown.nil _ _, hI⟩, ?_⟩
  intro t6 _ _ t5 _ _ _ _ _ _ _ _ _ _ _ _ _ w'
  rintro ⟨k, Ls, css, hk, rfl, hg, hI⟩
  refine r_lenSl h sl_SiTerm ?_
  refine r_lss ?_
  refine condP (fun hki => ?_) (fun hki => ?_)
  · have hk' : k < ts.length := by omega
    have htl : (ts.take k).length = k := by simp; omega
    have hcl := hg.hc
    rw [srenL_len] at hcl
    have hm := List.getElem_mem hk'
    have hwm := wL_mem hm
    refine r_elem hI h sl_SiTerm ag_iTerm hk' (fun _ _ => RdT.length) fun cs hcs => ?_
    refine Run.call0 fn_s_l1Rename nm_s_l1Rename hI (l1Rename_calls vs hl' _ S1 cs _ hcs hrd (by omega)) fun v' I' S' w' => ?_
    rintro ⟨rfl, cs', L, rfl, rfl, hT⟩ _ hI
    refine r_append1 hI 0 cs' mk_SiTerm (by omega) (by omega) rfl hT.length hT.one (by omega) (by omega) fun v' w' hI => ?_
    refine r_add (by omega) ?_
    refine ⟨⟨k + 1, Ls ++ [L], css ++ [cs'], hk', rfl, ?_, ?_⟩, by simp [intOf]; omega⟩
    · rw [srenL_take vs ts k hk']
      exact hg.snoc hT hT.length
    · simp only [List.flatten_append, List.flatten_cons, List.flatten_nil, List.append_nil, blks_append]
      exact hI
  · have : k = ts.length := by omega
    subst this
    rw [List.take_length] at hg
    obtain ⟨L, hT, hI⟩ := Inv.rowTree (A := []) hI hg
    exact ⟨_, _, _, rfl, hI.less hle1, Ext.refl _ _ _, rfl, _, rfl, hT⟩
abbrev PostR (c : C) : Value → List Item → Store → Prop := fun v I' S' => I' = [] ∧ ∃ cs, v = .agg cs.toArray ∧ RdC S' cs c
abbrev PostRB (c : C) (ok : Bool) : Value → List Item → Store → Prop := fun v I' S' => I' = [] ∧ ∃ cs, v = .tuple #[.agg cs.toArray, .bool ok] ∧ RdC S' cs c
def numB (c : C) : C := if clauseB c = true then numC (cvars c) c else ⟨⟨0, 0, ⟨#[]⟩, []⟩, []⟩
theorem RdC.zero (S : Store) : RdC S [.int .i64 0, .int .i64 0, .string ⟨#[]⟩, .slice none 0 0, .slice none 0 0] ⟨⟨0, 0, ⟨#[]⟩, []⟩, []⟩ :=
  ⟨[.int .i64 0, .int .i64 0, .string ⟨#[]⟩, .slice none 0 0], .slice none 0 0, rfl, RdT.iff.2 ⟨_, rfl, by simp [inI, T.kind], by simp [inI, T.n], by rw [T.name]; decide +kernel, ⟨none, 0, rfl, Nat.le_refl _, Nat.zero_le _, .inl rfl⟩⟩, ⟨none, 0, rfl, Nat.le_refl _, Nat.zero_le _, .inl rfl⟩⟩
end

end Go.Proofs.Ytaaihodhhacapaa

/- spec: resolved terms, if they are small. -/
namespace Go.Proofs.Ytaaihodhhacapaa
open Go Go.RowKit
mutual
def depB : T → Int → Bool
  | .mk _ _ _ ks, d => if d < 1 then false else depL ks (d - 1)
def depL : List T → Int → Bool
  | [], _ => true
  | t :: ts, d => depB t d && depL ts d
end
theorem depL_all : ∀ (ts : List T) (d : Int), depL ts d = ts.all fun t => depB t d
  | [], _ => rfl
  | t :: ts, d => by rw [depL, depL_all ts d]; rfl
def smallB (u : T) : Bool := decide (cntT u ≤ 120) && depB u 30
theorem cntL_take (us : List T) (j : Nat) (h : j < us.length) : cntL (us.take (j + 1)) = cntL (us.take j) + cntT us[j] := by
  induction us generalizing j with
  | nil => simp at h
  | cons u us ih =>
    cases j with
    | zero => simp only [List.take_succ_cons, List.take_zero, List.getElem_cons_zero, cntL]; omega
    | succ j =>
      have := ih j (by simpa using h)
      simp only [List.take_succ_cons, List.getElem_cons_succ, cntL] at *
      omega
theorem cntL_take_le (us : List T) (j : Nat) : cntL (us.take j) ≤ cntL us := by
  induction us generalizing j with
  | nil => simp
  | cons u us ih =>
    cases j with
    | zero => simp only [List.take_zero]; exact cntL_pos _
    | succ j =>
      have := ih j
      simp only [List.take_succ_cons, cntL]
      omega
theorem cntT_mk (k n : Int) (s : ByteArray) (ks : List T) : cntT (.mk k n s ks) = 1 + cntL ks := rfl
theorem row_cells' {w : World} {v : Value} {e : TypeId} {k n : Nat} {xs : List Value} (h : (Item.row v e k n xs).holds w) : v.cells = #[v] ∧ v.oneCell' = true := by
  have h : w.ownsRow 0 e k v n xs := h
  rcases h.2 with ⟨rfl, _⟩ | ⟨g, cap, cur, rfl, _⟩ <;> exact ⟨rfl, rfl⟩
section
attribute [local irreducible] Run CondV GuardV LoadV
theorem r_buildTerm0 {K : Value → World → Prop} {w : World} (hk : K (.agg #[.int .i64 0, .int .i64 0, .string ⟨#[]⟩, .slice none 0 0]) w) : Run Try.prog (sBuild t_iTerm []) w K := by
  refine Run.of ?_ hk
  kernel_rfl
theorem l6Flat_calls : ∀ (t : T) (d : Int) (S : Store) (cs : List Value), RdT S cs t → -1000000 ≤ d → d ≤ 1000000 → Pure Try.prog n_s_l6Flat [.agg cs.toArray, .int .i64 d] S (.bool (depB t d)) := by
  refine T.ind fun k n s ks ih d S cs h hd0 hd1 => ?_
  intro w hI
  obtain ⟨kv, rfl, _, _, _, hks⟩ := RdT.iff.1 h
  simp only [T.name, T.kids, T.kind, T.n] at hks ⊢
  have hlen := hks.le
  simp only [maxLen] at hlen
  refine calls_s_l6Flat ?_
  unfold sh_s_l6Flat
  refine r_box hI fun b2 w' hI => ?_
  rw [depB]
  refine r_lss ?_
  refine condP (fun hd => ?_) (fun hd => ?_)
  · rw [if_pos hd]
    exact done hI rfl
  rw [if_neg hd, depL_all]
  refine ⟨fun i w' => ∃ j : Nat, j ≤ ks.length ∧ i = .int .i64 j ∧ ((ks.drop j).all fun t => depB t (d - 1)) = (ks.all fun t => depB t (d - 1)) ∧ Inv w [] [.blk b2 (.cells #[.int .i64 k, .int .i64 n, .string s, kv] t_iTerm)] S w',
    fun i _ => ks.length - (intOf i).toNat, ⟨0, Nat.zero_le _, rfl, rfl, hI⟩, ?_⟩
  intro t5 _ _ _ _ _ _ _ _ _ _ _ _ _ _ _ _ _ w'
  rintro ⟨j, hj, rfl, hrel, hI⟩
  refine r_fieldL hI 0 rfl fo_iTerm_3 sc_SiTerm rfl ?_
  refine r_lenSl hks sl_SiTerm ?_
  refine r_lss ?_
  refine condP (fun hji => ?_) (fun hji => ?_)
  · have hj' : j < ks.length := by omega
    have hstep := all_drop (fun t => depB t (d - 1)) ks j hj'
    refine r_fieldL hI 0 rfl fo_iTerm_3 sc_SiTerm rfl ?_
    refine r_elem hI hks sl_SiTerm ag_iTerm hj' (fun _ _ => RdT.length) fun cs hcs => ?_
    refine r_sub (by omega) ?_
    refine Run.callPure fn_s_l6Flat nm_s_l6Flat hI (ih _ (List.getElem_mem hj') (d - 1) S cs hcs (by omega) (by omega)) fun w' hI => ?_
    refine r_not ?_
    refine condV (fun hne => done hI ?_) (fun he => ?_)
    · have hne' : depB ks[j] (d - 1) = false := by simpa using hne
      rw [← hrel, hstep, hne']; rfl
    · have he' : depB ks[j] (d - 1) = true := by simpa using he
      refine r_add (by omega) ?_
      exact ⟨⟨j + 1, hj', rfl, by rw [← hrel, hstep, he']; rfl, hI⟩, by simp [intOf]; omega⟩
  · have : j = ks.length := by omega
    subst this
    exact done hI (by rw [← hrel, List.drop_length]; rfl)
/- a tuple of a term and of how many nodes are left -/
def PostF (kb : Nat) (kc : Array Value) (u : T) (room : Int) : Value → List Item → Store → Prop := fun q I' S' => I' = [.blk kb (.cells kc t_iTerm)] ∧
  ∃ cs' : List Value, cs'.length = 4 ∧ (∀ x ∈ cs', x.oneCell' = true) ∧ q = .tuple #[.agg cs'.toArray, .int .i64 (if cntT u ≤ room then room - cntT u else -1)] ∧ (cntT u ≤ room → RdT S' cs' u)
def FC (N kp : Nat) (st : Known) (t u : T) : Prop := ∀ (S : Store) (cs : List Value) (kb : Nat) (kc : Array Value) (room : Int), RdT S cs t → KnU S kc st → -1 ≤ room → room ≤ 1000000 →
  Tri Try.prog n_s_l3Full [.agg cs.toArray, kvU kb N kp, .int .i64 room] [.blk kb (.cells kc t_iTerm)] S (PostF kb kc u room)
theorem zero_one : ∀ x ∈ ([.int .i64 0, .int .i64 0, .string ⟨#[]⟩, .slice none 0 0] : List Value), x.oneCell' = true := by simp [Value.oneCell']
theorem l3Full_body {N kp : Nat} {st : Known} {t v : T} {us : List T} (hg : Good N st) (hwv : WalkR st t v) (hot : okU N t ∧ wT t ≤ 1048576) (hlu : us.length = v.kids.length)
    (hk : ∀ i (h : i < us.length) (h' : i < v.kids.length), FC N kp st v.kids[i] us[i]) : FC N kp st t (.mk v.kind v.n v.name us) := by
  intro S cs kb kc room h hkc hr0 hr1 w hI
  have hlc := h.length
  have hov := walk_ok hg hwv hot
  obtain ⟨X, hX⟩ : ∃ X, X = feet [Item.blk kb (.cells kc t_iTerm)] := ⟨_, rfl⟩
  rw [← hX] at hI ⊢
  have hcu := cntL_pos us
  refine calls_s_l3Full ?_
  unfold sh_s_l3Full
  refine r_box hI fun b3 w' hI => ?_
  refine r_alloc hI zo_iTerm fun b6 w' hI => ?_
  have hI : Inv w X ([.blk b3 (.cells cs.toArray t_iTerm), .blk b6 (.cells #[.int .i64 0, .int .i64 0, .string ⟨#[]⟩, .slice none 0 0] t_iTerm)] ++ [.blk kb (.cells kc t_iTerm)]) S w' := hI.perm (List.perm_append_comm (l₁ := [_, _]) (l₂ := [_]))
  refine r_lss ?_
  refine condP (fun hlt => ?_) (fun hlt => ?_)
  · refine r_buildTerm0 ?_
    refine r_storeW hI 1 rfl ag_iTerm rfl rfl zero_one fun w' hI => ?_
    refine loadV_W hI 1 ag_iTerm rfl rfl ?_
    refine ⟨_, _, _, rfl, hI.pick [false, false, true], Ext.refl _ _ _, rfl, _, rfl, zero_one, ?_, fun h => ?_⟩
    · rw [cntT_mk, if_neg (by omega)]
    · rw [cntT_mk] at h; omega
  refine r_loadW hI 0 ag_iTerm rfl (by simpa using hlc) ?_
  refine Run.call fn_s_l3Walk nm_s_l3Walk hI (l3Walk_calls hg hwv hot.1 h hkc) fun v' I' S' w' => ?_
  rintro ⟨eS, rfl, cs', rfl, hcs'⟩ _ hI
  rw [eS] at hI
  clear eS
  refine r_storeW hI 0 rfl ag_iTerm (by simpa using hcs'.length) (by simpa using hlc) (by simpa using hcs'.one) fun w' hI => ?_
  obtain ⟨kv, rfl, hi1, hi2, hs, hks⟩ := RdT.iff.1 hcs'
  have hI : Inv w X [.blk b3 (.cells #[.int .i64 v.kind, .int .i64 v.n, .string v.name, kv] t_iTerm), .blk b6 (.cells #[.int .i64 0, .int .i64 0, .string ⟨#[]⟩, .slice none 0 0] t_iTerm), .blk kb (.cells kc t_iTerm)] S w' := hI
  have hlen := hks.le
  have hkl : v.kids.length ≤ 1048576 := by
    have := hov.2
    cases v
    simp only [wT] at this
    simp only [T.kids]
    omega
  refine r_fieldL hI 0 rfl fo_iTerm_0 sc_int rfl ?_
  refine r_fieldL hI 0 rfl fo_iTerm_1 sc_int rfl ?_
  refine r_fieldL hI 0 rfl fo_iTerm_2 sc_string rfl ?_
  refine r_buildTerm ?_
  refine r_alloc hI zo_iTerm fun b8 w' hI => ?_
  have hI : Inv w X [.blk b3 (.cells #[.int .i64 v.kind, .int .i64 v.n, .string v.name, kv] t_iTerm), .blk b6 (.cells #[.int .i64 0, .int .i64 0, .string ⟨#[]⟩, .slice none 0 0] t_iTerm), .blk b8 _, .blk kb (.cells kc t_iTerm)] S w' := hI.perm (((List.perm_append_comm (l₁ := [_]) (l₂ := [_])).cons _).cons _)
  refine r_storeW hI 2 rfl ag_iTerm rfl rfl (by simp [Value.oneCell']) fun w' hI => ?_
  refine r_sub (by omega) ?_
  have hI := hI.rowNil t_iTerm 4
  have hI : Inv w X [.blk b3 (.cells #[.int .i64 v.kind, .int .i64 v.n, .string v.name, kv] t_iTerm), .blk b6 (.cells #[.int .i64 0, .int .i64 0, .string ⟨#[]⟩, .slice none 0 0] t_iTerm), .blk b8 (.cells #[.int .i64 v.kind, .int .i64 v.n, .string v.name, .slice none 0 0] t_iTerm), rowG (.slice none 0 0) t_iTerm 4 [], .blk kb (.cells kc t_iTerm)] S w' := hI.perm ((((List.perm_append_comm (l₁ := [_]) (l₂ := [_])).cons _).cons _).cons _)
  refine ⟨fun i l w' => ∃ (j : Nat) (left : Int) (kvc : Value) (css : List (List Value)) (S1 : Store), j ≤ us.length ∧ i = .int .i64 j ∧ l = .int .i64 left ∧ Ext w.heap.size X S S1 ∧ css.length = j ∧
      ((left = room - 1 - cntL (us.take j) ∧ 0 ≤ left ∧ Rows 4 (RdT S1) css (us.take j)) ∨ (left = -1 ∧ room - 1 < cntL us)) ∧
      Inv w X [.blk b3 (.cells #[.int .i64 v.kind, .int .i64 v.n, .string v.name, kv] t_iTerm), .blk b6 (.cells #[.int .i64 0, .int .i64 0, .string ⟨#[]⟩, .slice none 0 0] t_iTerm), .blk b8 (.cells #[.int .i64 v.kind, .int .i64 v.n, .string v.name, kvc] t_iTerm), rowG kvc t_iTerm 4 css, .blk kb (.cells kc t_iTerm)] S1 w',
    fun i _ _ => us.length - (intOf i).toNat, ⟨0, room - 1, _, [], S, Nat.zero_le _, rfl, rfl, Ext.refl _ _ _, rfl, .inl ⟨by simp [cntL], by omega, Rows.nil _ _⟩, hI⟩, ?_⟩
  intro t10 _ _ t9 _ _ _ _ _ _ _ _ _ _ _ _ _ _ _ _ _ _ _ _ _ _ _ _ _ _ _ _ _ w'
  rintro ⟨j, left, kvc, css, S1, hj, rfl, rfl, hE, hcl, hst, hI⟩
  refine ⟨fun q w' => q = .bool (decide (j < us.length ∧ 0 ≤ left)) ∧ Inv w X [.blk b3 (.cells #[.int .i64 v.kind, .int .i64 v.n, .string v.name, kv] t_iTerm), .blk b6 (.cells #[.int .i64 0, .int .i64 0, .string ⟨#[]⟩, .slice none 0 0] t_iTerm), .blk b8 (.cells #[.int .i64 v.kind, .int .i64 v.n, .string v.name, kvc] t_iTerm), rowG kvc t_iTerm 4 css, .blk kb (.cells kc t_iTerm)] S1 w', ?_, ?_⟩
  · refine r_fieldL hI 0 rfl fo_iTerm_3 sc_SiTerm rfl ?_
    refine r_lenSl hks sl_SiTerm ?_
    refine r_lss ?_
    by_cases e1 : (j : Int) < (v.kids.length : Nat)
    · rw [decide_eq_true e1]
      repeat (first | refine guard_true ?_ | refine guard_ne (by decide) ?_ | refine guard_undef ?_ | refine r_pickT ?_ | refine r_pickF ?_)
      refine r_geq ?_
      repeat (first | refine guard_true ?_ | refine guard_ne (by decide) ?_ | refine guard_undef ?_ | refine r_pickT ?_ | refine r_pickF ?_)
      refine ⟨?_, hI⟩
      congr 1
      rw [Bool.eq_iff_iff, decide_eq_true_eq, decide_eq_true_eq]
      omega
    · rw [decide_eq_false e1]
      repeat (first | refine guard_true ?_ | refine guard_ne (by decide) ?_ | refine guard_undef ?_ | refine r_pickT ?_ | refine r_pickF ?_)
      refine ⟨?_, hI⟩
      rw [decide_eq_false (by omega)]
  intro q _ _ _ _ _ _ _ _ w'
  rintro ⟨rfl, hI⟩
  refine condP (fun hgo => ?_) (fun hgo => ?_)
  · obtain ⟨hj1, hl0⟩ := hgo
    have hj2 : j < v.kids.length := by omega
    obtain ⟨hleft, _, hR⟩ : left = room - 1 - cntL (us.take j) ∧ 0 ≤ left ∧ Rows 4 (RdT S1) css (us.take j) := by
      rcases hst with h1 | ⟨h1, _⟩
      · exact h1
      · omega
    have hpos := cntL_pos (us.take j)
    refine r_fieldL hI 0 rfl fo_iTerm_3 sc_SiTerm rfl ?_
    refine r_elem hI (hks.monoT hE.1) sl_SiTerm ag_iTerm hj2 (fun _ _ => RdT.length) fun cs0 hcs0 => ?_
    have hI : Inv w X ([.blk b3 (.cells #[.int .i64 v.kind, .int .i64 v.n, .string v.name, kv] t_iTerm), .blk b6 (.cells #[.int .i64 0, .int .i64 0, .string ⟨#[]⟩, .slice none 0 0] t_iTerm), .blk b8 (.cells #[.int .i64 v.kind, .int .i64 v.n, .string v.name, kvc] t_iTerm), rowG kvc t_iTerm 4 css] ++ [.blk kb (.cells kc t_iTerm)]) S1 _ := hI
    refine Run.callE fn_s_l3Full nm_s_l3Full hI (hk j hj1 hj2 S1 cs0 kb kc left hcs0 (hkc.mono hE.1) (by omega) (by omega)) fun v' I' S2 w' => ?_
    rintro ⟨rfl, cs2, hl4, ho4, rfl, hrd⟩ hE2 hI
    refine r_extract rfl ?_
    refine r_extract rfl ?_
    refine r_alloc hI zo_iTerm fun b11 w' hI => ?_
    have hI := hI.perm (M := .blk b11 _ :: [.blk b3 (.cells #[.int .i64 v.kind, .int .i64 v.n, .string v.name, kv] t_iTerm), .blk b6 (.cells #[.int .i64 0, .int .i64 0, .string ⟨#[]⟩, .slice none 0 0] t_iTerm), .blk b8 (.cells #[.int .i64 v.kind, .int .i64 v.n, .string v.name, kvc] t_iTerm), rowG kvc t_iTerm 4 css, .blk kb (.cells kc t_iTerm)]) (List.perm_append_comm (l₁ := [_]))
    refine r_storeW hI 0 rfl ag_iTerm (by simpa using hl4) rfl (by simpa using ho4) fun w' hI => ?_
    refine r_fieldL (b := b8) (c := #[.int .i64 v.kind, .int .i64 v.n, .string v.name, kvc]) hI 3 rfl fo_iTerm_3 sc_SiTerm rfl ?_
    refine r_loadW hI 0 ag_iTerm rfl (by simpa using hl4) ?_
    refine r_append1 hI 4 cs2 mk_SiTerm (by omega) (by omega) rfl hl4 ho4 (by omega) (by omega) fun kvc2 w' hI => ?_
    have hkv2 := row_cells' (hI.its (rowG kvc2 t_iTerm 4 (css ++ [cs2])) (by simp))
    refine r_fieldSt (b := b8) (c := #[.int .i64 v.kind, .int .i64 v.n, .string v.name, kvc]) hI 3 rfl fo_iTerm_3 sc_SiTerm rfl hkv2.1 hkv2.2 fun w' hI => ?_
    have hI : Inv w X [.blk b3 (.cells #[.int .i64 v.kind, .int .i64 v.n, .string v.name, kv] t_iTerm), .blk b6 (.cells #[.int .i64 0, .int .i64 0, .string ⟨#[]⟩, .slice none 0 0] t_iTerm), .blk b8 (.cells #[.int .i64 v.kind, .int .i64 v.n, .string v.name, kvc2] t_iTerm), rowG kvc2 t_iTerm 4 (css ++ [cs2]), .blk kb (.cells kc t_iTerm)] S2 w' := hI.pick [false, true, true, true, true, true]
    refine r_add (by omega) ?_
    have hct := cntL_take us j hj1
    have hcle := cntL_take_le us (j + 1)
    have hc0 := cntT_pos us[j]
    refine ⟨⟨j + 1, _, kvc2, css ++ [cs2], S2, hj1, rfl, rfl, hE.trans hE2, by simp [hcl], ?_, hI⟩, by simp [intOf]; omega⟩
    by_cases hfit : cntT us[j] ≤ left
    · left
      rw [if_pos hfit]
      refine ⟨by omega, by omega, ?_⟩
      rw [List.take_succ_eq_append_getElem hj1]
      exact (hR.monoR fun _ _ h => RdT.mono hE2.1 h).snoc (hrd hfit) hl4
    · right
      rw [if_neg hfit]
      exact ⟨rfl, by omega⟩
  · refine r_loadW (b := b8) (c := #[.int .i64 v.kind, .int .i64 v.n, .string v.name, kvc]) hI 2 ag_iTerm rfl rfl ?_
    have hkv2 := row_cells' (hI.its (rowG kvc t_iTerm 4 css) (by simp))
    have hone : ∀ x ∈ ([.int .i64 v.kind, .int .i64 v.n, .string v.name, kvc] : List Value), x.oneCell' = true := by
      intro x hx
      simp at hx
      rcases hx with rfl | rfl | rfl | rfl <;> first | rfl | exact hkv2.2
    refine r_storeW hI 1 rfl ag_iTerm rfl rfl hone fun w' hI => ?_
    refine loadV_W (c := #[.int .i64 v.kind, .int .i64 v.n, .string v.name, kvc]) hI 1 ag_iTerm rfl rfl ?_
    have hI : Inv w X ([.blk kb (.cells kc t_iTerm)] ++ [rowG kvc t_iTerm 4 css]) S1 w' := (hI.pick [false, false, false, true, true]).perm (List.Perm.swap ..)
    rcases hst with ⟨h1, h2, hR⟩ | ⟨h1, h2⟩
    · have hje : j = us.length := by omega
      rw [hje, List.take_length] at h1 hR
      obtain ⟨S3, hE3, hrd, hI⟩ := hI.lendExt
      have hrr := RowRd.rows (hR.monoR fun _ _ h => RdT.mono hE3.1 h) hrd
      refine ⟨_, _, _, rfl, hI, hE.trans hE3, rfl, [.int .i64 v.kind, .int .i64 v.n, .string v.name, kvc], rfl, hone, ?_, fun _ => RdT.iff.2 ⟨kvc, rfl, hi1, hi2, hs, hrr⟩⟩
      rw [cntT_mk, if_pos (by omega), show left = room - (1 + cntL us) by omega]
    · refine ⟨_, _, _, rfl, hI.sub (List.sublist_append_left _ _), hE, rfl, [.int .i64 v.kind, .int .i64 v.n, .string v.name, kvc], rfl, hone, ?_, fun h => ?_⟩
      · rw [cntT_mk, if_neg (by omega), h1]
      · rw [cntT_mk] at h; omega
theorem l3Full_calls {N kp : Nat} {st : Known} (hg : Good N st) {j : RJob} (hr : Res st j) : match j with
    | .one t u => (okU N t ∧ wT t ≤ 1048576) → FC N kp st t u
    | .list ts us => (∀ t ∈ ts, okU N t ∧ wT t ≤ 1048576) → us.length = ts.length ∧ ∀ i (h : i < us.length) (h' : i < ts.length), FC N kp st ts[i] us[i] := by
  induction hr with
  | one hw _ ih =>
    intro ho
    have h1 := ih (kids_ok (walk_ok hg hw ho))
    exact l3Full_body hg hw ho h1.1 h1.2
  | nil => exact fun _ => ⟨rfl, fun i h _ => by simp at h⟩
  | cons _ _ ih1 ih2 =>
    intro ho
    obtain ⟨h1, h2⟩ := ih2 fun t ht => ho t (List.mem_cons_of_mem _ ht)
    refine ⟨by simp [h1], fun i h h' => ?_⟩
    cases i with
    | zero => exact ih1 (ho _ (List.mem_cons_self ..))
    | succ i => exact h2 i (by simpa using h) (by simpa using h')
def PostSm (kb : Nat) (kc : Array Value) (u : T) : Value → List Item → Store → Prop := fun q I' S' => I' = [.blk kb (.cells kc t_iTerm)] ∧
  ∃ cs' : List Value, cs'.length = 4 ∧ (∀ x ∈ cs', x.oneCell' = true) ∧ q = .tuple #[.agg cs'.toArray, .bool (smallB u)] ∧ (smallB u = true → RdT S' cs' u)
theorem l6Small_calls {N kp : Nat} {st : Known} (hg : Good N st) {t u : T} (hr : Res st (.one t u)) (ho : okU N t ∧ wT t ≤ 1048576) {S : Store} {cs : List Value} {kb : Nat} {kc : Array Value} (h : RdT S cs t) (hkc : KnU S kc st) :
    Tri Try.prog n_s_l6Small [.agg cs.toArray, kvU kb N kp] [.blk kb (.cells kc t_iTerm)] S (PostSm kb kc u) := by
  intro w hI
  have hlc := h.length
  obtain ⟨X, hX⟩ : ∃ X, X = feet [Item.blk kb (.cells kc t_iTerm)] := ⟨_, rfl⟩
  rw [← hX] at hI ⊢
  have hfull : FC N kp st t u := l3Full_calls hg hr ho
  refine calls_s_l6Small ?_
  unfold sh_s_l6Small
  refine r_box hI fun b2 w' hI => ?_
  refine r_alloc hI zo_iTerm fun b4 w' hI => ?_
  have hI : Inv w X ([.blk b2 (.cells cs.toArray t_iTerm), .blk b4 (.cells #[.int .i64 0, .int .i64 0, .string ⟨#[]⟩, .slice none 0 0] t_iTerm)] ++ [.blk kb (.cells kc t_iTerm)]) S w' := hI.perm (List.perm_append_comm (l₁ := [_, _]) (l₂ := [_]))
  refine r_loadW hI 0 ag_iTerm rfl (by simpa using hlc) ?_
  refine Run.callE fn_s_l3Full nm_s_l3Full hI (hfull S cs kb kc 120 h hkc (by omega) (by omega)) fun v' I' S1 w' => ?_
  rintro ⟨rfl, cs', hl4, ho4, rfl, hrd⟩ hE hI
  refine r_extract rfl ?_
  refine r_extract rfl ?_
  refine r_alloc hI zo_iTerm fun b6 w' hI => ?_
  have hI : Inv w X [.blk b2 (.cells cs.toArray t_iTerm), .blk b4 (.cells #[.int .i64 0, .int .i64 0, .string ⟨#[]⟩, .slice none 0 0] t_iTerm), .blk kb (.cells kc t_iTerm), .blk b6 _] S1 w' := hI
  refine r_storeW hI 3 rfl ag_iTerm (by simpa using hl4) rfl (by simpa using ho4) fun w' hI => ?_
  have hI : Inv w X [.blk b2 (.cells cs.toArray t_iTerm), .blk b4 (.cells #[.int .i64 0, .int .i64 0, .string ⟨#[]⟩, .slice none 0 0] t_iTerm), .blk kb (.cells kc t_iTerm), .blk b6 (.cells cs'.toArray t_iTerm)] S1 w' := hI
  by_cases hc : cntT u ≤ 120
  · rw [if_pos hc]
    have hc0 := cntT_pos u
    have hru := hrd hc
    refine ⟨fun D x5 x20 x19 x18 x17 x16 x15 x14 w_ => (D 0 = true → x14 = .agg cs'.toArray) ∧ (D 1 = true → x15 = .int .i64 (120 - cntT u)) ∧ (D 2 = true → x16 = .bool true) ∧ (D 3 = true → x17 = .bool true) ∧ (D 4 = true → x18 = .agg cs'.toArray) ∧ (D 5 = true → x19 = .bool (depB u 30)) ∧ (D 6 = true → x20 = .bool (depB u 30)) ∧ (D 7 = true → True) ∧ (D 8 = true → x5 = .bool (depB u 30)) ∧ Inv w X [.blk b2 (.cells cs.toArray t_iTerm), .blk b4 (.cells (cond (D 7) cs'.toArray #[.int .i64 0, .int .i64 0, .string ⟨#[]⟩, .slice none 0 0]) t_iTerm), .blk kb (.cells kc t_iTerm), .blk b6 (.cells cs'.toArray t_iTerm)] S1 w_, ⟨fun h => Bool.noConfusion h, fun h => Bool.noConfusion h, fun h => Bool.noConfusion h, fun h => Bool.noConfusion h, fun h => Bool.noConfusion h, fun h => Bool.noConfusion h, fun h => Bool.noConfusion h, fun h => Bool.noConfusion h, fun h => Bool.noConfusion h, hI.draw⟩, ⟨?_, ?_, ?_, ?_, ?_, ?_, ?_, ?_, ?_, trivial⟩, ?_⟩
    · intro D hD_  x5 x20 x19 x18 x17 x16 x15 x14 w_
      rintro ⟨h0_, h1_, h2_, h3_, h4_, h5_, h6_, h7_, h8_, hI⟩
      refine r_loadW hI 3 ag_iTerm rfl (by simpa using hl4) ?_
      exact ⟨fun _ => rfl, h1_, h2_, h3_, h4_, h5_, h6_, h7_, h8_, hI⟩
    · intro D hD_  x5 x20 x19 x18 x17 x16 x15 x14 w_
      rintro ⟨h0_, h1_, h2_, h3_, h4_, h5_, h6_, h7_, h8_, hI⟩
      exact ⟨h0_, fun _ => rfl, h2_, h3_, h4_, h5_, h6_, h7_, h8_, hI⟩
    · intro D hD_ d1_0 x5 x20 x19 x18 x17 x16 x15 x14 w_
      rintro ⟨h0_, h1_, h2_, h3_, h4_, h5_, h6_, h7_, h8_, hI⟩
      obtain rfl := h1_ d1_0
      refine r_geq ?_
      rw [decide_eq_true (by omega)]
      exact ⟨h0_, h1_, fun _ => rfl, h3_, h4_, h5_, h6_, h7_, h8_, hI⟩
    · intro D hD_ d2_0 x5 x20 x19 x18 x17 x16 x15 x14 w_
      rintro ⟨h0_, h1_, h2_, h3_, h4_, h5_, h6_, h7_, h8_, hI⟩
      obtain rfl := h2_ d2_0
      exact ⟨h0_, h1_, h2_, fun _ => rfl, h4_, h5_, h6_, h7_, h8_, hI⟩
    · intro D hD_ d3_0 x5 x20 x19 x18 x17 x16 x15 x14 w_
      rintro ⟨h0_, h1_, h2_, h3_, h4_, h5_, h6_, h7_, h8_, hI⟩
      obtain rfl := h3_ d3_0
      repeat (first | refine guard_true ?_ | refine guard_ne (by decide) ?_ | refine guard_undef ?_ | refine r_pickT ?_ | refine r_pickF ?_)
      refine r_loadW hI 3 ag_iTerm rfl (by simpa using hl4) ?_
      exact ⟨h0_, h1_, h2_, h3_, fun _ => rfl, h5_, h6_, h7_, h8_, hI⟩
    · intro D hD_ d4_0 d3_1 d3_2 x5 x20 x19 x18 x17 x16 x15 x14 w_
      rintro ⟨h0_, h1_, h2_, h3_, h4_, h5_, h6_, h7_, h8_, hI⟩
      obtain rfl := h4_ d4_0
      obtain rfl := h3_ d3_1
      repeat (first | refine guard_true ?_ | refine guard_ne (by decide) ?_ | refine guard_undef ?_ | refine r_pickT ?_ | refine r_pickF ?_)
      refine Run.callPure fn_s_l6Flat nm_s_l6Flat hI (l6Flat_calls u 30 S1 cs' hru (by omega) (by omega)) fun w_ hI => ?_
      exact ⟨h0_, h1_, h2_, h3_, h4_, fun _ => rfl, h6_, h7_, h8_, hI⟩
    · intro D hD_ d3_0 d5_1 x5 x20 x19 x18 x17 x16 x15 x14 w_
      rintro ⟨h0_, h1_, h2_, h3_, h4_, h5_, h6_, h7_, h8_, hI⟩
      obtain rfl := h3_ d3_0
      obtain rfl := h5_ d5_1
      repeat (first | refine guard_true ?_ | refine guard_ne (by decide) ?_ | refine guard_undef ?_ | refine r_pickT ?_ | refine r_pickF ?_)
      exact ⟨h0_, h1_, h2_, h3_, h4_, h5_, fun _ => rfl, h7_, h8_, hI⟩
    · intro D hD_ d0_0 d5_1 d0_2 x5 x20 x19 x18 x17 x16 x15 x14 w_
      rintro ⟨h0_, h1_, h2_, h3_, h4_, h5_, h6_, h7_, h8_, hI⟩
      obtain rfl := h0_ d0_0
      rw [hD_] at hI
      refine r_storeW hI 1 rfl ag_iTerm (by simpa using hl4) rfl (by simpa using ho4) fun w_ hI => ?_
      exact ⟨h0_, h1_, h2_, h3_, h4_, h5_, h6_, fun _ => trivial, h8_, hI⟩
    · intro D hD_ d6_0 d7_1 d0_2 d1_3 d2_4 d3_5 d4_6 d5_7 d6_8 d7_9 x5 x20 x19 x18 x17 x16 x15 x14 w_
      rintro ⟨h0_, h1_, h2_, h3_, h4_, h5_, h6_, h7_, h8_, hI⟩
      obtain rfl := h6_ d6_0
      exact ⟨h0_, h1_, h2_, h3_, h4_, h5_, h6_, h7_, fun _ => rfl, hI⟩
    intro D d8_ d7_ d6_ d5_ d4_ d3_ d2_ d1_ d0_ x5 x20 x19 x18 x17 x16 x15 x14 w_
    rintro ⟨h0_, h1_, h2_, h3_, h4_, h5_, h6_, h7_, h8_, hI⟩
    obtain rfl := h8_ d8_
    obtain rfl := h6_ d6_
    obtain rfl := h5_ d5_
    obtain rfl := h4_ d4_
    obtain rfl := h3_ d3_
    obtain rfl := h2_ d2_
    obtain rfl := h1_ d1_
    obtain rfl := h0_ d0_
    clear h0_ h1_ h2_ h3_ h4_ h5_ h6_ h7_ h8_
    rw [d7_] at hI
    refine loadV_W hI 1 ag_iTerm rfl (by simpa using hl4) ?_
    have e : smallB u = depB u 30 := by rw [smallB, decide_eq_true hc, Bool.true_and]
    exact ⟨_, _, _, rfl, hI.pick [false, false, true, false], hE, rfl, cs', hl4, ho4, by rw [e]; rfl, fun _ => hru⟩
  · rw [if_neg hc]
    refine ⟨fun D x5 x20 x19 x18 x17 x16 x15 x14 w_ => (D 0 = true → x14 = .agg cs'.toArray) ∧ (D 1 = true → x15 = .int .i64 (-1)) ∧ (D 2 = true → x16 = .bool false) ∧ (D 3 = true → x17 = .bool false) ∧ (D 4 = true → x18 = undef) ∧ (D 5 = true → x19 = undef) ∧ (D 6 = true → x20 = .bool false) ∧ (D 7 = true → True) ∧ (D 8 = true → x5 = .bool false) ∧ Inv w X [.blk b2 (.cells cs.toArray t_iTerm), .blk b4 (.cells (cond (D 7) cs'.toArray #[.int .i64 0, .int .i64 0, .string ⟨#[]⟩, .slice none 0 0]) t_iTerm), .blk kb (.cells kc t_iTerm), .blk b6 (.cells cs'.toArray t_iTerm)] S1 w_, ⟨fun h => Bool.noConfusion h, fun h => Bool.noConfusion h, fun h => Bool.noConfusion h, fun h => Bool.noConfusion h, fun h => Bool.noConfusion h, fun h => Bool.noConfusion h, fun h => Bool.noConfusion h, fun h => Bool.noConfusion h, fun h => Bool.noConfusion h, hI.draw⟩, ⟨?_, ?_, ?_, ?_, ?_, ?_, ?_, ?_, ?_, trivial⟩, ?_⟩
    · intro D hD_  x5 x20 x19 x18 x17 x16 x15 x14 w_
      rintro ⟨h0_, h1_, h2_, h3_, h4_, h5_, h6_, h7_, h8_, hI⟩
      refine r_loadW hI 3 ag_iTerm rfl (by simpa using hl4) ?_
      exact ⟨fun _ => rfl, h1_, h2_, h3_, h4_, h5_, h6_, h7_, h8_, hI⟩
    · intro D hD_  x5 x20 x19 x18 x17 x16 x15 x14 w_
      rintro ⟨h0_, h1_, h2_, h3_, h4_, h5_, h6_, h7_, h8_, hI⟩
      exact ⟨h0_, fun _ => rfl, h2_, h3_, h4_, h5_, h6_, h7_, h8_, hI⟩
    · intro D hD_ d1_0 x5 x20 x19 x18 x17 x16 x15 x14 w_
      rintro ⟨h0_, h1_, h2_, h3_, h4_, h5_, h6_, h7_, h8_, hI⟩
      obtain rfl := h1_ d1_0
      refine r_geq ?_
      rw [decide_eq_false (by omega)]
      exact ⟨h0_, h1_, fun _ => rfl, h3_, h4_, h5_, h6_, h7_, h8_, hI⟩
    · intro D hD_ d2_0 x5 x20 x19 x18 x17 x16 x15 x14 w_
      rintro ⟨h0_, h1_, h2_, h3_, h4_, h5_, h6_, h7_, h8_, hI⟩
      obtain rfl := h2_ d2_0
      exact ⟨h0_, h1_, h2_, fun _ => rfl, h4_, h5_, h6_, h7_, h8_, hI⟩
    · intro D hD_ d3_0 x5 x20 x19 x18 x17 x16 x15 x14 w_
      rintro ⟨h0_, h1_, h2_, h3_, h4_, h5_, h6_, h7_, h8_, hI⟩
      obtain rfl := h3_ d3_0
      repeat (first | refine guard_true ?_ | refine guard_ne (by decide) ?_ | refine guard_undef ?_ | refine r_pickT ?_ | refine r_pickF ?_)
      exact ⟨h0_, h1_, h2_, h3_, fun _ => rfl, h5_, h6_, h7_, h8_, hI⟩
    · intro D hD_ d4_0 d3_1 d3_2 x5 x20 x19 x18 x17 x16 x15 x14 w_
      rintro ⟨h0_, h1_, h2_, h3_, h4_, h5_, h6_, h7_, h8_, hI⟩
      obtain rfl := h4_ d4_0
      obtain rfl := h3_ d3_1
      repeat (first | refine guard_true ?_ | refine guard_ne (by decide) ?_ | refine guard_undef ?_ | refine r_pickT ?_ | refine r_pickF ?_)
      exact ⟨h0_, h1_, h2_, h3_, h4_, fun _ => rfl, h6_, h7_, h8_, hI⟩
    · intro D hD_ d3_0 d5_1 x5 x20 x19 x18 x17 x16 x15 x14 w_
      rintro ⟨h0_, h1_, h2_, h3_, h4_, h5_, h6_, h7_, h8_, hI⟩
      obtain rfl := h3_ d3_0
      obtain rfl := h5_ d5_1
      repeat (first | refine guard_true ?_ | refine guard_ne (by decide) ?_ | refine guard_undef ?_ | refine r_pickT ?_ | refine r_pickF ?_)
      exact ⟨h0_, h1_, h2_, h3_, h4_, h5_, fun _ => rfl, h7_, h8_, hI⟩
    · intro D hD_ d0_0 d5_1 d0_2 x5 x20 x19 x18 x17 x16 x15 x14 w_
      rintro ⟨h0_, h1_, h2_, h3_, h4_, h5_, h6_, h7_, h8_, hI⟩
      obtain rfl := h0_ d0_0
      rw [hD_] at hI
      refine r_storeW hI 1 rfl ag_iTerm (by simpa using hl4) rfl (by simpa using ho4) fun w_ hI => ?_
      exact ⟨h0_, h1_, h2_, h3_, h4_, h5_, h6_, fun _ => trivial, h8_, hI⟩
    · intro D hD_ d6_0 d7_1 d0_2 d1_3 d2_4 d3_5 d4_6 d5_7 d6_8 d7_9 x5 x20 x19 x18 x17 x16 x15 x14 w_
      rintro ⟨h0_, h1_, h2_, h3_, h4_, h5_, h6_, h7_, h8_, hI⟩
      obtain rfl := h6_ d6_0
      exact ⟨h0_, h1_, h2_, h3_, h4_, h5_, h6_, h7_, fun _ => rfl, hI⟩
    intro D d8_ d7_ d6_ d5_ d4_ d3_ d2_ d1_ d0_ x5 x20 x19 x18 x17 x16 x15 x14 w_
    rintro ⟨h0_, h1_, h2_, h3_, h4_, h5_, h6_, h7_, h8_, hI⟩
    obtain rfl := h8_ d8_
    obtain rfl := h6_ d6_
    obtain rfl := h5_ d5_
    obtain rfl := h4_ d4_
    obtain rfl := h3_ d3_
    obtain rfl := h2_ d2_
    obtain rfl := h1_ d1_
    obtain rfl := h0_ d0_
    clear h0_ h1_ h2_ h3_ h4_ h5_ h6_ h7_ h8_
    rw [d7_] at hI
    refine loadV_W hI 1 ag_iTerm rfl (by simpa using hl4) ?_
    have e : smallB u = false := by rw [smallB, decide_eq_false hc, Bool.false_and]
    exact ⟨_, _, _, rfl, hI.pick [false, false, true, false], hE, rfl, cs', hl4, ho4, by rw [e]; rfl, fun h => by rw [e] at h; cases h⟩
end

end Go.Proofs.Ytaaihodhhacapaa

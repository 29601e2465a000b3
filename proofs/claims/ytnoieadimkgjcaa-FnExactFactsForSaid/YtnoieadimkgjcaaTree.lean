/- Data that a function has made for itself: trees of blocks that nobody else knows. -/
import Derived.Test.YtnoieadimkgjcaaRules2
namespace Go.Proofs.Ytnoieadimkgjcaa
open Go Go.RowKit
attribute [local irreducible] Run CondV GuardV LoadV

abbrev Heaplet := List (Nat × Obj)
def blks (L : Heaplet) : List Item := L.map fun p => .blk p.1 p.2
theorem blks_append (L M : Heaplet) : blks (L ++ M) = blks L ++ blks M := by simp [blks]
def Ins (S : Store) (L : Heaplet) : Prop := ∀ p ∈ L, S p.1 = some p.2
theorem Ins.mono {S S' : Store} {L : Heaplet} (h : Ins S L) (hs : Sle S S') : Ins S' L := fun p hp => hs _ _ (h p hp)
theorem Ins.left {S : Store} {L M : Heaplet} (h : Ins S (L ++ M)) : Ins S L := fun p hp => h p (List.mem_append_left _ hp)
theorem Ins.right {S : Store} {L M : Heaplet} (h : Ins S (L ++ M)) : Ins S M := fun p hp => h p (List.mem_append_right _ hp)
theorem mem_feet_blks {L : Heaplet} {b : Nat} : b ∈ feet (blks L) ↔ ∃ p ∈ L, p.1 = b := by
  simp only [feet, blks, List.mem_flatMap, List.mem_map]
  constructor
  · rintro ⟨it, ⟨p, hp, rfl⟩, hb⟩
    simp only [Item.foot, List.mem_singleton] at hb
    exact ⟨p, hp, hb.symm⟩
  · rintro ⟨p, hp, rfl⟩
    exact ⟨_, ⟨p, hp, rfl⟩, by simp [Item.foot]⟩

theorem Inv.publishAll {w0 w : World} {X : List Nat} {A : List Item} : ∀ (L : Heaplet) {S : Store}, Inv w0 X (A ++ blks L) S w →
    ∃ S', Inv w0 X A S' w ∧ Sle S S' ∧ Ins S' L ∧ ∀ b o, S' b = some o → S b = some o ∨ b ∈ feet (blks L)
  | [], S, h => ⟨S, by simpa [blks] using h, Sle.refl S, by intro p hp; simp at hp, fun b o hb => .inl hb⟩
  | p :: L, S, h => by
    have hi : (A ++ blks (p :: L))[A.length]? = some (.blk p.1 p.2) := by simp [blks]
    obtain ⟨h1, h2⟩ := h.publish hi
    have he : (A ++ blks (p :: L)).eraseIdx A.length = A ++ blks L := by simp [blks, List.eraseIdx_append_of_length_le]
    rw [he] at h1
    obtain ⟨S', h3, h4, h5, h6⟩ := publishAll L h1
    refine ⟨S', h3, h2.trans h4, fun q hq => ?_, fun b o hb => ?_⟩
    · rcases List.mem_cons.1 hq with rfl | hq
      · exact h4 _ _ (by simp [addS])
      · exact h5 q hq
    · rcases h6 b o hb with h7 | h7
      · simp only [addS] at h7
        split at h7
        · rename_i e; right; rw [mem_feet_blks]; exact ⟨p, List.mem_cons_self .., e.symm⟩
        · exact .inl h7
      · right
        obtain ⟨q, hq, e⟩ := mem_feet_blks.1 h7
        exact mem_feet_blks.2 ⟨q, List.mem_cons_of_mem _ hq, e⟩

/- a slice of elements, its array and all behind it being the function's own -/
def TrSl {α : Type} (k : Nat) (R : Heaplet → List Value → α → Prop) (L : Heaplet) (v : Value) (xs : List α) : Prop :=
  ∃ a cap, v = .slice a xs.length cap ∧ xs.length ≤ cap ∧ cap ≤ maxLen ∧
    ((xs = [] ∧ L = []) ∨ ∃ b c E, ∃ Ls : List Heaplet, a = some ⟨b, 0, none⟩ ∧ L = (b, .cells c E) :: Ls.flatten ∧ Ls.length = xs.length ∧ cap * k ≤ c.size ∧
      ∀ i (h : i < xs.length) (h' : i < Ls.length), R Ls[i] (cellsAt c (i * k) k) xs[i])
inductive TrT : Heaplet → List Value → T → Prop
  | nil {k n : Int} {s : ByteArray} {a : Option Addr} {cap : Nat} (hk : inI k) (hn : inI n) (hs : s.size ≤ maxLen) (hc : cap ≤ maxLen) :
      TrT [] [.int .i64 k, .int .i64 n, .string s, .slice a 0 cap] (.mk k n s [])
  | cons {k n : Int} {s : ByteArray} {kids : List T} {b cap : Nat} {c : Array Value} {E : TypeId} {Ls : List Heaplet} (hk : inI k) (hn : inI n) (hs : s.size ≤ maxLen) (hl : kids.length ≤ cap) (hc : cap ≤ maxLen)
      (hLs : Ls.length = kids.length) (hsz : cap * 4 ≤ c.size) (h : ∀ i (h : i < kids.length) (h' : i < Ls.length), TrT Ls[i] (cellsAt c (i * 4) 4) kids[i]) :
      TrT ((b, .cells c E) :: Ls.flatten) [.int .i64 k, .int .i64 n, .string s, .slice (some ⟨b, 0, none⟩) kids.length cap] (.mk k n s kids)
theorem TrT.iff {L : Heaplet} {cs : List Value} {t : T} : TrT L cs t ↔
    ∃ ks, cs = [.int .i64 t.kind, .int .i64 t.n, .string t.name, ks] ∧ inI t.kind ∧ inI t.n ∧ t.name.size ≤ maxLen ∧ TrSl 4 TrT L ks t.kids := by
  constructor
  · intro h
    cases h with
    | nil hk hn hs hc => exact ⟨_, rfl, hk, hn, hs, _, _, rfl, Nat.zero_le _, hc, .inl ⟨rfl, rfl⟩⟩
    | cons hk hn hs hl hc hLs hsz h => exact ⟨_, rfl, hk, hn, hs, _, _, rfl, hl, hc, .inr ⟨_, _, _, _, rfl, rfl, hLs, hsz, h⟩⟩
  · obtain ⟨k, n, s, kids⟩ := t
    rintro ⟨ks, rfl, hk, hn, hs, a, cap, rfl, hl, hc, h⟩
    rcases h with ⟨h, rfl⟩ | ⟨b, c, E, Ls, rfl, rfl, hLs, hsz, h⟩
    · simp only [T.kids] at h
      subst h
      exact TrT.nil hk hn hs hc
    · exact TrT.cons hk hn hs hl hc hLs hsz h
theorem TrT.length {L : Heaplet} {cs : List Value} {t : T} (h : TrT L cs t) : cs.length = 4 := by
  obtain ⟨ks, rfl, _⟩ := TrT.iff.1 h; rfl
theorem TrT.one {L : Heaplet} {cs : List Value} {t : T} (h : TrT L cs t) : ∀ u ∈ cs, u.oneCell' = true := by
  obtain ⟨ks, rfl, _, _, _, a, cap, rfl, _⟩ := TrT.iff.1 h
  intro u hu
  simp at hu
  rcases hu with rfl | rfl | rfl | rfl <;> rfl
theorem RdT.one {S : Store} {cs : List Value} {t : T} (h : RdT S cs t) : ∀ u ∈ cs, u.oneCell' = true := by
  obtain ⟨ks, rfl, _, _, _, a, cap, rfl, _⟩ := RdT.iff.1 h
  intro u hu
  simp at hu
  rcases hu with rfl | rfl | rfl | rfl <;> rfl
theorem ins_get {S : Store} {Ls : List Heaplet} (h : Ins S Ls.flatten) {i : Nat} (hi : i < Ls.length) : Ins S Ls[i] :=
  fun p hp => h p (List.mem_flatten.2 ⟨_, List.getElem_mem hi, hp⟩)
theorem TrSl.rd {α : Type} {S : Store} {k : Nat} {R : Heaplet → List Value → α → Prop} {R' : List Value → α → Prop} {L : Heaplet} {v : Value} {xs : List α} (h : TrSl k R L v xs) (hi : Ins S L)
    (hR : ∀ L cs x, Ins S L → R L cs x → R' cs x) : RdSl S k R' v xs := by
  obtain ⟨a, cap, rfl, hl, hc, h⟩ := h
  refine ⟨a, cap, rfl, hl, hc, ?_⟩
  rcases h with ⟨h, _⟩ | ⟨b, c, E, Ls, rfl, rfl, hLs, hsz, h⟩
  · exact .inl h
  · refine .inr ⟨b, 0, c, E, (0, 0), rfl, hi _ (List.mem_cons_self ..), fun i h1 => ?_⟩
    rw [Nat.zero_add]
    exact hR _ _ _ (ins_get (fun p hp => hi p (List.mem_cons_of_mem _ hp)) (by omega)) (h i h1 (by omega))
theorem TrT.rd {S : Store} {L : Heaplet} {cs : List Value} {t : T} (h : TrT L cs t) (hi : Ins S L) : RdT S cs t := by
  induction h with
  | nil hk hn hs hc => exact RdT.nil hk hn hs hc
  | cons hk hn hs hl hc hLs hsz h ih =>
    refine RdT.cons hk hn hs hl hc (hi _ (List.mem_cons_self ..)) (o := 0) fun i h1 => ?_
    rw [Nat.zero_add]
    exact ih i h1 (by omega) (ins_get (fun p hp => hi p (List.mem_cons_of_mem _ hp)) (by omega))
def TrC (L : Heaplet) (cs : List Value) (c : C) : Prop := ∃ hd ks L1 L2, cs = hd ++ [ks] ∧ L = L1 ++ L2 ∧ TrT L1 hd c.head ∧ TrSl 4 TrT L2 ks c.body
theorem TrC.rd {S : Store} {L : Heaplet} {cs : List Value} {c : C} (h : TrC L cs c) (hi : Ins S L) : RdC S cs c := by
  obtain ⟨hd, ks, L1, L2, rfl, rfl, h1, h2⟩ := h
  exact ⟨hd, ks, rfl, h1.rd hi.left, h2.rd hi.right fun _ _ _ hi h => h.rd hi⟩
theorem TrC.length {L : Heaplet} {cs : List Value} {c : C} (h : TrC L cs c) : cs.length = 5 := by
  obtain ⟨hd, ks, L1, L2, rfl, rfl, h1, h2⟩ := h; simp [h1.length]
theorem TrC.one {L : Heaplet} {cs : List Value} {c : C} (h : TrC L cs c) : ∀ u ∈ cs, u.oneCell' = true := by
  obtain ⟨hd, ks, L1, L2, rfl, rfl, h1, a, cap, rfl, _⟩ := h
  intro u hu
  rcases List.mem_append.1 hu with hu | hu
  · exact h1.one u hu
  · simp at hu; subst hu; rfl

section
variable {P : Program} {w w0 : World} {X : List Nat} {L : List Item} {S : Store} {K : Value → World → Prop}
theorem Run.call0 {f : FuncId} {fn : Func} {args : List Value} {Post : Value → List Item → Store → Prop}
    (hf : P.funcs[f]? = some fn) (hn : (fn.name == "runtime.NumGoroutine" || fn.body.isNone) = false) (h : Inv w0 X L S w) (hc : Tri P f args [] S Post)
    (hk : ∀ v I' S' w', Post v I' S' → Sle S S' → Inv w0 X (L ++ I') S' w' → K v w') : Run P (sCall (.func (.func f) #[] #[]) args) w K :=
  Run.call (A := L) (I := []) hf hn (by simpa using h) hc hk
/- x.f = v, x a struct in a block of the function's own -/
theorem r_fieldSt {T U ty ty' E : TypeId} {f d b : Nat} {c : Array Value} {v : Value} (hI : Inv w0 X L S w) (i : Nat) (hi : L[i]? = some (.blk b (.cells c E))) (hf : fieldOff P T f = some d) (hU : isSc P U = true) (hlt : Nat.blt d c.size = true)
    (hv : v.cells = #[v]) (h1 : v.oneCell' = true)
    (hk : ∀ w', Inv w0 X (L.set i (.blk b (.cells (c.setIfInBounds d v) E))) S w' → K undef w') :
    Run P (sOp (.fieldAddr T (.const (.pointer (some ⟨b, 0, none⟩))) f) ty) w fun q w' => Run P (sOp (.store U (.const q) (.const v)) ty') w' K := by
  have hlt : d < c.size := by simpa [Nat.blt_eq] using hlt
  refine r_field hf ?_
  rw [Nat.zero_add]
  refine r_store hI i (n := 1) (by rw [hv]; rfl) (by rw [hU]; rfl) hi (by omega) (by rw [hv]; simpa using h1) fun w' hI' => hk w' ?_
  have : putCells c d v.cells.toList = c.setIfInBounds d v := by
    rw [hv]
    apply Array.toList_inj.1
    simp only [putCells, Array.toList_setIfInBounds]
    have hl : d < c.toList.length := by simpa using hlt
    rw [List.set_eq_take_append_cons_drop, if_pos hl]
    simp
  rw [this] at hI'
  exact hI'
theorem r_storeB {T ty E : TypeId} {o b n : Nat} {c : Array Value} {v : Value} (hI : Inv w0 X L S w) (i : Nat) (hi : L[i]? = some (.blk b (.cells c E))) (hT : aggN P T = some n) (hn : v.cells.size = n) (hfit : Nat.ble (o + n) c.size = true)
    (h1 : ∀ u ∈ v.cells.toList, u.oneCell' = true) (hk : ∀ w', Inv w0 X (L.set i (.blk b (.cells (putCells c o v.cells.toList) E))) S w' → K undef w') :
    Run P (sOp (.store T (.const (.pointer (some ⟨b, o, none⟩))) (.const v)) ty) w K :=
  r_store hI i hn (by rw [hT]; simp) hi (Nat.le_of_ble_eq_true hfit) h1 hk
/- x = v, x a whole block of the function's own -/
theorem r_storeW {T ty E : TypeId} {b n : Nat} {c cs : Array Value} (hI : Inv w0 X L S w) (i : Nat) (hi : L[i]? = some (.blk b (.cells c E))) (hT : aggN P T = some n) (hn : cs.size = n) (hc : c.size = n)
    (h1 : ∀ u ∈ cs.toList, u.oneCell' = true) (hk : ∀ w', Inv w0 X (L.set i (.blk b (.cells cs E))) S w' → K undef w') :
    Run P (sOp (.store T (.const (.pointer (some ⟨b, 0, none⟩))) (.const (.agg cs))) ty) w K := by
  refine r_store hI i (v := .agg cs) (n := n) hn (by rw [hT]; simp) hi (by omega) h1 fun w' hI' => hk w' ?_
  have : putCells c 0 (Value.agg cs).cells.toList = cs := by
    rw [putCells_all _ _ (by simp [Value.cells, hn, hc])]
    simp [Value.cells]
  rw [this] at hI'
  exact hI'
/- s[i] = v, s a slice of the function's own that begins at its block's head -/
theorem r_elemSt {T U ty ty' E E' : TypeId} {k b len cap j : Nat} {c : Array Value} {v : Value} (hI : Inv w0 X L S w) (i : Nat) (hi : L[i]? = some (.blk b (.cells c E'))) (hu : sliceOf P T = some (E, k)) (hU : aggN P U = some k)
    (hj : j < len) (hfit : (j + 1) * k ≤ c.size) (hv : v.cells.size = k) (h1 : ∀ u ∈ v.cells.toList, u.oneCell' = true)
    (hk : ∀ w', Inv w0 X (L.set i (.blk b (.cells (putCells c (j * k) v.cells.toList) E'))) S w' → K undef w') :
    Run P (sOp (.indexAddr T (.const (.slice (some ⟨b, 0, none⟩) len cap)) (.const (.int .i64 j))) ty) w fun p w' => Run P (sOp (.store U (.const p) (.const v)) ty') w' K := by
  refine r_indexAddr hu hj ?_
  rw [Nat.zero_add]
  exact r_store hI i (n := k) hv (by rw [hU]; simp) hi (by rw [Nat.add_mul, Nat.one_mul] at hfit; omega) h1 hk
end

theorem TrSl.nil {α : Type} {k : Nat} {R : Heaplet → List Value → α → Prop} {a : Option Addr} {cap : Nat} (hc : cap ≤ maxLen) : TrSl k R [] (.slice a 0 cap) ([] : List α) :=
  ⟨a, cap, rfl, Nat.zero_le _, hc, .inl ⟨rfl, rfl⟩⟩
/- the first k' elements of an array under construction -/
def Part {α : Type} (k : Nat) (R : Heaplet → List Value → α → Prop) (c : Array Value) (Ls : List Heaplet) (xs : List α) : Prop :=
  Ls.length = xs.length ∧ ∀ i (h : i < xs.length) (h' : i < Ls.length), R Ls[i] (cellsAt c (i * k) k) xs[i]
theorem Part.nil {α : Type} (k : Nat) (R : Heaplet → List Value → α → Prop) (c : Array Value) : Part k R c [] ([] : List α) := ⟨rfl, fun i h => by simp at h⟩
theorem Part.snoc {α : Type} {k : Nat} {R : Heaplet → List Value → α → Prop} {c : Array Value} {Ls : List Heaplet} {xs : List α} (h : Part k R c Ls xs) {cs : List Value} {L : Heaplet} {x : α} (hx : R L cs x) (hl : cs.length = k)
    (hfit : (xs.length + 1) * k ≤ c.size) : Part k R (putCells c (xs.length * k) cs) (Ls ++ [L]) (xs ++ [x]) := by
  have hf : xs.length * k + cs.length ≤ c.size := by rw [hl]; rw [Nat.add_mul, Nat.one_mul] at hfit; exact hfit
  refine ⟨by simp [h.1], fun i h1 h2 => ?_⟩
  by_cases hi : i < xs.length
  · have h3 : i < Ls.length := by rw [h.1]; exact hi
    rw [List.getElem_append_left h3, List.getElem_append_left hi, cellsAt_put_ne hf]
    · exact h.2 i hi h3
    · left
      have : (i + 1) * k ≤ xs.length * k := Nat.mul_le_mul_right _ hi
      rw [Nat.add_mul, Nat.one_mul] at this
      exact this
  · have hi' : i = xs.length := by simp at h1; omega
    subst hi'
    have h3 : xs.length = Ls.length := h.1.symm
    rw [List.getElem_append_right (by omega), List.getElem_append_right (by omega)]
    simp only [h3, Nat.sub_self, List.getElem_cons_zero]
    rw [← h3, ← hl, cellsAt_put_self (by rw [hl] at hf ⊢; exact hf)]
    exact hx
theorem Part.sl {α : Type} {k : Nat} {R : Heaplet → List Value → α → Prop} {b : Nat} {c : Array Value} {E : TypeId} {Ls : List Heaplet} {xs : List α} {cap : Nat} (h : Part k R c Ls xs) (h1 : xs.length ≤ cap) (h2 : cap ≤ maxLen) (h3 : cap * k ≤ c.size) :
    TrSl k R ((b, .cells c E) :: Ls.flatten) (.slice (some ⟨b, 0, none⟩) xs.length cap) xs :=
  ⟨_, cap, rfl, h1, h2, .inr ⟨b, c, E, Ls, rfl, rfl, h.1, h3, h.2⟩⟩

end Go.Proofs.Ytnoieadimkgjcaa

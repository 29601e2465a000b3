/- Terms and clauses as data, and how they read out of published memory. -/
import Derived.Test.YtmnnpgdeecnfpaaGreatRules
namespace Go.Proofs.YtmnnpgdeecnfpaaGreat
open Go Go.RowKit
attribute [local irreducible] Run CondV GuardV LoadV

def inI (n : Int) : Prop := -9223372036854775808 ≤ n ∧ n ≤ 9223372036854775807

inductive T where
  | mk (kind n : Int) (name : ByteArray) (kids : List T)
namespace T
def kind : T → Int
  | .mk k _ _ _ => k
def n : T → Int
  | .mk _ n _ _ => n
def name : T → ByteArray
  | .mk _ _ s _ => s
def kids : T → List T
  | .mk _ _ _ ks => ks
theorem ind {p : T → Prop} (h : ∀ k n s ks, (∀ t ∈ ks, p t) → p (.mk k n s ks)) (t : T) : p t :=
  T.rec (motive_1 := p) (motive_2 := fun l => ∀ t ∈ l, p t) (fun k n s ks ih => h k n s ks ih) (by simp) (fun a l h1 h2 t ht => by
    rcases List.mem_cons.1 ht with rfl | ht
    · exact h1
    · exact h2 t ht) t
end T
structure C where
  head : T
  body : List T

def cellsAt (c : Array Value) (o k : Nat) : List Value := (c.toList.drop o).take k
/- a slice of elements of k cells each, out of published memory -/
def RdSl {α : Type} (S : Store) (k : Nat) (R : List Value → α → Prop) (v : Value) (xs : List α) : Prop :=
  ∃ a cap, v = .slice a xs.length cap ∧ xs.length ≤ cap ∧ cap ≤ maxLen ∧
    (xs = [] ∨ ∃ b o c E fz, a = some ⟨b, o, none⟩ ∧ S b = some (.cells c E fz) ∧ ∀ i (h : i < xs.length), R (cellsAt c (o + i * k) k) xs[i])
inductive RdT (S : Store) : List Value → T → Prop
  | nil {k n : Int} {s : ByteArray} {a : Option Addr} {cap : Nat} (hk : inI k) (hn : inI n) (hs : s.size ≤ maxLen) (hc : cap ≤ maxLen) :
      RdT S [.int .i64 k, .int .i64 n, .string s, .slice a 0 cap] (.mk k n s [])
  | cons {k n : Int} {s : ByteArray} {kids : List T} {b o cap : Nat} {c : Array Value} {E : TypeId} {fz : Nat × Nat} (hk : inI k) (hn : inI n) (hs : s.size ≤ maxLen) (hl : kids.length ≤ cap) (hc : cap ≤ maxLen)
      (hS : S b = some (.cells c E fz)) (h : ∀ i (h : i < kids.length), RdT S (cellsAt c (o + i * 4) 4) kids[i]) :
      RdT S [.int .i64 k, .int .i64 n, .string s, .slice (some ⟨b, o, none⟩) kids.length cap] (.mk k n s kids)
theorem RdT.iff {S : Store} {cs : List Value} {t : T} : RdT S cs t ↔
    ∃ ks, cs = [.int .i64 t.kind, .int .i64 t.n, .string t.name, ks] ∧ inI t.kind ∧ inI t.n ∧ t.name.size ≤ maxLen ∧ RdSl S 4 (RdT S) ks t.kids := by
  constructor
  · intro h
    cases h with
    | nil hk hn hs hc => exact ⟨_, rfl, hk, hn, hs, _, _, rfl, Nat.zero_le _, hc, .inl rfl⟩
    | cons hk hn hs hl hc hS h => exact ⟨_, rfl, hk, hn, hs, _, _, rfl, hl, hc, .inr ⟨_, _, _, _, _, rfl, hS, h⟩⟩
  · obtain ⟨k, n, s, kids⟩ := t
    rintro ⟨ks, rfl, hk, hn, hs, a, cap, rfl, hl, hc, h⟩
    rcases h with h | ⟨b, o, c, E, fz, rfl, hS, h⟩
    · simp only [T.kids] at h
      subst h
      exact RdT.nil hk hn hs hc
    · exact RdT.cons hk hn hs hl hc hS h
theorem RdT.length {S : Store} {cs : List Value} {t : T} (h : RdT S cs t) : cs.length = 4 := by
  obtain ⟨ks, rfl, _⟩ := RdT.iff.1 h; rfl
theorem RdT.mono {S S' : Store} (hs : Sle S S') {cs : List Value} {t : T} (h : RdT S cs t) : RdT S' cs t := by
  induction h with
  | nil hk hn hs hc => exact RdT.nil hk hn hs hc
  | cons hk hn hs' hl hc hS _ ih => exact RdT.cons hk hn hs' hl hc (hs _ _ hS) ih
theorem RdSl.mono {α : Type} {S S' : Store} {k : Nat} {R R' : List Value → α → Prop} {v : Value} {xs : List α} (hs : Sle S S') (hR : ∀ cs x, R cs x → R' cs x) (h : RdSl S k R v xs) : RdSl S' k R' v xs := by
  obtain ⟨a, cap, rfl, hl, hc, h⟩ := h
  refine ⟨a, cap, rfl, hl, hc, ?_⟩
  rcases h with h | ⟨b, o, c, E, fz, ha, hS, h⟩
  · exact .inl h
  · exact .inr ⟨b, o, c, E, fz, ha, hs _ _ hS, fun i hi => hR _ _ (h i hi)⟩
theorem RdSl.monoT {S S' : Store} {v : Value} {xs : List T} (hs : Sle S S') (h : RdSl S 4 (RdT S) v xs) : RdSl S' 4 (RdT S') v xs := h.mono hs fun _ _ => RdT.mono hs
def RdC (S : Store) (cs : List Value) (c : C) : Prop := ∃ hd ks, cs = hd ++ [ks] ∧ RdT S hd c.head ∧ RdSl S 4 (RdT S) ks c.body
theorem RdC.length {S : Store} {cs : List Value} {c : C} (h : RdC S cs c) : cs.length = 5 := by
  obtain ⟨hd, ks, rfl, h, _⟩ := h; simp [h.length]
theorem RdC.mono {S S' : Store} (hs : Sle S S') {cs : List Value} {c : C} (h : RdC S cs c) : RdC S' cs c := by
  obtain ⟨hd, ks, rfl, h1, h2⟩ := h; exact ⟨hd, ks, rfl, h1.mono hs, h2.monoT hs⟩
theorem RdSl.monoC {S S' : Store} {v : Value} {xs : List C} (hs : Sle S S') (h : RdSl S 5 (RdC S) v xs) : RdSl S' 5 (RdC S') v xs := h.mono hs fun _ _ => RdC.mono hs

/- an element of such a slice: its address and its cells -/
theorem RdSl.at_ {α : Type} {S : Store} {k : Nat} {R : List Value → α → Prop} {v : Value} {xs : List α} (h : RdSl S k R v xs) {i : Nat} (hi : i < xs.length) :
    ∃ b o cap c E fz, v = .slice (some ⟨b, o, none⟩) xs.length cap ∧ S b = some (.cells c E fz) ∧ R (cellsAt c (o + i * k) k) xs[i] := by
  obtain ⟨a, cap, rfl, hl, hc, h⟩ := h
  rcases h with h | ⟨b, o, c, E, fz, rfl, hS, h⟩
  · subst h; simp at hi
  · exact ⟨b, o, cap, c, E, fz, rfl, hS, h i hi⟩
theorem RdSl.le {α : Type} {S : Store} {k : Nat} {R : List Value → α → Prop} {v : Value} {xs : List α} (h : RdSl S k R v xs) : xs.length ≤ maxLen := by
  obtain ⟨a, cap, rfl, hl, hc, h⟩ := h; exact Nat.le_trans hl hc
theorem cellsAt_get {c : Array Value} {o k : Nat} {cs : List Value} (e : cellsAt c o k = cs) : ∀ j v, cs[j]? = some v → c[o + j]? = some v := by
  intro j v h
  subst e
  rw [cellsAt, List.getElem?_take] at h
  split at h
  · rw [List.getElem?_drop] at h; simpa using h
  · cases h

section
variable {P : Program} {w w0 : World} {X : List Nat} {L : List Item} {S : Store} {K : Value → World → Prop}
/- len of such a slice -/
theorem r_lenSl {α : Type} {T ty : TypeId} {cs : List Bool} {k : Nat} {R : List Value → α → Prop} {v : Value} {xs : List α} {Ek : TypeId × Nat} (h : RdSl S k R v xs) (hu : sliceOf P T = some Ek)
    (hk : K (.int .i64 xs.length) w) : Run P (sBuiltin .len #[T] ty cs [v]) w K := by
  obtain ⟨a, cap, rfl, _⟩ := h
  exact r_len hu hk
/- s[i] of such a slice, the address and then the whole element -/
theorem r_elem {α : Type} {T U ty ty' E : TypeId} {k : Nat} {R : List Value → α → Prop} {v : Value} {xs : List α} (hI : Inv w0 X L S w) (h : RdSl S k R v xs) (hu : sliceOf P T = some (E, k)) (hU : aggN P U = some k)
    {i : Nat} (hi : i < xs.length) (hlen : ∀ cs x, R cs x → cs.length = k) (hk : ∀ cs, R cs xs[i] → K (.agg cs.toArray) w) :
    Run P (sOp (.indexAddr T (.const v) (.const (.int .i64 i))) ty) w fun p w' => Run P (sOp (.load U (.const p)) ty') w' K := by
  obtain ⟨b, o, cap, c, E', fz, rfl, hS, hR⟩ := h.at_ hi
  refine r_indexAddr hu hi ?_
  refine r_loadA hU (hlen _ _ hR) (fun j v hj => ?_) (hk _ hR)
  rw [hI.cellS hS]
  exact cellsAt_get rfl j v hj
/- s[i].f: one cell of the element -/
theorem r_elemF {α : Type} {T Tf U ty ty' ty'' E : TypeId} {k f d : Nat} {R : List Value → α → Prop} {v u : Value} {xs : List α} (hI : Inv w0 X L S w) (h : RdSl S k R v xs) (hu : sliceOf P T = some (E, k)) (hf : fieldOff P Tf f = some d) (hU : isSc P U = true)
    {i : Nat} (hi : i < xs.length) (hc : ∀ cs, R cs xs[i] → cs[d]? = some u) (hk : K u w) :
    Run P (sOp (.indexAddr T (.const v) (.const (.int .i64 i))) ty) w fun p w' => Run P (sOp (.fieldAddr Tf (.const p) f) ty') w' fun q w'' => Run P (sOp (.load U (.const q)) ty'') w'' K := by
  obtain ⟨b, o, cap, c, E', fz, rfl, hS, hR⟩ := h.at_ hi
  refine r_indexAddr hu hi ?_
  refine r_field hf ?_
  refine r_load hU ?_ hk
  rw [hI.cellS hS]
  exact cellsAt_get rfl d u (hc _ hR)
/- a field of a struct that lies in a block of the function's own -/
theorem r_fieldL {T U ty ty' E : TypeId} {f d b : Nat} {c : Array Value} {u : Value} (hI : Inv w0 X L S w) (i : Nat) (hi : L[i]? = some (.blk b (.cells c E))) (hf : fieldOff P T f = some d) (hU : isSc P U = true) (hc : c[d]? = some u)
    (hk : K u w) : Run P (sOp (.fieldAddr T (.const (.pointer (some ⟨b, 0, none⟩))) f) ty) w fun q w' => Run P (sOp (.load U (.const q)) ty') w' K := by
  refine r_field hf ?_
  rw [Nat.zero_add]
  exact r_loadL hI i hU hi hc hk
end
/- the beginning and the end of a function that only reads -/
theorem Pure.mk {P : Program} {f : FuncId} {args : List Value} {S : Store} {r : Value} (h : ∀ w : World, Inv w [] [] S w → Calls P f args.toArray w fun e w' => e = .returned r ∧ Inv w [] [] S w') : Pure P f args S r := h
theorem done {w w' : World} {L : List Item} {S : Store} {r r' : Value} (h : Inv w [] L S w') (e : r' = r) : Ending.returned r' = .returned r ∧ Inv w [] [] S w' := ⟨by rw [e], h.nil⟩

end Go.Proofs.YtmnnpgdeecnfpaaGreat

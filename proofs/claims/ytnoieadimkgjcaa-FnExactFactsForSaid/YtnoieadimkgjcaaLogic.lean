/- 'and', 'or' as the code has them; slices of strings; a list made of constants. -/
import Derived.Test.YtnoieadimkgjcaaTree
namespace Go.Proofs.Ytnoieadimkgjcaa
open Go Go.RowKit
section
variable {P : Program} {w : World} {K : Value → World → Prop} {ty : TypeId}
theorem guard_true {b : Bool} {A B : Prop} (h : A) : GuardV (.bool b) b A B := by unfold GuardV; simp only [if_true]; exact h
theorem guard_ne {c b : Bool} {A B : Prop} (hc : c ≠ b) (h : B) : GuardV (.bool c) b A B := by unfold GuardV; simp only [if_neg hc]; exact h
attribute [local irreducible] Run CondV GuardV LoadV
theorem r_and {a : Bool} {v : Value} {A : Prop} (ht : a = true → A) (hf : a = false → K (.bool false) w) : GuardV (.bool a) true A (Run P (sOp (.pick (.const (.bool a)) (.const v) (.const (.bool false))) ty) w K) :=
  guardV ht fun h => by
    have h' : a = false := by simpa using h
    refine r_pick ?_
    rw [h']
    exact hf h'
theorem r_andT {a : Bool} {v u : Value} (ha : a = true) (hk : K v w) : Run P (sOp (.pick (.const (.bool a)) (.const v) (.const u)) ty) w K := by
  refine r_pick ?_
  rw [ha]
  exact hk
theorem r_andF {v : Value} {A : Prop} (hk : K (.bool false) w) : GuardV (.bool false) true A (Run P (sOp (.pick (.const (.bool false)) (.const v) (.const (.bool false))) ty) w K) :=
  r_and (fun h => by cases h) fun _ => hk
theorem r_or {a : Bool} {v : Value} {A : Prop} (ht : a = true → K (.bool true) w) (hf : a = false → A) : GuardV (.bool a) false A (Run P (sOp (.pick (.const (.bool a)) (.const (.bool true)) (.const v)) ty) w K) :=
  guardV hf fun h => by
    have h' : a = true := by simpa using h
    refine r_pick ?_
    rw [h']
    exact ht h'
theorem r_orF {a : Bool} {v u : Value} (ha : a = false) (hk : K v w) : Run P (sOp (.pick (.const (.bool a)) (.const u) (.const v)) ty) w K := by
  refine r_pick ?_
  rw [ha]
  exact hk
theorem r_orT {v : Value} {A : Prop} (hk : K (.bool true) w) : GuardV (.bool true) false A (Run P (sOp (.pick (.const (.bool true)) (.const (.bool true)) (.const v)) ty) w K) :=
  r_or (fun _ => hk) fun h => by cases h
end

def RdStr (cs : List Value) (s : ByteArray) : Prop := cs = [.string s]
def RdInt (cs : List Value) (n : Int) : Prop := cs = [.int .i64 n]
section
variable {P : Program} {w w0 : World} {X : List Nat} {L : List Item} {S : Store} {K : Value → World → Prop}
attribute [local irreducible] Run CondV GuardV LoadV
/- an operation whose run is known in every world: it makes one block -/
theorem r_made (h : Inv w0 X L S w) {s : Sem Next} {v : Nat → Value} {o : Obj} (hr : s.run P w = .ok (.value (v w.heap.size)) { w with heap := w.heap.push o })
    (hk : ∀ b w', Inv w0 X (L ++ [.blk b o]) S w' → K (v b) w') : Run P s w K := Run.of hr (hk _ _ (h.alloc o))
/- the last item is published -/
theorem Inv.publishLast {b : Nat} {o : Obj} (h : Inv w0 X (L ++ [.blk b o]) S w) : Inv w0 X L (addS S b o) w ∧ Sle S (addS S b o) := by
  have hi : (L ++ [Item.blk b o])[L.length]? = some (.blk b o) := by simp
  have := h.publish hi
  rwa [show (L ++ [Item.blk b o]).eraseIdx L.length = L by simp [List.eraseIdx_append_of_length_le]] at this
/- s[i] of a slice of one-cell elements -/
theorem r_elem1 {α : Type} {T U ty ty' E : TypeId} {R : List Value → α → Prop} {v u : Value} {xs : List α} (hI : Inv w0 X L S w) (h : RdSl S 1 R v xs) (hu : sliceOf P T = some (E, 1)) (hU : isSc P U = true)
    {i : Nat} (hi : i < xs.length) (hR : ∀ cs, R cs xs[i] → cs = [u]) (hk : K u w) :
    Run P (sOp (.indexAddr T (.const v) (.const (.int .i64 i))) ty) w fun p w' => Run P (sOp (.load U (.const p)) ty') w' K := by
  obtain ⟨b, o, cap, c, E', fz, rfl, hS, hr⟩ := h.at_ hi
  refine r_indexAddr hu hi ?_
  refine r_load hU ?_ hk
  rw [hI.cellS hS]
  exact cellsAt_get (hR _ hr) 0 u rfl
end
theorem RdSl.ofCells {α : Type} {S : Store} {R : List Value → α → Prop} {b n : Nat} {c : Array Value} {E : TypeId} {fz : Nat × Nat} {xs : List α} (hS : S b = some (.cells c E fz)) (hn : xs.length = n) (hm : n ≤ maxLen)
    (h : ∀ i (h : i < xs.length), R (cellsAt c i 1) xs[i]) : RdSl S 1 R (.slice (some ⟨b, 0, none⟩) n n) xs := by
  subst hn
  exact ⟨_, _, rfl, Nat.le_refl _, hm, .inr ⟨b, 0, c, E, fz, rfl, hS, fun i hi => by rw [Nat.zero_add, Nat.mul_one]; exact h i hi⟩⟩

end Go.Proofs.Ytnoieadimkgjcaa

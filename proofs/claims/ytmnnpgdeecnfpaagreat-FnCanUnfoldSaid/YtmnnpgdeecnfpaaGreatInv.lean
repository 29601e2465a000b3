/- What a function knows of the memory while it runs: blocks of its own (items), published blocks that nobody changes (a store), all else as it was. -/
import Derived.Test.YtmnnpgdeecnfpaaGreatVcCalls
import Derived.Below
import Derived.Laws.AppendOwn
namespace Go.Proofs.YtmnnpgdeecnfpaaGreat
open Go Go.RowKit

abbrev Store := Nat → Option Obj
def Sle (S S' : Store) : Prop := ∀ b o, S b = some o → S' b = some o
theorem Sle.refl (S : Store) : Sle S S := fun _ _ h => h
theorem Sle.trans {S S' S'' : Store} (h : Sle S S') (h' : Sle S' S'') : Sle S S'' := fun b o hb => h' b o (h b o hb)

inductive Item where
  | blk (b : Nat) (o : Obj)
  | row (v : Value) (e : TypeId) (size n : Nat) (xs : List Value)
def Item.foot : Item → List Nat
  | .blk b _ => [b]
  | .row v .. => v.ownBlock.toList
def Item.holds (w : World) : Item → Prop
  | .blk b o => w.heap[b]? = some o
  | .row v e size n xs => w.ownsRow 0 e size v n xs
def feet (L : List Item) : List Nat := L.flatMap Item.foot

theorem Item.lt {w : World} : ∀ {it : Item}, it.holds w → ∀ b ∈ it.foot, b < w.heap.size
  | .blk b o, h, c, hc => by
    simp only [Item.foot, List.mem_singleton] at hc
    subst hc
    exact (Array.getElem?_eq_some_iff.1 h).1
  | .row v e size n xs, h, c, hc => by
    simp only [Item.foot, Option.mem_toList] at hc
    exact (World.ownsRow.lt h c hc).2
theorem Item.kept {w w' : World} : ∀ {it : Item}, it.holds w → w.heap.size ≤ w'.heap.size → w'.os = w.os → w'.tape = w.tape → w'.output = w.output →
    (∀ b ∈ it.foot, w'.heap[b]? = w.heap[b]?) → it.holds w'
  | .blk b o, h, _, _, _, _, hk => (hk b (by simp [Item.foot])).trans h
  | .row v e size n xs, h, _, _, _, _, hk => by
    refine ⟨h.1, ?_⟩
    rcases h.2 with hn | ⟨g, cap, cur, rfl, hb, hgg, rest⟩
    · exact .inl hn
    · exact .inr ⟨g, cap, cur, rfl, hb, (hk g (by simp [Item.foot, Value.ownBlock])).trans hgg, rest⟩

structure Inv (w0 : World) (X : List Nat) (L : List Item) (S : Store) (w : World) : Prop where
  size : w0.heap.size ≤ w.heap.size
  os : w.os = w0.os
  tape : w.tape = w0.tape
  output : w.output = w0.output
  old : ∀ b, b < w0.heap.size → b ∉ X → w.heap[b]? = w0.heap[b]?
  its : ∀ it ∈ L, it.holds w
  nd : (feet L).Nodup
  new : ∀ b ∈ feet L, b ∈ X ∨ w0.heap.size ≤ b
  pub : ∀ b o, S b = some o → w.heap[b]? = some o ∧ b ∉ feet L

theorem mem_feet {L : List Item} {b : Nat} : b ∈ feet L ↔ ∃ it ∈ L, b ∈ it.foot := by simp [feet, List.mem_flatMap]
theorem feet_append (L M : List Item) : feet (L ++ M) = feet L ++ feet M := by simp [feet]
theorem Inv.lt {w0 w : World} {X : List Nat} {L : List Item} {S : Store} (h : Inv w0 X L S w) {b : Nat} (hb : b ∈ feet L) : b < w.heap.size := by
  obtain ⟨it, hm, hb⟩ := mem_feet.1 hb
  exact Item.lt (h.its it hm) b hb
theorem Inv.publt {w0 w : World} {X : List Nat} {L : List Item} {S : Store} (h : Inv w0 X L S w) {b : Nat} {o : Obj} (hb : S b = some o) : b < w.heap.size :=
  (Array.getElem?_eq_some_iff.1 (h.pub b o hb).1).1

/- at the beginning -/
theorem Inv.start {w : World} {L : List Item} {S : Store} (hi : ∀ it ∈ L, it.holds w) (hn : (feet L).Nodup) (hp : ∀ b o, S b = some o → w.heap[b]? = some o ∧ b ∉ feet L) :
    Inv w (feet L) L S w :=
  ⟨Nat.le_refl _, rfl, rfl, rfl, fun _ _ _ => rfl, hi, hn, fun _ h => .inl h, hp⟩
theorem Inv.begin {w0 w : World} {X : List Nat} {L : List Item} {S : Store} (h : Inv w0 X L S w) : Inv w (feet L) L S w := Inv.start h.its h.nd h.pub

/- some items are forgotten -/
theorem feet_sub {L M : List Item} (hs : List.Sublist M L) : List.Sublist (feet M) (feet L) := by
  induction hs with
  | slnil => exact List.Sublist.refl _
  | cons a _ ih => simp only [feet, List.flatMap_cons] at *; exact ih.trans (List.sublist_append_right _ _)
  | cons_cons a _ ih => simp only [feet, List.flatMap_cons] at *; exact List.Sublist.append_left ih _
theorem sub_nodup {L M : List Item} (hs : List.Sublist M L) (h : (feet L).Nodup) : (feet M).Nodup := List.Nodup.sublist (feet_sub hs) h
theorem Inv.sub {w0 w : World} {X : List Nat} {L M : List Item} {S : Store} (h : Inv w0 X L S w) (hs : List.Sublist M L) : Inv w0 X M S w :=
  have hm : ∀ b, b ∈ feet M → b ∈ feet L := fun b hb => by
    obtain ⟨it, h1, h2⟩ := mem_feet.1 hb
    exact mem_feet.2 ⟨it, hs.subset h1, h2⟩
  ⟨h.size, h.os, h.tape, h.output, h.old, fun it hi => h.its it (hs.subset hi), sub_nodup hs h.nd, fun b hb => h.new b (hm b hb),
    fun b o hb => ⟨(h.pub b o hb).1, fun hb' => (h.pub b o hb).2 (hm b hb')⟩⟩
theorem Inv.nil {w0 w : World} {X : List Nat} {L : List Item} {S : Store} (h : Inv w0 X L S w) : Inv w0 X [] S w := h.sub (List.nil_sublist _)
def picks : List Bool → List Item → List Item
  | true :: bs, x :: xs => x :: picks bs xs
  | false :: bs, _ :: xs => picks bs xs
  | _, _ => []
theorem picks_sub : ∀ (bs : List Bool) (L : List Item), List.Sublist (picks bs L) L
  | true :: bs, x :: xs => by simp only [picks]; exact (picks_sub bs xs).cons_cons x
  | false :: bs, x :: xs => by simp only [picks]; exact (picks_sub bs xs).cons x
  | [], L => by simp [picks]
  | true :: _, [] => by simp [picks]
  | false :: _, [] => by simp [picks]
theorem Inv.pick {w0 w : World} {X : List Nat} {L : List Item} {S : Store} (h : Inv w0 X L S w) (bs : List Bool) : Inv w0 X (picks bs L) S w := h.sub (picks_sub bs L)
/- fewer published blocks -/
theorem Inv.less {w0 w : World} {X : List Nat} {L : List Item} {S S' : Store} (h : Inv w0 X L S w) (hs : Sle S' S) : Inv w0 X L S' w :=
  { h with pub := fun b o hb => h.pub b o (hs b o hb) }
/- the items in another order -/
theorem Inv.perm {w0 w : World} {X : List Nat} {L M : List Item} {S : Store} (h : Inv w0 X L S w) (hp : List.Perm M L) : Inv w0 X M S w := by
  have hf : List.Perm (feet M) (feet L) := hp.flatMap_right _
  exact ⟨h.size, h.os, h.tape, h.output, h.old, fun it hi => h.its it (hp.mem_iff.1 hi), hf.symm.nodup h.nd, fun b hb => h.new b (hf.mem_iff.1 hb),
    fun b o hb => ⟨(h.pub b o hb).1, fun hb' => (h.pub b o hb).2 (hf.mem_iff.1 hb')⟩⟩

/- THE GENERAL STEP: some items (foot Y) give way to others, old blocks but theirs are kept, published blocks grow. -/
theorem Inv.step {w0 w w' : World} {X : List Nat} {A B : List Item} {S S' : Store} (h : Inv w0 X (A ++ B) S w) {B' : List Item} (hc : Inv w (feet B) B' S' w')
    (hx : ∀ b o, S' b = some o → S b = some o ∨ b ∈ feet B ∨ w.heap.size ≤ b) : Inv w0 X (A ++ B') S' w' := by
  have hnd := h.nd
  rw [feet_append, List.nodup_append] at hnd
  obtain ⟨nA, nB, dAB⟩ := hnd
  have keptA : ∀ b ∈ feet A, w'.heap[b]? = w.heap[b]? := fun b hb =>
    hc.old b (h.lt (by rw [feet_append]; exact List.mem_append_left _ hb)) fun hb' => dAB b hb b hb' rfl
  refine ⟨Nat.le_trans h.size hc.size, hc.os.trans h.os, hc.tape.trans h.tape, hc.output.trans h.output, fun b hb hbX => ?_, fun it hi => ?_, ?_, fun b hb => ?_, fun b o hb => ?_⟩
  · have hnB : b ∉ feet B := fun hb' => by
      rcases h.new b (by rw [feet_append]; exact List.mem_append_right _ hb') with h1 | h1
      · exact hbX h1
      · omega
    rw [hc.old b (Nat.lt_of_lt_of_le hb h.size) hnB]
    exact h.old b hb hbX
  · rcases List.mem_append.1 hi with hi | hi
    · exact Item.kept (h.its it (List.mem_append_left _ hi)) hc.size hc.os hc.tape hc.output fun b hb => keptA b (mem_feet.2 ⟨it, hi, hb⟩)
    · exact hc.its it hi
  · rw [feet_append, List.nodup_append]
    refine ⟨nA, hc.nd, fun a ha b hb e => ?_⟩
    subst e
    have hlt := h.lt (b := a) (by rw [feet_append]; exact List.mem_append_left _ ha)
    rcases hc.new a hb with h1 | h1
    · exact dAB a ha a h1 rfl
    · omega
  · rw [feet_append] at hb
    rcases List.mem_append.1 hb with hb | hb
    · exact h.new b (by rw [feet_append]; exact List.mem_append_left _ hb)
    · rcases hc.new b hb with h1 | h1
      · exact h.new b (by rw [feet_append]; exact List.mem_append_right _ h1)
      · exact .inr (Nat.le_trans h.size h1)
  · refine ⟨(hc.pub b o hb).1, fun hm => ?_⟩
    rw [feet_append] at hm
    rcases List.mem_append.1 hm with hm | hm
    · rcases hx b o hb with h1 | h1 | h1
      · exact (h.pub b o h1).2 (by rw [feet_append]; exact List.mem_append_left _ hm)
      · exact dAB b hm b h1 rfl
      · have := h.lt (b := b) (by rw [feet_append]; exact List.mem_append_left _ hm)
        omega
    · exact (hc.pub b o hb).2 hm

/- a world that parts from the first in new blocks alone, and owns some of them -/
structure Grow (w w' : World) : Prop where
  size : w.heap.size ≤ w'.heap.size
  os : w'.os = w.os
  tape : w'.tape = w.tape
  output : w'.output = w.output
  old : ∀ b, b < w.heap.size → w'.heap[b]? = w.heap[b]?
theorem Grow.refl (w : World) : Grow w w := ⟨Nat.le_refl _, rfl, rfl, rfl, fun _ _ => rfl⟩
theorem Inv.grow {w0 w w' : World} {X : List Nat} {L : List Item} {S : Store} (h : Inv w0 X L S w) (hg : Grow w w') : Inv w0 X L S w' := by
  have : Inv w (feet []) [] S w' := ⟨hg.size, hg.os, hg.tape, hg.output, fun b hb _ => hg.old b hb, by simp, by simp [feet], by simp [feet],
    fun b o hb => ⟨(hg.old b (h.publt hb)).trans (h.pub b o hb).1, by simp [feet]⟩⟩
  have h2 := Inv.step (A := L) (B := []) (by simpa using h) this (fun b o hb => .inl hb)
  simpa using h2
theorem Inv.addItem {w0 w w' : World} {X : List Nat} {L : List Item} {S : Store} (h : Inv w0 X L S w) (hg : Grow w w') {it : Item} (hi : it.holds w')
    (hf : ∀ b ∈ it.foot, w.heap.size ≤ b) (hn : it.foot.Nodup) : Inv w0 X (L ++ [it]) S w' := by
  have hfe : feet [it] = it.foot := by simp [feet]
  have : Inv w (feet []) [it] S w' := ⟨hg.size, hg.os, hg.tape, hg.output, fun b hb _ => hg.old b hb, by simpa using hi, by rw [hfe]; exact hn,
    fun b hb => .inr (hf b (by rwa [hfe] at hb)), fun b o hb => ⟨(hg.old b (h.publt hb)).trans (h.pub b o hb).1, fun hm => by
      have := h.publt hb
      have := hf b (by rwa [hfe] at hm)
      omega⟩⟩
  exact Inv.step (A := L) (B := []) (by simpa using h) this (fun b o hb => .inl hb)
theorem Inv.alloc {w0 w : World} {X : List Nat} {L : List Item} {S : Store} (h : Inv w0 X L S w) (o : Obj) :
    Inv w0 X (L ++ [.blk w.heap.size o]) S { w with heap := w.heap.push o } :=
  h.addItem (w' := { w with heap := w.heap.push o }) (it := .blk w.heap.size o) ⟨by simp, rfl, rfl, rfl, fun b hb => by simp [Array.getElem?_push, Nat.ne_of_lt hb]⟩ (by simp [Item.holds]) (by simp [Item.foot]) (by simp [Item.foot])
theorem Inv.draw {w0 w : World} {X : List Nat} {L : List Item} {S : Store} (h : Inv w0 X L S w) : Inv w0 X L S { w with drawn := w.drawn + 1 } :=
  h.grow ⟨Nat.le_refl _, rfl, rfl, rfl, fun _ _ => rfl⟩

/- an item in the middle changes -/
theorem set_split {L : List Item} {i : Nat} {it : Item} (hi : L[i]? = some it) (it' : Item) :
    L = L.take i ++ it :: L.drop (i + 1) ∧ L.set i it' = L.take i ++ it' :: L.drop (i + 1) := by
  have hlt : i < L.length := (List.getElem?_eq_some_iff.1 hi).1
  have he : L[i] = it := (List.getElem?_eq_some_iff.1 hi).2
  constructor
  · conv => lhs; rw [← List.take_append_drop i L, List.drop_eq_getElem_cons hlt, he]
  · rw [List.set_eq_take_append_cons_drop, if_pos hlt]
theorem Inv.stepAt {w0 w w' : World} {X : List Nat} {L : List Item} {S S' : Store} (h : Inv w0 X L S w) {i : Nat} {it it' : Item} (hi : L[i]? = some it)
    {B : List Item} (hc : Inv w (feet [it]) (it' :: B) S' w')
    (hx : ∀ b o, S' b = some o → S b = some o ∨ b ∈ feet [it] ∨ w.heap.size ≤ b) : Inv w0 X (L.set i it' ++ B) S' w' := by
  obtain ⟨h1, h2⟩ := set_split hi it'
  have p1 : List.Perm ((L.take i ++ L.drop (i + 1)) ++ [it]) L := by
    conv => rhs; rw [h1]
    rw [List.append_assoc]
    exact List.Perm.append_left _ List.perm_append_comm
  have p2 : List.Perm (L.set i it' ++ B) ((L.take i ++ L.drop (i + 1)) ++ (it' :: B)) := by
    rw [h2, List.append_assoc, List.append_assoc]
    refine List.Perm.append_left _ ?_
    rw [List.cons_append]
    exact List.perm_middle.symm
  exact (Inv.step (h.perm p1) hc hx).perm p2
/- one item's own blocks change, and nothing else that was there -/
theorem Inv.change {w0 w w' : World} {X : List Nat} {L : List Item} {S : Store} (h : Inv w0 X L S w) {i : Nat} {it it' : Item} (hi : L[i]? = some it)
    (hsz : w.heap.size ≤ w'.heap.size) (hos : w'.os = w.os) (htp : w'.tape = w.tape) (hou : w'.output = w.output)
    (hold : ∀ b, b < w.heap.size → b ∉ it.foot → w'.heap[b]? = w.heap[b]?) (hh : it'.holds w') (hf : ∀ b ∈ it'.foot, b ∈ it.foot ∨ w.heap.size ≤ b) (hn : it'.foot.Nodup) :
    Inv w0 X (L.set i it') S w' := by
  have e1 : feet [it] = it.foot := by simp [feet]
  have e2 : feet [it'] = it'.foot := by simp [feet]
  have hm : it ∈ L := List.mem_of_getElem? hi
  have hnot : ∀ b o, S b = some o → b ∉ it.foot := fun b o hb hb' => (h.pub b o hb).2 (mem_feet.2 ⟨it, hm, hb'⟩)
  have hc : Inv w (feet [it]) [it'] S w' := by
    refine ⟨hsz, hos, htp, hou, fun b hb hb' => hold b hb (by rwa [e1] at hb'), by simpa using hh, by rw [e2]; exact hn, fun b hb => ?_, fun b o hb => ⟨?_, fun hb' => ?_⟩⟩
    · rw [e2] at hb; rw [e1]; exact hf b hb
    · exact (hold b (h.publt hb) (hnot b o hb)).trans (h.pub b o hb).1
    · rw [e2] at hb'
      have := h.publt hb
      rcases hf b hb' with h1 | h1
      · exact hnot b o hb h1
      · omega
  have := h.stepAt hi (B := []) hc fun b o hb => .inl hb
  simpa using this
theorem Inv.setBlk {w0 w : World} {X : List Nat} {L : List Item} {S : Store} (h : Inv w0 X L S w) {i b : Nat} {o : Obj} (hi : L[i]? = some (.blk b o)) (o' : Obj) {w' : World}
    (hw : w' = { w with heap := w.heap.setIfInBounds b o' }) : Inv w0 X (L.set i (.blk b o')) S w' := by
  have hm := h.its _ (List.mem_of_getElem? hi)
  have hlt : b < w.heap.size := Item.lt hm b (by simp [Item.foot])
  subst hw
  refine h.change hi (by simp) rfl rfl rfl (fun c _ hc' => ?_) ?_ (fun c hc => .inl hc) (by simp [Item.foot])
  · simp only [Item.foot, List.mem_singleton] at hc'
    simp only []
    rw [Array.getElem?_setIfInBounds_ne (fun e => hc' e.symm)]
  · simp [Item.holds, hlt]

/- items become published -/
def addS (S : Store) (b : Nat) (o : Obj) : Store := fun c => if c = b then some o else S c
theorem Inv.publish {w0 w : World} {X : List Nat} {L : List Item} {S : Store} (h : Inv w0 X L S w) {i b : Nat} {o : Obj} (hi : L[i]? = some (.blk b o)) :
    Inv w0 X (L.eraseIdx i) (addS S b o) w ∧ Sle S (addS S b o) := by
  have hm := h.its _ (List.mem_of_getElem? hi)
  have hsub : List.Sublist (L.eraseIdx i) L := List.eraseIdx_sublist ..
  have h' := h.sub hsub
  have hnb : b ∉ feet (L.eraseIdx i) := by
    obtain ⟨h1, _⟩ := set_split hi (.blk b o)
    have hnd := h.nd
    have hlt : i < L.length := (List.getElem?_eq_some_iff.1 hi).1
    have p : List.Perm L (Item.blk b o :: L.eraseIdx i) := by
      rw [List.eraseIdx_eq_take_drop_succ]
      conv => lhs; rw [h1]
      exact List.perm_middle
    have : (feet (Item.blk b o :: L.eraseIdx i)).Nodup := (p.flatMap_right Item.foot).nodup hnd
    simp only [feet, List.flatMap_cons, Item.foot, List.cons_append, List.nil_append, List.nodup_cons] at this
    exact this.1
  refine ⟨⟨h'.size, h'.os, h'.tape, h'.output, h'.old, h'.its, h'.nd, h'.new, fun c o' hc => ?_⟩, fun c o' hc => ?_⟩
  · simp only [addS] at hc
    split at hc
    · rename_i e; subst e
      simp only [Option.some.injEq] at hc
      subst hc
      exact ⟨hm, hnb⟩
    · exact h'.pub c o' hc
  · simp only [addS]
    split
    · rename_i e; subst e
      exact absurd (mem_feet.2 ⟨_, List.mem_of_getElem? hi, by simp [Item.foot]⟩) (h.pub _ _ hc).2
    · exact hc

/- CONTRACTS -/
def Ext (n : Nat) (Y : List Nat) (S S' : Store) : Prop := Sle S S' ∧ ∀ b o, S' b = some o → S b = some o ∨ b ∈ Y ∨ n ≤ b
theorem Ext.refl (n : Nat) (Y : List Nat) (S : Store) : Ext n Y S S := ⟨Sle.refl S, fun _ _ h => .inl h⟩
def Tri (P : Program) (f : FuncId) (args : List Value) (I : List Item) (S : Store) (Post : Value → List Item → Store → Prop) : Prop :=
  ∀ w : World, Inv w (feet I) I S w → Calls P f args.toArray w fun e w' => ∃ v I' S', e = .returned v ∧ Inv w (feet I) I' S' w' ∧ Ext w.heap.size (feet I) S S' ∧ Post v I' S'
/- a function that only reads what is published, and hands back one value -/
def Pure (P : Program) (f : FuncId) (args : List Value) (S : Store) (r : Value) : Prop :=
  ∀ w : World, Inv w [] [] S w → Calls P f args.toArray w fun e w' => e = .returned r ∧ Inv w [] [] S w'

theorem Run.callP {P : Program} {f : FuncId} {fn : Func} {args : List Value} {w : World} {K : Value → World → Prop} (hf : P.funcs[f]? = some fn) (hn : (fn.name == "runtime.NumGoroutine" || fn.body.isNone) = false)
    (h : Calls P f args.toArray w fun
      | .returned v, w' => K v w'
      | _, _ => False) : Run P (sCall (.func (.func f) #[] #[]) args) w K := by
  simp only [Bool.or_eq_false_iff] at hn
  have h1 : ¬ fn.name = "runtime.NumGoroutine" := by simpa using hn.1
  have h2 : ¬ fn.body = none := fun e => by rw [e] at hn; simp at hn
  have e : (sCall (.func (.func f) #[] #[]) args).run P w = .ok (.enter f args.toArray) w := by
    simp [sCall, Deferred.ofValue, invoke, callFunc, hf, h1, h2]
  unfold Run
  rw [e]
  exact h

/- A CALL inside a function: some items at the end of the list are lent. -/
theorem Run.call {P : Program} {f : FuncId} {fn : Func} {args : List Value} {w w0 : World} {X : List Nat} {A I : List Item} {S : Store} {Post : Value → List Item → Store → Prop} {K : Value → World → Prop}
    (hf : P.funcs[f]? = some fn) (hn : (fn.name == "runtime.NumGoroutine" || fn.body.isNone) = false) (h : Inv w0 X (A ++ I) S w) (hc : Tri P f args I S Post)
    (hk : ∀ v I' S' w', Post v I' S' → Sle S S' → Inv w0 X (A ++ I') S' w' → K v w') : Run P (sCall (.func (.func f) #[] #[]) args) w K := by
  refine Run.callP hf hn ((hc w (h.sub (List.sublist_append_right A I)).begin).mono ?_)
  rintro e w' ⟨v, I', S', rfl, hI, hE, hP⟩
  exact hk v I' S' w' hP hE.1 (Inv.step h hI hE.2)
theorem Run.callPure {P : Program} {f : FuncId} {fn : Func} {args : List Value} {w w0 : World} {X : List Nat} {L : List Item} {S : Store} {r : Value} {K : Value → World → Prop}
    (hf : P.funcs[f]? = some fn) (hn : (fn.name == "runtime.NumGoroutine" || fn.body.isNone) = false) (h : Inv w0 X L S w) (hc : Pure P f args S r)
    (hk : ∀ w', Inv w0 X L S w' → K r w') : Run P (sCall (.func (.func f) #[] #[]) args) w K := by
  refine Run.callP hf hn ((hc w h.nil.begin).mono ?_)
  rintro e w' ⟨rfl, hI⟩
  have h2 := Inv.step (A := L) (B := []) (by simpa using h) hI fun b o hb => .inl hb
  exact hk w' (by simpa using h2)
theorem Pure.less {P : Program} {f : FuncId} {args : List Value} {S S' : Store} {r : Value} (h : Pure P f args S r) (hs : Sle S S') : Pure P f args S' r := by
  intro w hI
  refine (h w (hI.less hs)).mono ?_
  rintro e w' ⟨he, h2⟩
  refine ⟨he, h2.size, h2.os, h2.tape, h2.output, h2.old, by simp, by simp [feet], by simp [feet], fun b o hb => ⟨?_, by simp [feet]⟩⟩
  rw [h2.old b (hI.publt hb) (by simp)]
  exact (hI.pub b o hb).1

end Go.Proofs.YtmnnpgdeecnfpaaGreat

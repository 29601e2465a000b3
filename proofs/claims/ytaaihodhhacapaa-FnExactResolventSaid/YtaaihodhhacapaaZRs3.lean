/- The laws' marks in one clause: what lies behind it is marked, its own cells stay. -/
import Derived.Test.YtaaihodhhacapaaZRs2
import Derived.Test.YtaaihodhhacapaaZRs1
namespace Go.Proofs.Ytaaihodhhacapaa
open Go Go.RowKit
def mkH (c : C) (k : Int) : C × Int := (⟨.mk c.head.kind c.head.n c.head.name (mkL c.head.kids k).1, (mkL c.body (mkL c.head.kids k).2).1⟩, (mkL c.body (mkL c.head.kids k).2).2)
def cntH (c : C) : Int := cntL c.head.kids + cntL c.body
theorem mkH_end (c : C) (k : Int) : (mkH c k).2 = k + 3 * cntH c := by
  show (mkL c.body (mkL c.head.kids k).2).2 = _
  rw [mkL_end, mkL_end, cntH]
  omega
theorem cntH_pos (c : C) : 0 ≤ cntH c := by
  have := cntL_pos c.head.kids
  have := cntL_pos c.body
  rw [cntH]; omega
theorem cntH_wC (c : C) : cntH c ≤ (wC c : Int) := by
  have h := cntC_wC c
  rw [cntC_eq] at h
  rw [cntH]; omega
section
attribute [local irreducible] Run CondV GuardV LoadV
theorem markTerm_ok {t : T} {S : Store} {L : Heaplet} {cs : List Value} {k : Int} (hT : TrT L cs t) (hk0 : 0 ≤ k) (hk : k + 3 * cntL t.kids ≤ 4611686018427387904) :
    Tri Try.prog n_l_markTerm [.agg cs.toArray, .int .i64 k] (blks L) S fun r I' S' => S' = S ∧ r = .int .i64 (mkL t.kids k).2 ∧ ∃ L', I' = blks L' ∧ TrT L' cs (.mk t.kind t.n t.name (mkL t.kids k).1) := by
  intro w hI
  obtain ⟨kv, rfl, h1, h2, h3, hkT⟩ := TrT.iff.1 hT
  refine calls_l_markTerm ?_
  unfold sh_l_markTerm
  refine r_box hI fun b1 w' hI => ?_
  have hI := hI.perm (M := [.blk b1 (.cells #[.int .i64 t.kind, .int .i64 t.n, .string t.name, kv] t_iTerm)] ++ blks L) List.perm_append_comm
  refine r_fieldL hI 0 rfl fo_iTerm_3 sc_SiTerm rfl ?_
  refine Run.call (A := [_]) fn_l_markTermS nm_l_markTermS hI (markTermS_ok t.kids S L kv k hkT hk0 hk) fun v' I' S' w' => ?_
  rintro ⟨rfl, rfl, L', rfl, hT'⟩ _ hI
  exact ⟨_, _, _, rfl, hI.sub (List.sublist_append_right _ _), Ext.refl _ _ _, rfl, rfl, L', rfl, TrT.iff.2 ⟨kv, rfl, h1, h2, h3, hT'⟩⟩
theorem heldTerm_calls {t : T} {S : Store} {cs : List Value} {k : Int} (h : RdT S cs (.mk t.kind t.n t.name (mkL t.kids k).1)) (hk0 : 0 ≤ k) (hk : k + 3 * cntL t.kids ≤ 4611686018427387904) :
    Pure Try.prog n_l_heldTerm [.agg cs.toArray, .int .i64 k] S (.int .i64 (mkL t.kids k).2) := by
  intro w hI
  obtain ⟨kv, rfl, _, _, _, hks⟩ := RdT.iff.1 h
  have hcn := cntL_pos t.kids
  have hme := mkL_end t.kids k
  refine calls_l_heldTerm ?_
  unfold sh_l_heldTerm
  refine r_box hI fun b1 w' hI => ?_
  refine r_fieldL hI 0 rfl fo_iTerm_3 sc_SiTerm rfl ?_
  refine Run.callPure fn_l_heldTermS nm_l_heldTermS hI (heldTermS_ok _ S kv k hks hk0 hk) fun w' hI => ?_
  refine r_lss ?_
  refine condP (fun hb => by omega) (fun _ => done hI rfl)
theorem markClause_calls {c : C} {S : Store} {L : Heaplet} {cs : List Value} {k : Int} (hT : TrC L cs c) (hk0 : 0 ≤ k) (hk : k + 3 * cntH c ≤ 4611686018427387904) :
    Tri Try.prog n_l_markClause [.agg cs.toArray, .int .i64 k] (blks L) S fun r I' S' => S' = S ∧ r = .int .i64 (mkH c k).2 ∧ ∃ L', I' = blks L' ∧ TrC L' cs (mkH c k).1 := by
  intro w hI
  obtain ⟨hd, ks, L1, L2, rfl, rfl, hT1, hT2⟩ := hT
  have hT1' := hT1
  obtain ⟨kv, rfl, _, _, _, _⟩ := TrT.iff.1 hT1
  have hc1 := cntL_pos c.head.kids
  have hc2 := cntL_pos c.body
  have hme := mkL_end c.head.kids k
  rw [cntH] at hk
  refine calls_l_markClause ?_
  unfold sh_l_markClause
  refine r_box hI fun b1 w' hI => ?_
  have hI := hI.perm (M := ([.blk b1 (.cells #[.int .i64 c.head.kind, .int .i64 c.head.n, .string c.head.name, kv, ks] t_iClause)] ++ blks L2) ++ blks L1) (by
    rw [blks_append]
    exact List.perm_append_comm.trans (List.Perm.append_left _ List.perm_append_comm |>.trans (by rw [List.append_assoc]; exact List.Perm.refl _)))
  refine r_field fo_iClause_0 ?_
  refine r_loadLA hI 0 [.int .i64 c.head.kind, .int .i64 c.head.n, .string c.head.name, kv] ag_iTerm rfl rfl sub4 ?_
  refine Run.call fn_l_markTerm nm_l_markTerm hI (markTerm_ok hT1' hk0 (by omega)) fun v' I' S' w' => ?_
  rintro ⟨rfl, rfl, L1', rfl, hT1''⟩ _ hI
  refine r_fieldL hI 0 rfl fo_iClause_1 sc_SiTerm rfl ?_
  have hI := hI.perm (M := ([.blk b1 (.cells #[.int .i64 c.head.kind, .int .i64 c.head.n, .string c.head.name, kv, ks] t_iClause)] ++ blks L1') ++ blks L2) (by
    rw [List.append_assoc, List.append_assoc]; exact List.Perm.append_left _ List.perm_append_comm)
  refine Run.call fn_l_markTermS nm_l_markTermS hI (markTermS_ok c.body S' L2 ks _ hT2 (by omega) (by omega)) fun v' I' S2 w' => ?_
  rintro ⟨rfl, rfl, L2', rfl, hT2'⟩ _ hI
  have hI : Inv w (feet (blks (L1 ++ L2))) (blks (L1' ++ L2')) S2 w' := by
    rw [blks_append L1' L2']
    rw [List.append_assoc] at hI
    exact hI.sub (List.sublist_append_right _ _)
  exact ⟨_, _, _, rfl, hI, Ext.refl _ _ _, rfl, rfl, L1' ++ L2', rfl, _, ks, L1', L2', rfl, rfl, hT1'', hT2'⟩
theorem heldClause_calls {c : C} {S : Store} {cs : List Value} {k : Int} (h : RdC S cs (mkH c k).1) (hk0 : 0 ≤ k) (hk : k + 3 * cntH c ≤ 4611686018427387904) :
    Pure Try.prog n_l_heldClause [.agg cs.toArray, .int .i64 k] S (.int .i64 (mkH c k).2) := by
  intro w hI
  obtain ⟨hd, ks, rfl, h1, h2⟩ := h
  have h1' : RdT S hd (.mk c.head.kind c.head.n c.head.name (mkL c.head.kids k).1) := h1
  obtain ⟨kv, rfl, _, _, _, _⟩ := RdT.iff.1 h1
  have hc1 := cntL_pos c.head.kids
  have hc2 := cntL_pos c.body
  have hme := mkL_end c.head.kids k
  have hme2 := mkL_end c.body (mkL c.head.kids k).2
  rw [cntH] at hk
  refine calls_l_heldClause ?_
  unfold sh_l_heldClause
  refine r_box hI fun b1 w' hI => ?_
  refine r_field fo_iClause_0 ?_
  refine r_loadLA hI 0 [.int .i64 c.head.kind, .int .i64 c.head.n, .string c.head.name, kv] ag_iTerm rfl rfl sub4 ?_
  refine Run.callPure fn_l_heldTerm nm_l_heldTerm hI (heldTerm_calls h1' hk0 (by omega)) fun w' hI => ?_
  refine r_lss ?_
  refine condP (fun hb => by omega) (fun _ => ?_)
  refine r_fieldL hI 0 rfl fo_iClause_1 sc_SiTerm rfl ?_
  refine Run.callPure fn_l_heldTermS nm_l_heldTermS hI (heldTermS_ok c.body S ks _ h2 (by omega) (by omega)) fun w' hI => ?_
  refine r_lss ?_
  exact condP (fun hb => by omega) (fun _ => done hI rfl)
end
section
variable {w w0 : World} {X : List Nat} {L A : List Item} {S : Store} {K : Value → World → Prop}
attribute [local irreducible] Run CondV GuardV LoadV
theorem Run.toClause1M {c : C} {cs : List Value} (hI : Inv w0 X L S w) (h : RdC S cs c) (hw : wC c ≤ 1048576)
    (hk : ∀ cs' M S' w', Sle S S' → RdC S' cs' c → TrC M cs' c → Inv w0 X L S' w' → (∀ B w'', Inv w0 X B S' w'' → Inv w0 X (B ++ blks M) S w'') → K (.agg cs'.toArray) w') :
    Run Try.prog (sCall (.func (.func n_l_toClause) #[] #[]) [.agg cs.toArray]) w K := by
  refine Run.call0 fn_l_toClause nm_l_toClause hI (toClause_calls h hw) fun v' I' S' w' => ?_
  rintro ⟨rfl, cs', M, rfl, rfl, hT⟩ _ hI
  obtain ⟨S2, hle, hins, hI, hb⟩ := Inv.lendAll M hI
  exact hk _ M _ _ hle (hT.rd hins) hT hI hb
theorem Run.markC1 {c : C} {cs : List Value} {M : Heaplet} {k : Int} (hI : Inv w0 X (A ++ blks M) S w) (hT : TrC M cs c) (hk0 : 0 ≤ k) (hk1 : k + 3 * cntH c ≤ 4611686018427387904)
    (hk : ∀ M' w', TrC M' cs (mkH c k).1 → Inv w0 X (A ++ blks M') S w' → K (.int .i64 (k + 3 * cntH c)) w') : Run Try.prog (sCall (.func (.func n_l_markClause) #[] #[]) [.agg cs.toArray, .int .i64 k]) w K := by
  refine Run.call fn_l_markClause nm_l_markClause hI (markClause_calls hT hk0 hk1) fun v' I' S' w' => ?_
  rintro ⟨rfl, rfl, M', rfl, hT'⟩ _ hI
  rw [mkH_end]
  exact hk _ _ hT' hI
theorem Run.heldC1 {c : C} {cs : List Value} {M : Heaplet} {k : Int} (hI : Inv w0 X (A ++ blks M) S w) (hT : TrC M cs (mkH c k).1) (hk0 : 0 ≤ k) (hk1 : k + 3 * cntH c ≤ 4611686018427387904)
    (hk : ∀ w', Inv w0 X (A ++ blks M) S w' → K (.int .i64 (k + 3 * cntH c)) w') : Run Try.prog (sCall (.func (.func n_l_heldClause) #[] #[]) [.agg cs.toArray, .int .i64 k]) w K := by
  obtain ⟨S1, hle, hins, hI, hb⟩ := Inv.lendAll M hI
  refine Run.callPure fn_l_heldClause nm_l_heldClause hI (heldClause_calls (hT.rd hins) hk0 hk1) fun w' hI => ?_
  rw [mkH_end]
  exact hk _ (hb _ _ hI)
theorem Run.eqTree1 {c : C} {cs ds : List Value} {M : Heaplet} (hI : Inv w0 X (A ++ blks M) S w) (hT : TrC M cs c) (h : RdC S ds c) (hk : ∀ w', Inv w0 X (A ++ blks M) S w' → K (.bool true) w') :
    Run Try.prog (sCall (.func (.func n_l_eqClause) #[] #[]) [.agg cs.toArray, .agg ds.toArray]) w K := by
  obtain ⟨S1, hle, hins, hI, hb⟩ := Inv.lendAll M hI
  refine Run.callPure fn_l_eqClause nm_l_eqClause hI (eqClause_calls (hT.rd hins) (h.mono hle)) fun w' hI => ?_
  rw [(eqC_iff c c).2 rfl]
  exact hk _ (hb _ _ hI)
end

end Go.Proofs.Ytaaihodhhacapaa

/- Whether terms are the same: both sides. -/
namespace Go.Proofs.Ytaaihodhhacapaa
open Go Go.RowKit
attribute [local irreducible] Run CondV GuardV LoadV

def hdEq (t u : T) : Bool := decide (t.kind = u.kind) && (decide (t.n = u.n) && (decide (t.name = u.name) && decide (t.kids.length = u.kids.length)))
theorem hdEq_mk (k n k' n' : Int) (s s' : ByteArray) (ks ks' : List T) : hdEq (.mk k n s ks) (.mk k' n' s' ks') = (decide (k = k') && (decide (n = n') && (decide (s = s') && decide (ks.length = ks'.length)))) := rfl
theorem lenEq {α β : Type} (a : List α) (b : List β) : decide (a.length = b.length) = decide ((a.length : Int) = (b.length : Int)) := by
  rw [Bool.eq_iff_iff]
  simp only [decide_eq_true_eq]
  omega
theorem eqT_hd (t u : T) : eqT t u = (hdEq t u && eqL t.kids u.kids) := by
  obtain ⟨k, n, s, ks⟩ := t
  obtain ⟨k', n', s', ks'⟩ := u
  rw [eqT, hdEq_mk]
  by_cases h : ks.length = ks'.length
  · rw [decide_eq_true h, Bool.and_true, Bool.and_assoc, Bool.and_assoc]; rfl
  · rw [eqL_len h, decide_eq_false h]; simp
end Go.Proofs.Ytaaihodhhacapaa

/- Whether terms are the same: the program's side. -/
namespace Go.Proofs.Ytaaihodhhacapaa
open Go Go.RowKit
attribute [local irreducible] Run CondV GuardV LoadV

end Go.Proofs.Ytaaihodhhacapaa

/- Maps from numbers to terms. -/
namespace Go.Proofs.Ytaaihodhhacapaa
open Go Go.RowKit

theorem findNow_int {n : Int} : ∀ (l : List MapEntry) (i : Nat), (∀ e ∈ l, ∃ m, e.key = .int .i64 m) →
    (∃ j, ∃ e ∈ l, e.key = .int .i64 n ∧ Instr.findNow (.int .i64) (.int .i64 n) l i = some (some (j, e.val))) ∨ ((∀ e ∈ l, e.key ≠ .int .i64 n) ∧ Instr.findNow (.int .i64) (.int .i64 n) l i = some none)
  | [], i, _ => .inr ⟨by simp, rfl⟩
  | e :: l, i, h => by
    obtain ⟨m, hm⟩ := h e (List.mem_cons_self ..)
    have hs : Instr.sameNow (.int .i64) (.int .i64 n) e.key = some (n == m) := by rw [hm]; rfl
    by_cases hnm : n = m
    · refine .inl ⟨i, e, List.mem_cons_self .., by rw [hm, hnm], ?_⟩
      have : (n == m) = true := by simpa using hnm
      rw [Instr.findNow, hs, this]
    · have h2 : (n == m) = false := by simpa using hnm
      rcases findNow_int l (i + 1) (fun e he => h e (List.mem_cons_of_mem _ he)) with ⟨j, e', he', hk, hf⟩ | ⟨hk, hf⟩
      · exact .inl ⟨j, e', List.mem_cons_of_mem _ he', hk, by rw [Instr.findNow, hs, h2]; exact hf⟩
      · refine .inr ⟨fun x hx => ?_, by rw [Instr.findNow, hs, h2]; exact hf⟩
        rcases List.mem_cons.1 hx with rfl | hx
        · rw [hm]
          intro e'
          simp only [Value.int.injEq, true_and] at e'
          exact hnm e'.symm
        · exact hk x hx
section
variable {P : Program} {w w0 : World} {X : List Nat} {L : List Item} {S : Store} {K : Value → World → Prop}
attribute [local irreducible] Run CondV GuardV LoadV
theorem run_findKeyI {kt : TypeId} {d : TypeDesc} {k : Value} {l : List MapEntry} {a : Option (Nat × Value)} (hd : P.underlying kt = some d) (h : Instr.findNow d k l 0 = some a) : (Instr.findKey kt k l).run P w = .ok a w := by
  simp [Instr.findKey, run_underlying hd, Result.andThen, h]
theorem r_makeMap (h : Inv w0 X L S w) {T ty : TypeId} (hk : ∀ b w', Inv w0 X (L ++ [.blk b (.map #[] 0)]) S w' → K (.map (some b)) w') : Run P (sOp (.makeMap T none) ty) w K := by
  refine Run.of (v := .map (some w.heap.size)) (w' := { w with heap := w.heap.push (.map #[] 0) }) ?_ (hk _ _ (h.alloc _))
  simp [sOp, execOp, Instr.makeMap, newObj, Sem.run]
theorem r_lookup (h : Inv w0 X L S w) {T kt et ty : TypeId} {b clock : Nat} {es : Array MapEntry} {n : Int} {z v : Value} {ok : Bool} (i : Nat) (hT : P.underlying T = some (.map kt et)) (hkt : P.underlying kt = some (.int .i64))
    (hz : zeroOf P et = some z) (hi : L[i]? = some (.blk b (.map es clock)))
    (hf : (∃ j, Instr.findNow (.int .i64) (.int .i64 n) es.toList 0 = some (some (j, v)) ∧ ok = true) ∨ (Instr.findNow (.int .i64) (.int .i64 n) es.toList 0 = some none ∧ v = z ∧ ok = false))
    (hk : K (.tuple #[v, .bool ok]) w) : Run P (sOp (.lookup T (.const (.map (some b))) (.const (.int .i64 n)) true) ty) w K := by
  have hb : w.heap[b]? = some (.map es clock) := h.its _ (List.mem_of_getElem? hi)
  have hck : ∀ e, (Instr.checkKey e 10000 kt (.int .i64 n)).run P w = .ok () w := fun e => by
    rw [show (10000 : Nat) = 9999 + 1 from rfl, Instr.checkKey]
    simp [run_underlying hkt]
  obtain ⟨inf, hi1, hi2⟩ : ∃ inf, P.info? et = some inf ∧ inf.zero = some z := by
    unfold zeroOf at hz
    cases hinf : P.info? et with
    | none => rw [hinf] at hz; simp at hz
    | some inf => rw [hinf] at hz; exact ⟨inf, rfl, by simpa using hz⟩
  have hzv : (zeroValue et).run P w = .ok z w := by simp [zeroValue, typeInfo, hi1, hi2]
  refine Run.of ?_ hk
  have hg : (getObj b).run P w = .ok (.map es clock) w := by simp [getObj, Sem.run, hb]
  rcases hf with ⟨j, hf, rfl⟩ | ⟨hf, rfl, rfl⟩
  · have hfk := run_findKeyI (P := P) (w := w) hkt hf
    simp [sOp, execOp, ev0, evE, Instr.lookup, run_underlying hT, hg, hck, hfk]
  · have hfk := run_findKeyI (P := P) (w := w) hkt hf
    simp [sOp, execOp, ev0, evE, Instr.lookup, run_underlying hT, hg, hck, hfk, hzv]
theorem r_mapNew (h : Inv w0 X L S w) {T kt et ty : TypeId} {b clock : Nat} {es : Array MapEntry} {n : Int} {v : Value} (i : Nat) (hT : P.underlying T = some (.map kt et)) (hkt : P.underlying kt = some (.int .i64))
    (hi : L[i]? = some (.blk b (.map es clock))) (hf : Instr.findNow (.int .i64) (.int .i64 n) es.toList 0 = some none)
    (hk : ∀ w', Inv w0 X (L.set i (.blk b (.map (es.push { key := .int .i64 n, val := v, born := clock }) (clock + 1)))) S w' → K undef w') :
    Run P (sOp (.mapUpdate T (.const (.map (some b))) (.const (.int .i64 n)) (.const v)) ty) w K := by
  have hb : w.heap[b]? = some (.map es clock) := h.its _ (List.mem_of_getElem? hi)
  have hck : ∀ e, (Instr.checkKey e 10000 kt (.int .i64 n)).run P w = .ok () w := fun e => by
    rw [show (10000 : Nat) = 9999 + 1 from rfl, Instr.checkKey]
    simp [run_underlying hkt]
  have hg : (getObj b).run P w = .ok (.map es clock) w := by simp [getObj, Sem.run, hb]
  have hfk := run_findKeyI (P := P) (w := w) hkt hf
  refine Run.ofSkip (w' := { w with heap := w.heap.setIfInBounds b (.map (es.push { key := .int .i64 n, val := v, born := clock }) (clock + 1)) }) ?_ (hk _ (h.setBlk hi _ rfl))
  have hst : (setObj b (.map (es.push { key := .int .i64 n, val := v, born := clock }) (clock + 1))).run P w = .ok () { w with heap := w.heap.setIfInBounds b (.map (es.push { key := .int .i64 n, val := v, born := clock }) (clock + 1)) } := by simp [setObj, Sem.run, hb]
  simp [sOp, execOp, ev0, evE, Instr.mapUpdate, run_underlying hT, hg, hck, hfk, hst]
end

end Go.Proofs.Ytaaihodhhacapaa

/- Matching a general term to a special one: the plain form, and spec.l3Match. -/
namespace Go.Proofs.Ytaaihodhhacapaa
open Go Go.RowKit

abbrev Known := List (Option T)
mutual
def matchT : T → T → Known → Bool × Known
  | .mk k n s ks, u, st => if k = 1 then (match st[n.toNat]? with
      | some (some t) => (eqT t u, st)
      | _ => (true, st.set n.toNat (some u)))
    else if hdEq (.mk k n s ks) u = true then matchL ks u.kids st else (false, st)
def matchL : List T → List T → Known → Bool × Known
  | [], _, st => (true, st)
  | _ :: _, [], st => (true, st)
  | t :: ts, u :: us, st => if (matchT t u st).1 = true then matchL ts us (matchT t u st).2 else (false, (matchT t u st).2)
end
theorem matchL_drop (ts us : List T) (st : Known) (j : Nat) (h : j < ts.length) (h' : j < us.length) :
    matchL (ts.drop j) (us.drop j) st = if (matchT ts[j] us[j] st).1 = true then matchL (ts.drop (j + 1)) (us.drop (j + 1)) (matchT ts[j] us[j] st).2 else (false, (matchT ts[j] us[j] st).2) := by
  rw [List.drop_eq_getElem_cons h, List.drop_eq_getElem_cons h', matchL]
/- variables within the table; kinds that are kinds -/
mutual
def okV : T → Prop
  | .mk k n _ ks => (k = 1 → 0 ≤ n ∧ n ≤ 25) ∧ okVL ks
def okVL : List T → Prop
  | [] => True
  | t :: ts => okV t ∧ okVL ts
end
theorem okVL_mem : ∀ {ts : List T}, okVL ts → ∀ t ∈ ts, okV t
  | _ :: _, h, t, ht => by
    rcases List.mem_cons.1 ht with rfl | ht
    · exact h.1
    · exact okVL_mem h.2 t ht
mutual
def okK : T → Prop
  | .mk k _ _ ks => k ≠ 0 ∧ okKL ks
def okKL : List T → Prop
  | [] => True
  | t :: ts => okK t ∧ okKL ts
end
theorem okKL_mem : ∀ {ts : List T}, okKL ts → ∀ t ∈ ts, okK t
  | _ :: _, h, t, ht => by
    rcases List.mem_cons.1 ht with rfl | ht
    · exact h.1
    · exact okKL_mem h.2 t ht
theorem ownB_v {t : T} (h : ownB t = true) : (t.kind = 1 → 0 ≤ t.n ∧ t.n ≤ 25) ∧ t.kind ≠ 0 := by
  unfold ownB at h
  refine ⟨fun hk => ?_, fun hk => ?_⟩
  · rw [if_pos hk] at h
    simp only [Bool.and_eq_true, decide_eq_true_eq] at h
    exact ⟨h.1, h.2.1⟩
  · rw [if_neg (by omega), if_neg (by omega), if_neg (by omega)] at h
    cases h
mutual
theorem shape_ok : ∀ (t : T) (d : Int), shapeT t d = true → okV t ∧ okK t
  | .mk k n s ks, d, h => by
    rw [shapeT] at h
    split at h
    · cases h
    · simp only [Bool.and_eq_true] at h
      obtain ⟨h1, h2⟩ := h
      obtain ⟨h3, h4⟩ := shapeL_ok ks (d - 1) h2
      rw [okV, okK]
      obtain ⟨h5, h6⟩ := ownB_v h1
      exact ⟨⟨h5, h3⟩, ⟨h6, h4⟩⟩
theorem shapeL_ok : ∀ (ts : List T) (d : Int), shapeL ts d = true → okVL ts ∧ okKL ts
  | [], d, h => by simp [okVL, okKL]
  | t :: ts, d, h => by
    rw [shapeL, Bool.and_eq_true] at h
    obtain ⟨h1, h2⟩ := shape_ok t d h.1
    obtain ⟨h3, h4⟩ := shapeL_ok ts d h.2
    rw [okVL, okKL]
    exact ⟨⟨h1, h3⟩, ⟨h2, h4⟩⟩
end
theorem valid_ok {t : T} (h : validB t = true) : okV t ∧ okK t := by
  rw [validB, Bool.and_eq_true] at h
  exact shape_ok t 30 h.1
def stOk (st : Known) : Prop := st.length = 26 ∧ ∀ t, some t ∈ st → okK t
theorem stOk_set {st : Known} {n : Nat} {u : T} (h : stOk st) (hu : okK u) : stOk (st.set n (some u)) := by
  refine ⟨by rw [List.length_set]; exact h.1, fun t ht => ?_⟩
  rcases List.mem_or_eq_of_mem_set ht with ht | ht
  · exact h.2 t ht
  · simp only [Option.some.injEq] at ht
    rw [ht]; exact hu
mutual
theorem match_ok : ∀ (t u : T) (st : Known), stOk st → okK u → stOk (matchT t u st).2
  | .mk k n s ks, u, st, h, hu => by
    rw [matchT]
    split
    · split
      · exact h
      · exact stOk_set h hu
    · split
      · obtain ⟨k', n', s', ks'⟩ := u
        rw [okK] at hu
        exact matchL_ok ks ks' st h hu.2
      · exact h
theorem matchL_ok : ∀ (ts us : List T) (st : Known), stOk st → okKL us → stOk (matchL ts us st).2
  | [], _, st, h, _ => by rw [matchL]; exact h
  | _ :: _, [], st, h, _ => by rw [matchL]; exact h
  | t :: ts, u :: us, st, h, hu => by
    rw [matchL]
    rw [okKL] at hu
    split
    · exact matchL_ok ts us _ (match_ok t u st h hu.1) hu.2
    · exact match_ok t u st h hu.1
end
def noCells : List Value := [.int .i64 0, .int .i64 0, .string ⟨#[]⟩, .slice none 0 0]
/- the table of spec.l3Match -/
def KnownC (S : Store) (c : Array Value) (st : Known) : Prop := 104 ≤ c.size ∧ ∀ i (h : i < st.length), (st[i] = none → cellsAt c (i * 4) 4 = noCells) ∧ (∀ t, st[i] = some t → RdT S (cellsAt c (i * 4) 4) t)
theorem KnownC.set {S : Store} {c : Array Value} {st : Known} (h : KnownC S c st) {n : Nat} (hn : n < 26) {cs : List Value} {u : T} (hu : RdT S cs u) : KnownC S (putCells c (n * 4) cs) (st.set n (some u)) := by
  have hlc := hu.length
  have h1 := h.1
  have hs : 104 ≤ (putCells c (n * 4) cs).size := by rw [putCells_size _ _ _ (by omega)]; exact h1
  refine ⟨hs, fun i hi => ?_⟩
  rw [List.length_set] at hi
  by_cases e : n = i
  · subst e
    rw [List.getElem_set_self]
    refine ⟨fun h => (by cases h), fun t ht => ?_⟩
    simp only [Option.some.injEq] at ht
    subst ht
    have := cellsAt_put_self (c := c) (o := n * 4) (vs := cs) (by omega)
    rw [hlc] at this
    rw [this]
    exact hu
  · rw [List.getElem_set_ne e, cellsAt_put_ne (by omega) (by omega)]
    exact h.2 i hi
section
attribute [local irreducible] Run CondV GuardV LoadV
abbrev kvn (kb kp : Nat) : Value := .slice (some ⟨kb, 0, none⟩) 26 kp
abbrev kv0 (kb : Nat) : Value := kvn kb 26
end

end Go.Proofs.Ytaaihodhhacapaa

/- Variables numbered anew: the plain form of both sides. -/
namespace Go.Proofs.Ytaaihodhhacapaa
open Go Go.RowKit

def lastI : List Int → Int → Int → Nat → Int
  | [], _, cur, _ => cur
  | x :: xs, n, cur, k => lastI xs n (if x = n then (k : Int) else cur) (k + 1)
def idxI (vs : List Int) (n : Int) : Int := (indexF (σ := Unit) (fun _ x => (decide (n = x), ())) () vs 0).1
mutual
def srenT (vs : List Int) : T → T
  | .mk k n s ks => .mk k (if k = 1 then lastI vs n n 0 else n) s (srenL vs ks)
def srenL (vs : List Int) : List T → List T
  | [] => []
  | t :: ts => srenT vs t :: srenL vs ts
end
mutual
def irenT (vs : List Int) : T → T
  | .mk k n s ks => if k = 1 then .mk 1 (idxI vs n) ⟨#[]⟩ [] else .mk k n s (irenL vs ks)
def irenL (vs : List Int) : List T → List T
  | [] => []
  | t :: ts => irenT vs t :: irenL vs ts
end
theorem lastI_not : ∀ (xs : List Int) (n cur : Int) (k : Nat), n ∉ xs → lastI xs n cur k = cur
  | [], n, cur, k, _ => rfl
  | x :: xs, n, cur, k, h => by
    rw [lastI, if_neg (fun e => h (by rw [e]; exact List.mem_cons_self ..)), lastI_not xs n cur (k + 1) fun e => h (List.mem_cons_of_mem _ e)]
theorem lastI_idx : ∀ (xs : List Int) (n cur : Int) (k : Nat), n ∈ xs → xs.Nodup → lastI xs n cur k = (indexF (σ := Unit) (fun _ x => (decide (n = x), ())) () xs k).1
  | x :: xs, n, cur, k, h, hd => by
    rw [List.nodup_cons] at hd
    rw [lastI, indexF]
    by_cases e : x = n
    · subst e
      rw [if_pos rfl, lastI_not _ _ _ _ hd.1]
      simp
    · rw [if_neg e]
      have h' : n ∈ xs := by
        rcases List.mem_cons.1 h with h | h
        · exact absurd h.symm e
        · exact h
      have : decide (n = x) = false := decide_eq_false fun q => e q.symm
      simp only [this, Bool.false_eq_true, if_false]
      exact lastI_idx xs n cur (k + 1) h' hd.2
theorem lastI_rng : ∀ (xs : List Int) (n cur : Int) (k : Nat), lastI xs n cur k = cur ∨ (0 ≤ lastI xs n cur k ∧ lastI xs n cur k < k + xs.length)
  | [], n, cur, k => .inl rfl
  | x :: xs, n, cur, k => by
    rw [lastI]
    rcases lastI_rng xs n (if x = n then (k : Int) else cur) (k + 1) with h | h
    · split at h
      · right; rw [if_pos (by assumption), h]; simp; omega
      · left; rw [if_neg (by assumption)]; exact h
    · right
      simp only [List.length_cons]
      omega
theorem idxI_rng (vs : List Int) (n : Int) : -1 ≤ idxI vs n ∧ idxI vs n < vs.length + 1 := by
  have : ∀ (xs : List Int) (k : Nat), -1 ≤ (indexF (σ := Unit) (fun _ x => (decide (n = x), ())) () xs k).1 ∧ (indexF (σ := Unit) (fun _ x => (decide (n = x), ())) () xs k).1 < k + xs.length + 1 := by
    intro xs
    induction xs with
    | nil => intro k; simp [indexF]; omega
    | cons x xs ih =>
      intro k
      rw [indexF]
      have := ih (k + 1)
      split
      · simp; omega
      · simp only [List.length_cons]; omega
  have h := this vs 0
  rw [idxI]
  omega
mutual
def inT (vs : List Int) : T → Prop
  | .mk k n _ ks => (k = 1 → n ∈ vs) ∧ inL vs ks
def inL (vs : List Int) : List T → Prop
  | [] => True
  | t :: ts => inT vs t ∧ inL vs ts
end
theorem hasI_mem (l : List Int) (n : Int) : hasI l n = true ↔ n ∈ l := by
  simp [hasI]
theorem addI_mem (l : List Int) (n : Int) : n ∈ addI l n ∧ ∀ m ∈ l, m ∈ addI l n := by
  unfold addI
  split
  · rename_i h; exact ⟨(hasI_mem l n).1 h, fun m h => h⟩
  · exact ⟨by simp, fun m h => by simp [h]⟩
theorem addI_nodup {l : List Int} (n : Int) (h : l.Nodup) : (addI l n).Nodup := by
  unfold addI
  split
  · exact h
  · rename_i hn
    rw [List.nodup_append]
    refine ⟨h, by simp, fun a ha b hb e => hn ((hasI_mem l n).2 ?_)⟩
    simp at hb
    rw [← hb, ← e]
    exact ha
mutual
theorem varsT_sub : ∀ (t : T) (l : List Int), ∀ m ∈ l, m ∈ varsT t l
  | .mk k n s ks, l, m, h => by
    rw [varsT]
    refine varsL_sub ks _ m ?_
    split
    · exact (addI_mem l n).2 m h
    · exact h
theorem varsL_sub : ∀ (ts : List T) (l : List Int), ∀ m ∈ l, m ∈ varsL ts l
  | [], l, m, h => h
  | t :: ts, l, m, h => by
    rw [varsL]
    exact varsL_sub ts _ m (varsT_sub t l m h)
end
mutual
theorem varsT_nodup : ∀ (t : T) (l : List Int), l.Nodup → (varsT t l).Nodup
  | .mk k n s ks, l, h => by
    rw [varsT]
    refine varsL_nodup ks _ ?_
    split
    · exact addI_nodup n h
    · exact h
theorem varsL_nodup : ∀ (ts : List T) (l : List Int), l.Nodup → (varsL ts l).Nodup
  | [], l, h => h
  | t :: ts, l, h => by
    rw [varsL]
    exact varsL_nodup ts _ (varsT_nodup t l h)
end
mutual
theorem inT_mono {vs ws : List Int} (h : ∀ m ∈ vs, m ∈ ws) : ∀ t : T, inT vs t → inT ws t
  | .mk k n s ks, hi => by
    rw [inT] at hi ⊢
    exact ⟨fun e => h _ (hi.1 e), inL_mono h ks hi.2⟩
theorem inL_mono {vs ws : List Int} (h : ∀ m ∈ vs, m ∈ ws) : ∀ ts : List T, inL vs ts → inL ws ts
  | [], _ => by simp [inL]
  | t :: ts, hi => by
    rw [inL] at hi ⊢
    exact ⟨inT_mono h t hi.1, inL_mono h ts hi.2⟩
end
mutual
theorem varsT_in : ∀ (t : T) (l : List Int), inT (varsT t l) t
  | .mk k n s ks, l => by
    rw [varsT, inT]
    refine ⟨fun e => varsL_sub ks _ n ?_, varsL_in ks _⟩
    rw [if_pos e]
    exact (addI_mem l n).1
theorem varsL_in : ∀ (ts : List T) (l : List Int), inL (varsL ts l) ts
  | [], l => by simp [inL]
  | t :: ts, l => by
    rw [varsL, inL]
    exact ⟨inT_mono (varsL_sub ts _) t (varsT_in t l), varsL_in ts _⟩
end
theorem ownB_var {t : T} (h : ownB t = true) (hk : t.kind = 1) : t.name = emptyB ∧ t.kids.length = 0 := by
  unfold ownB at h
  rw [if_pos hk] at h
  simp only [Bool.and_eq_true, decide_eq_true_eq] at h
  exact ⟨h.2.2.1, h.2.2.2⟩
mutual
theorem ren_eqT (vs : List Int) (hd : vs.Nodup) : ∀ (t : T) (d : Int), shapeT t d = true → inT vs t → srenT vs t = irenT vs t
  | .mk k n s ks, d, h, hi => by
    rw [shapeT] at h
    rw [inT] at hi
    split at h
    · cases h
    · rw [Bool.and_eq_true] at h
      have h2 := ren_eqL vs hd ks (d - 1) h.2 hi.2
      rw [srenT, irenT]
      by_cases e : k = 1
      · obtain ⟨e1, e2⟩ := ownB_var h.1 e
        have e1' : s = ⟨#[]⟩ := e1
        have e2' : ks = [] := List.eq_nil_of_length_eq_zero e2
        subst e1' e2' e
        rw [if_pos rfl, if_pos rfl, lastI_idx vs n n 0 (hi.1 rfl) hd]
        rfl
      · rw [if_neg e, if_neg e, h2]
theorem ren_eqL (vs : List Int) (hd : vs.Nodup) : ∀ (ts : List T) (d : Int), shapeL ts d = true → inL vs ts → srenL vs ts = irenL vs ts
  | [], d, _, _ => rfl
  | t :: ts, d, h, hi => by
    rw [shapeL, Bool.and_eq_true] at h
    rw [inL] at hi
    rw [srenL, irenL, ren_eqT vs hd t d h.1 hi.1, ren_eqL vs hd ts d h.2 hi.2]
end
theorem srenL_len (vs : List Int) : ∀ ts : List T, (srenL vs ts).length = ts.length
  | [] => rfl
  | t :: ts => by rw [srenL]; simp [srenL_len vs ts]
theorem irenL_len (vs : List Int) : ∀ ts : List T, (irenL vs ts).length = ts.length
  | [] => rfl
  | t :: ts => by rw [irenL]; simp [irenL_len vs ts]
theorem srenL_take (vs : List Int) (ts : List T) (j : Nat) (h : j < ts.length) : srenL vs (ts.take (j + 1)) = srenL vs (ts.take j) ++ [srenT vs ts[j]] := by
  have : ∀ (xs ys : List T), srenL vs (xs ++ ys) = srenL vs xs ++ srenL vs ys := by
    intro xs ys
    induction xs with
    | nil => rfl
    | cons x xs ih => simp [srenL, ih]
  rw [List.take_succ_eq_append_getElem h, this]; rfl
theorem irenL_take (vs : List Int) (ts : List T) (j : Nat) (h : j < ts.length) : irenL vs (ts.take (j + 1)) = irenL vs (ts.take j) ++ [irenT vs ts[j]] := by
  have : ∀ (xs ys : List T), irenL vs (xs ++ ys) = irenL vs xs ++ irenL vs ys := by
    intro xs ys
    induction xs with
    | nil => rfl
    | cons x xs ih => simp [irenL, ih]
  rw [List.take_succ_eq_append_getElem h, this]; rfl
def numC (vs : List Int) (c : C) : C := ⟨srenT vs c.head, srenL vs c.body⟩
def cvars (c : C) : List Int := svarsL (c.head :: c.body) []
theorem num_eq {c : C} (h : clauseB c = true) : varsL (c.head :: c.body) [] = cvars c ∧ irenT (cvars c) c.head = srenT (cvars c) c.head ∧ irenL (cvars c) c.body = srenL (cvars c) c.body := by
  have hv : varsL (c.head :: c.body) [] = cvars c := by
    rw [cvars, varsL, svarsL, ← (clause_vars h []).1, (clause_vars h (svarsT c.head [])).2]
  have hd : (cvars c).Nodup := by rw [← hv]; exact varsL_nodup _ _ List.nodup_nil
  have hi : inL (cvars c) (c.head :: c.body) := by rw [← hv]; exact varsL_in _ _
  rw [inL] at hi
  rw [clauseB] at h
  simp only [Bool.and_eq_true, List.all_eq_true] at h
  obtain ⟨_, h2, h3, _⟩ := h
  rw [validB, Bool.and_eq_true] at h3
  have hb : ∀ ts : List T, (∀ t ∈ ts, goalB t = true) → shapeL ts 30 = true := by
    intro ts
    induction ts with
    | nil => intro _; rfl
    | cons t ts ih =>
      intro ht
      rw [shapeL, Bool.and_eq_true]
      have h1 := ht t (List.mem_cons_self ..)
      rw [goalB, Bool.and_eq_true, validB, Bool.and_eq_true] at h1
      exact ⟨h1.1.1, ih fun u hu => ht u (List.mem_cons_of_mem _ hu)⟩
  exact ⟨hv, (ren_eqT _ hd _ _ h3.1 hi.1).symm, (ren_eqL _ hd _ _ (hb _ h2) hi.2).symm⟩

end Go.Proofs.Ytaaihodhhacapaa

/- Unification: the plain form. Lists of bindings, what a variable reaches, unifiers, resolved terms. -/
namespace Go.Proofs.Ytaaihodhhacapaa
open Go Go.RowKit
/- terms whose variables are bare and below a number -/
mutual
def okU (N : Nat) : T → Prop
  | .mk k n s ks => k ≠ 0 ∧ (k = 1 → 0 ≤ n ∧ n < N ∧ s = emptyB ∧ ks = []) ∧ okUL N ks ∧ s.size ≤ 6
def okUL (N : Nat) : List T → Prop
  | [] => True
  | t :: ts => okU N t ∧ okUL N ts
end
mutual
def vT : T → List Nat
  | .mk k n _ ks => if k = 1 then [n.toNat] else vTL ks
def vTL : List T → List Nat
  | [] => []
  | t :: ts => vT t ++ vTL ts
end
theorem okUL_mem {N : Nat} : ∀ {ts : List T}, okUL N ts → ∀ t ∈ ts, okU N t
  | t :: ts, h, x, hx => by
    rw [okUL] at h
    rcases List.mem_cons.1 hx with rfl | hx
    · exact h.1
    · exact okUL_mem h.2 x hx
theorem okUL_of {N : Nat} : ∀ {ts : List T}, (∀ t ∈ ts, okU N t) → okUL N ts
  | [], _ => by rw [okUL]; trivial
  | t :: ts, h => by rw [okUL]; exact ⟨h t (List.mem_cons_self ..), okUL_of fun u hu => h u (List.mem_cons_of_mem _ hu)⟩
theorem vTL_mem : ∀ {ts : List T} {m : Nat}, m ∈ vTL ts ↔ ∃ t ∈ ts, m ∈ vT t
  | [], m => by simp [vTL]
  | t :: ts, m => by rw [vTL, List.mem_append, vTL_mem]; simp
theorem okU.kids {N : Nat} {t : T} (h : okU N t) : okUL N t.kids := by cases t; rw [okU] at h; exact h.2.2.1
theorem okU.var {N : Nat} {t : T} (h : okU N t) (hk : t.kind = 1) : 0 ≤ t.n ∧ t.n < N ∧ t.name = emptyB ∧ t.kids = [] := by cases t; rw [okU] at h; exact h.2.1 hk
theorem okU.kind {N : Nat} {t : T} (h : okU N t) : t.kind ≠ 0 := by cases t; rw [okU] at h; exact h.1
theorem vT_var {t : T} (h : t.kind = 1) : vT t = [t.n.toNat] := by cases t; rw [vT]; exact if_pos h
theorem vT_kids {t : T} (h : t.kind ≠ 1) : vT t = vTL t.kids := by cases t; rw [vT]; exact if_neg h
mutual
theorem vT_lt {N : Nat} : ∀ (t : T), okU N t → ∀ m ∈ vT t, m < N
  | .mk k n s ks, h, m, hm => by
    rw [okU] at h
    rw [vT] at hm
    split at hm
    · rename_i hk
      have := h.2.1 hk
      simp at hm
      omega
    · exact vTL_lt ks h.2.2.1 m hm
theorem vTL_lt {N : Nat} : ∀ (ts : List T), okUL N ts → ∀ m ∈ vTL ts, m < N
  | [], _, m, hm => by simp [vTL] at hm
  | t :: ts, h, m, hm => by
    rw [okUL] at h
    rw [vTL, List.mem_append] at hm
    rcases hm with hm | hm
    · exact vT_lt t h.1 m hm
    · exact vTL_lt ts h.2 m hm
end
/- what a term is bound to -/
def look (st : Known) (t : T) : Option T := if t.kind = 1 then (st[t.n.toNat]?).join else none
theorem look_some {st : Known} {t u : T} : look st t = some u ↔ t.kind = 1 ∧ st[t.n.toNat]? = some (some u) := by
  unfold look
  split
  · rename_i h
    simp only [Option.join_eq_some_iff]
    exact ⟨fun e => ⟨h, e⟩, fun e => e.2⟩
  · rename_i h
    simp [h]
theorem look_none {st : Known} {t : T} : look st t = none ↔ (t.kind = 1 → st[t.n.toNat]? = none ∨ st[t.n.toNat]? = some none) := by
  unfold look
  split
  · rename_i h
    rw [Option.join_eq_none_iff]
    constructor
    · intro e _
      rcases e with e | e
      · exact .inl e
      · exact .inr e
    · intro e
      rcases e h with e | e
      · exact .inl e
      · exact .inr e
  · rename_i h
    simp [h]
inductive WalkR (st : Known) : T → T → Prop
  | stop {t : T} : look st t = none → WalkR st t t
  | step {t u v : T} : look st t = some u → WalkR st u v → WalkR st t v
inductive Rch (st : Known) : Nat → Nat → Prop
  | refl (m : Nat) : Rch st m m
  | step {m k n : Nat} {u : T} : st[m]? = some (some u) → k ∈ vT u → Rch st k n → Rch st m n
theorem Rch.trans {st : Known} {a b c : Nat} (h : Rch st a b) (h' : Rch st b c) : Rch st a c := by
  induction h with
  | refl => exact h'
  | step h1 h2 _ ih => exact .step h1 h2 (ih h')
def OccP (st : Known) (n : Nat) (t : T) : Prop := ∃ m ∈ vT t, Rch st m n
structure Good (N : Nat) (st : Known) : Prop where
  len : st.length = N
  ok : ∀ t, some t ∈ st → okU N t
  w : ∀ t, some t ∈ st → wT t ≤ 1048576
  rk : ∃ r : Nat → Nat, ∀ (n : Nat) (u : T), st[n]? = some (some u) → ∀ m ∈ vT u, r m < r n
theorem Good.look_ok {N : Nat} {st : Known} (h : Good N st) {t u : T} (hl : look st t = some u) : okU N u ∧ wT u ≤ 1048576 := by
  have := List.mem_of_getElem? (look_some.1 hl).2
  exact ⟨h.ok u this, h.w u this⟩
theorem walk_ok {N : Nat} {st : Known} {t v : T} (h : Good N st) (hw : WalkR st t v) (ht : okU N t ∧ wT t ≤ 1048576) : okU N v ∧ wT v ≤ 1048576 := by
  induction hw with
  | stop => exact ht
  | step hl _ ih => exact ih (h.look_ok hl)
theorem walk_none {st : Known} {t v : T} (hw : WalkR st t v) : look st v = none := by
  induction hw with
  | stop h => exact h
  | step _ _ ih => exact ih
theorem walk_ex {N : Nat} {st : Known} (h : Good N st) (t : T) : ∃ v, WalkR st t v := by
  obtain ⟨r, hr⟩ := h.rk
  have : ∀ (k : Nat) (t : T), (∀ u, look st t = some u → r t.n.toNat < k) → ∃ v, WalkR st t v := by
    intro k
    induction k with
    | zero =>
      intro t ht
      cases hl : look st t with
      | none => exact ⟨t, .stop hl⟩
      | some u => have := ht u hl; omega
    | succ k ih =>
      intro t ht
      cases hl : look st t with
      | none => exact ⟨t, .stop hl⟩
      | some u =>
        have h1 := ht u hl
        obtain ⟨v, hv⟩ := ih u fun u' hu' => by
          obtain ⟨hk, _⟩ := look_some.1 hu'
          have := hr _ _ (look_some.1 hl).2 u.n.toNat (by rw [vT_var hk]; simp)
          omega
        exact ⟨v, .step hl hv⟩
  exact this (r t.n.toNat + 1) t fun _ _ => Nat.lt_succ_self _
/- what a walk leaves open -/
theorem walk_rch {st : Known} {t v : T} (hw : WalkR st t v) {n : Nat} (hn : ∀ u, st[n]? ≠ some (some u)) : OccP st n t ↔ OccP st n v := by
  induction hw with
  | stop => exact Iff.rfl
  | step hl _ ih =>
    rename_i t u v
    rw [← ih]
    obtain ⟨hk, hs⟩ := look_some.1 hl
    constructor
    · rintro ⟨m, hm, hr⟩
      rw [vT_var hk, List.mem_singleton] at hm
      subst hm
      cases hr with
      | refl => exact absurd hs (hn _)
      | step h1 h2 h3 =>
        rw [hs, Option.some.injEq, Option.some.injEq] at h1
        subst h1
        exact ⟨_, h2, h3⟩
    · rintro ⟨m, hm, hr⟩
      exact ⟨_, by rw [vT_var hk]; exact List.mem_singleton.2 rfl, .step hs hm hr⟩
/- bindings that are left -/
def unb : Known → Nat
  | [] => 0
  | none :: st => unb st + 1
  | some _ :: st => unb st
theorem unb_set : ∀ (st : Known) (n : Nat) (t : T), st[n]? = some none → unb (st.set n (some t)) + 1 = unb st
  | [], n, t, h => by simp at h
  | x :: st, 0, t, h => by
    simp only [List.getElem?_cons_zero, Option.some.injEq] at h
    subst h
    rfl
  | x :: st, n + 1, t, h => by
    have h' : st[n]? = some none := by simpa using h
    have := unb_set st n t h'
    cases x <;> simp only [List.set_cons_succ, unb] <;> omega
theorem unb_le : ∀ st : Known, unb st ≤ st.length
  | [] => Nat.le_refl _
  | none :: st => by have := unb_le st; simp only [unb, List.length_cons]; omega
  | some _ :: st => by have := unb_le st; simp only [unb, List.length_cons]; omega
open Classical in
theorem Good.set {N : Nat} {st : Known} (h : Good N st) {n : Nat} {t : T} (hn : st[n]? = some none) (ht : okU N t) (hw : wT t ≤ 1048576) (ho : ¬ OccP st n t) : Good N (st.set n (some t)) := by
  have hnl : n < st.length := (List.getElem?_eq_some_iff.1 hn).1
  refine ⟨by rw [List.length_set]; exact h.len, fun u hu => ?_, fun u hu => ?_, ?_⟩
  · rcases List.mem_or_eq_of_mem_set hu with hu | hu
    · exact h.ok u hu
    · rw [Option.some.injEq] at hu
      rw [hu]; exact ht
  · rcases List.mem_or_eq_of_mem_set hu with hu | hu
    · exact h.w u hu
    · rw [Option.some.injEq] at hu
      rw [hu]; exact hw
  · obtain ⟨r, hr⟩ := h.rk
    have hM : ∀ l : List Nat, ∃ M, ∀ m ∈ l, r m ≤ M := by
      intro l
      induction l with
      | nil => exact ⟨0, by simp⟩
      | cons x l ih =>
        obtain ⟨M, hM⟩ := ih
        refine ⟨M + r x, fun m hm => ?_⟩
        rcases List.mem_cons.1 hm with rfl | hm
        · omega
        · have := hM m hm; omega
    obtain ⟨M, hM⟩ := hM (vT t)
    refine ⟨fun m => if Rch st m n then r m + M + 1 else r m, fun k u hku m hm => ?_⟩
    by_cases hkn : n = k
    · subst hkn
      rw [List.getElem?_set_self hnl, Option.some.injEq, Option.some.injEq] at hku
      subst hku
      have h1 : ¬ Rch st m n := fun e => ho ⟨m, hm, e⟩
      have h2 := hM m hm
      simp only [if_neg h1, if_pos (Rch.refl (st := st) n)]
      omega
    · rw [List.getElem?_set_ne hkn] at hku
      have h1 := hr k u hku m hm
      by_cases hmn : Rch st m n
      · have h2 : Rch st k n := .step hku hm hmn
        simp only [if_pos hmn, if_pos h2]
        omega
      · simp only [if_neg hmn]
        split <;> omega
/- unification -/
inductive Job where
  | one (a b : T)
  | list (xs ys : List T)
inductive Uni : Known → Job → Bool → Known → Prop
  | same {st : Known} {a b a' b' : T} : WalkR st a a' → WalkR st b b' → a'.kind = 1 → b'.kind = 1 → a'.n = b'.n → Uni st (.one a b) true st
  | bindA {st : Known} {a b a' b' : T} : WalkR st a a' → WalkR st b b' → a'.kind = 1 → ¬ (b'.kind = 1 ∧ a'.n = b'.n) → ¬ OccP st a'.n.toNat b' → Uni st (.one a b) true (st.set a'.n.toNat (some b'))
  | occA {st : Known} {a b a' b' : T} : WalkR st a a' → WalkR st b b' → a'.kind = 1 → ¬ (b'.kind = 1 ∧ a'.n = b'.n) → OccP st a'.n.toNat b' → Uni st (.one a b) false st
  | bindB {st : Known} {a b a' b' : T} : WalkR st a a' → WalkR st b b' → a'.kind ≠ 1 → b'.kind = 1 → ¬ OccP st b'.n.toNat a' → Uni st (.one a b) true (st.set b'.n.toNat (some a'))
  | occB {st : Known} {a b a' b' : T} : WalkR st a a' → WalkR st b b' → a'.kind ≠ 1 → b'.kind = 1 → OccP st b'.n.toNat a' → Uni st (.one a b) false st
  | clash {st : Known} {a b a' b' : T} : WalkR st a a' → WalkR st b b' → a'.kind ≠ 1 → b'.kind ≠ 1 → hdEq a' b' = false → Uni st (.one a b) false st
  | kids {st st' : Known} {a b a' b' : T} {r : Bool} : WalkR st a a' → WalkR st b b' → a'.kind ≠ 1 → b'.kind ≠ 1 → hdEq a' b' = true → Uni st (.list a'.kids b'.kids) r st' → Uni st (.one a b) r st'
  | nil {st : Known} : Uni st (.list [] []) true st
  | stop {st st' : Known} {a b : T} {xs ys : List T} : Uni st (.one a b) false st' → Uni st (.list (a :: xs) (b :: ys)) false st'
  | go {st st1 st' : Known} {a b : T} {xs ys : List T} {r : Bool} : Uni st (.one a b) true st1 → Uni st1 (.list xs ys) r st' → Uni st (.list (a :: xs) (b :: ys)) r st'
def okJ (N : Nat) : Job → Prop
  | .one a b => (okU N a ∧ wT a ≤ 1048576) ∧ (okU N b ∧ wT b ≤ 1048576)
  | .list xs ys => (∀ a ∈ xs, okU N a ∧ wT a ≤ 1048576) ∧ (∀ b ∈ ys, okU N b ∧ wT b ≤ 1048576) ∧ xs.length = ys.length
theorem kids_ok {N : Nat} {t : T} (h : okU N t ∧ wT t ≤ 1048576) : ∀ x ∈ t.kids, okU N x ∧ wT x ≤ 1048576 := by
  intro x hx
  refine ⟨okUL_mem h.1.kids x hx, ?_⟩
  have h1 := wL_mem hx
  have h2 := h.2
  cases t
  rw [wT] at h2
  simp only [T.kids] at h1
  omega
theorem hdEq_len {a b : T} (h : hdEq a b = true) : a.kids.length = b.kids.length := by
  rw [hdEq] at h
  simp only [Bool.and_eq_true, decide_eq_true_eq] at h
  exact h.2.2.2
theorem free_var {N : Nat} {st : Known} (h : Good N st) {a : T} (hk : a.kind = 1) (hl : look st a = none) (ho : okU N a) : st[a.n.toNat]? = some none := by
  obtain ⟨h0, h1, _⟩ := ho.var hk
  rcases look_none.1 hl hk with e | e
  · have := List.getElem?_eq_none_iff.1 e
    have := h.len
    omega
  · exact e
theorem Uni.good {N : Nat} {st st' : Known} {j : Job} {r : Bool} (hu : Uni st j r st') : Good N st → okJ N j → Good N st' ∧ (st' = st ∨ unb st' < unb st) := by
  induction hu with
  | same => exact fun h _ => ⟨h, .inl rfl⟩
  | occA => exact fun h _ => ⟨h, .inl rfl⟩
  | occB => exact fun h _ => ⟨h, .inl rfl⟩
  | clash => exact fun h _ => ⟨h, .inl rfl⟩
  | nil => exact fun h _ => ⟨h, .inl rfl⟩
  | bindA ha hb hk hns ho =>
    rename_i a' b'
    intro h hj
    have h1 := walk_ok h ha hj.1
    have h2 := walk_ok h hb hj.2
    have hf := free_var h hk (walk_none ha) h1.1
    have := unb_set _ _ b' hf
    exact ⟨h.set hf h2.1 h2.2 ho, .inr (by omega)⟩
  | bindB ha hb hns hk ho =>
    rename_i a' b'
    intro h hj
    have h1 := walk_ok h ha hj.1
    have h2 := walk_ok h hb hj.2
    have hf := free_var h hk (walk_none hb) h2.1
    have := unb_set _ _ a' hf
    exact ⟨h.set hf h1.1 h1.2 ho, .inr (by omega)⟩
  | kids ha hb _ _ hd _ ih =>
    intro h hj
    exact ih h ⟨kids_ok (walk_ok h ha hj.1), kids_ok (walk_ok h hb hj.2), hdEq_len hd⟩
  | stop _ ih =>
    intro h hj
    exact ih h ⟨hj.1 _ (List.mem_cons_self ..), hj.2.1 _ (List.mem_cons_self ..)⟩
  | go _ _ ih1 ih2 =>
    intro h hj
    obtain ⟨h1, h2⟩ := ih1 h ⟨hj.1 _ (List.mem_cons_self ..), hj.2.1 _ (List.mem_cons_self ..)⟩
    obtain ⟨h3, h4⟩ := ih2 h1 ⟨fun a ha => hj.1 a (List.mem_cons_of_mem _ ha), fun b hb => hj.2.1 b (List.mem_cons_of_mem _ hb), by have := hj.2.2; simpa using this⟩
    refine ⟨h3, ?_⟩
    rcases h2 with rfl | h2
    · exact h4
    · rcases h4 with rfl | h4
      · exact .inr h2
      · exact .inr (by omega)
open Classical in
theorem uni_ex {N : Nat} : ∀ (U : Nat) (st : Known), Good N st → unb st ≤ U → ∀ j, okJ N j → ∃ r st', Uni st j r st' := by
  intro U
  induction U using Nat.strongRecOn with
  | _ U ihU =>
    intro st hg hU
    -- lists of terms of which each is known to have an answer
    have hlist : ∀ (xs ys : List T), okJ N (.list xs ys) → (∀ a ∈ xs, ∀ b, okJ N (.one a b) → ∃ r st', Uni st (.one a b) r st') → ∃ r st', Uni st (.list xs ys) r st' := by
      intro xs
      induction xs with
      | nil =>
        intro ys hj _
        have : ys = [] := List.eq_nil_of_length_eq_zero hj.2.2.symm
        subst this
        exact ⟨true, st, .nil⟩
      | cons a xs ih =>
        intro ys hj hP
        cases ys with
        | nil => have := hj.2.2; simp at this
        | cons b ys =>
          have hjab : okJ N (.one a b) := ⟨hj.1 _ (List.mem_cons_self ..), hj.2.1 _ (List.mem_cons_self ..)⟩
          have hjl : okJ N (.list xs ys) := ⟨fun a ha => hj.1 a (List.mem_cons_of_mem _ ha), fun b hb => hj.2.1 b (List.mem_cons_of_mem _ hb), by have := hj.2.2; simpa using this⟩
          obtain ⟨r, st1, h1⟩ := hP a (List.mem_cons_self ..) b hjab
          cases r with
          | false => exact ⟨false, st1, .stop h1⟩
          | true =>
            obtain ⟨hg1, hu1⟩ := h1.good hg hjab
            rcases hu1 with rfl | hu1
            · obtain ⟨r, st2, h2⟩ := ih ys hjl fun a ha => hP a (List.mem_cons_of_mem _ ha)
              exact ⟨r, st2, .go h1 h2⟩
            · obtain ⟨r, st2, h2⟩ := ihU (unb st1) (by omega) st1 hg1 (Nat.le_refl _) _ hjl
              exact ⟨r, st2, .go h1 h2⟩
    obtain ⟨rk, hrk⟩ := hg.rk
    have hone : ∀ (m : Nat) (a : T), (∀ x ∈ vT a, ∀ u, st[x]? = some (some u) → rk x < m) → ∀ b, okJ N (.one a b) → ∃ r st', Uni st (.one a b) r st' := by
      intro m
      induction m using Nat.strongRecOn with
      | _ m ihm =>
        refine T.ind fun k n s ks ih hr b hj => ?_
        obtain ⟨b', hb⟩ := walk_ex hg b
        have hbo := walk_ok hg hb hj.2
        cases hl : look st (.mk k n s ks) with
        | some u =>
          obtain ⟨hk, hs⟩ := look_some.1 hl
          have hlt := hr _ (by rw [vT_var hk]; exact List.mem_singleton.2 rfl) u hs
          have hju : okJ N (.one u b) := ⟨hg.look_ok hl, hj.2⟩
          obtain ⟨r, st', hu⟩ := ihm _ hlt u (fun x hx _ _ => hrk _ _ hs x hx) b hju
          refine ⟨r, st', ?_⟩
          cases hu with
          | same h1 h2 h3 h4 h5 => exact .same (.step hl h1) h2 h3 h4 h5
          | bindA h1 h2 h3 h4 h5 => exact .bindA (.step hl h1) h2 h3 h4 h5
          | occA h1 h2 h3 h4 h5 => exact .occA (.step hl h1) h2 h3 h4 h5
          | bindB h1 h2 h3 h4 h5 => exact .bindB (.step hl h1) h2 h3 h4 h5
          | occB h1 h2 h3 h4 h5 => exact .occB (.step hl h1) h2 h3 h4 h5
          | clash h1 h2 h3 h4 h5 => exact .clash (.step hl h1) h2 h3 h4 h5
          | kids h1 h2 h3 h4 h5 h6 => exact .kids (.step hl h1) h2 h3 h4 h5 h6
        | none =>
          have ha : WalkR st (.mk k n s ks) (.mk k n s ks) := .stop hl
          by_cases hk : (T.mk k n s ks).kind = 1
          · by_cases hsame : b'.kind = 1 ∧ (T.mk k n s ks).n = b'.n
            · exact ⟨_, _, .same ha hb hk hsame.1 hsame.2⟩
            · by_cases ho : OccP st (T.mk k n s ks).n.toNat b'
              · exact ⟨_, _, .occA ha hb hk hsame ho⟩
              · exact ⟨_, _, .bindA ha hb hk hsame ho⟩
          · by_cases hkb : b'.kind = 1
            · by_cases ho : OccP st b'.n.toNat (T.mk k n s ks)
              · exact ⟨_, _, .occB ha hb hk hkb ho⟩
              · exact ⟨_, _, .bindB ha hb hk hkb ho⟩
            · cases hd : hdEq (T.mk k n s ks) b' with
              | false => exact ⟨_, _, .clash ha hb hk hkb hd⟩
              | true =>
                obtain ⟨r, st', hu⟩ := hlist ks b'.kids ⟨kids_ok hj.1, kids_ok hbo, hdEq_len hd⟩ fun a ha' b2 hj2 =>
                  ih a ha' (fun x hx u hs => hr x (by rw [vT_kids hk]; exact vTL_mem.2 ⟨a, ha', hx⟩) u hs) b2 hj2
                exact ⟨r, st', .kids ha hb hk hkb hd hu⟩
    have hall : ∀ a b, okJ N (.one a b) → ∃ r st', Uni st (.one a b) r st' := by
      intro a b hj
      have hM : ∀ l : List Nat, ∃ M, ∀ m ∈ l, rk m < M := by
        intro l
        induction l with
        | nil => exact ⟨0, by simp⟩
        | cons x l ih =>
          obtain ⟨M, hM⟩ := ih
          refine ⟨M + rk x + 1, fun m hm => ?_⟩
          rcases List.mem_cons.1 hm with rfl | hm
          · omega
          · have := hM m hm; omega
      obtain ⟨M, hM⟩ := hM (vT a)
      exact hone M a (fun x hx _ _ => hM x hx) b hj
    intro j hj
    cases j with
    | one a b => exact hall a b hj
    | list xs ys => exact hlist xs ys hj fun a _ b hjb => hall a b hjb
/- resolved terms -/
inductive RJob where
  | one (t u : T)
  | list (ts us : List T)
inductive Res (st : Known) : RJob → Prop
  | one {t v : T} {us : List T} : WalkR st t v → Res st (.list v.kids us) → Res st (.one t (.mk v.kind v.n v.name us))
  | nil : Res st (.list [] [])
  | cons {t u : T} {ts us : List T} : Res st (.one t u) → Res st (.list ts us) → Res st (.list (t :: ts) (u :: us))
theorem res_ex {N : Nat} {st : Known} (h : Good N st) (t : T) (ho : okU N t) : ∃ u, Res st (.one t u) := by
  obtain ⟨rk, hrk⟩ := h.rk
  have hlist : ∀ ts : List T, (∀ t ∈ ts, ∃ u, Res st (.one t u)) → ∃ us, Res st (.list ts us) := by
    intro ts
    induction ts with
    | nil => exact fun _ => ⟨[], .nil⟩
    | cons t ts ih =>
      intro hP
      obtain ⟨u, hu⟩ := hP t (List.mem_cons_self ..)
      obtain ⟨us, hus⟩ := ih fun x hx => hP x (List.mem_cons_of_mem _ hx)
      exact ⟨u :: us, .cons hu hus⟩
  have hone : ∀ (m : Nat) (a : T), (∀ x ∈ vT a, ∀ u, st[x]? = some (some u) → rk x < m) → (okU N a) → ∃ u, Res st (.one a u) := by
    intro m
    induction m using Nat.strongRecOn with
    | _ m ihm =>
      refine T.ind fun k n s ks ih hr ho => ?_
      cases hl : look st (.mk k n s ks) with
      | some u =>
        obtain ⟨hk, hs⟩ := look_some.1 hl
        have hlt := hr _ (by rw [vT_var hk]; exact List.mem_singleton.2 rfl) u hs
        obtain ⟨u', hu⟩ := ihm _ hlt u (fun x hx _ _ => hrk _ _ hs x hx) (h.look_ok hl).1
        refine ⟨u', ?_⟩
        cases hu with
        | one h1 h2 => exact .one (.step hl h1) h2
      | none =>
        by_cases hk : (T.mk k n s ks).kind = 1
        · have := (ho.var hk).2.2.2
          have e : ks = [] := this
          subst e
          exact ⟨_, .one (.stop hl) .nil⟩
        · obtain ⟨us, hus⟩ := hlist ks fun a ha => ih a ha (fun x hx u hs => hr x (by rw [vT_kids hk]; exact vTL_mem.2 ⟨a, ha, hx⟩) u hs) (okUL_mem ho.kids a ha)
          exact ⟨_, .one (.stop hl) hus⟩
  have hM : ∀ l : List Nat, ∃ M, ∀ m ∈ l, rk m < M := by
    intro l
    induction l with
    | nil => exact ⟨0, by simp⟩
    | cons x l ih =>
      obtain ⟨M, hM⟩ := ih
      refine ⟨M + rk x + 1, fun m hm => ?_⟩
      rcases List.mem_cons.1 hm with rfl | hm
      · omega
      · have := hM m hm; omega
  obtain ⟨M, hM⟩ := hM (vT t)
  exact hone M t (fun x hx _ _ => hM x hx) ho

end Go.Proofs.Ytaaihodhhacapaa

/- spec: walks, occurrence, unification. -/
namespace Go.Proofs.Ytaaihodhhacapaa
open Go Go.RowKit
/- bindings as a row of terms -/
def KnU (S : Store) (c : Array Value) (st : Known) : Prop := st.length * 4 ≤ c.size ∧ ∀ i (h : i < st.length), (st[i] = none → cellsAt c (i * 4) 4 = noCells) ∧ (∀ t, st[i] = some t → RdT S (cellsAt c (i * 4) 4) t)
abbrev kvU (kb N kp : Nat) : Value := .slice (some ⟨kb, 0, none⟩) N kp
theorem KnU.set {S : Store} {c : Array Value} {st : Known} (h : KnU S c st) {n : Nat} (hn : n < st.length) {cs : List Value} {u : T} (hu : RdT S cs u) : KnU S (putCells c (n * 4) cs) (st.set n (some u)) := by
  have hlc := hu.length
  have h1 := h.1
  have hs : st.length * 4 ≤ (putCells c (n * 4) cs).size := by rw [putCells_size _ _ _ (by omega)]; exact h1
  refine ⟨by rw [List.length_set]; exact hs, fun i hi => ?_⟩
  rw [List.length_set] at hi
  by_cases e : n = i
  · subst e
    rw [List.getElem_set_self]
    refine ⟨fun h => (by cases h), fun t ht => ?_⟩
    simp only [Option.some.injEq] at ht
    subst ht
    have := cellsAt_put_self (c := c) (o := n * 4) (vs := cs) (by omega)
    rw [hlc] at this
    rw [this]
    exact hu
  · rw [List.getElem_set_ne e, cellsAt_put_ne (by omega) (by omega)]
    exact h.2 i hi
theorem KnU.mono {S S' : Store} {c : Array Value} {st : Known} (h : KnU S c st) (hs : Sle S S') : KnU S' c st := ⟨h.1, fun i hi => ⟨(h.2 i hi).1, fun t ht => ((h.2 i hi).2 t ht).mono hs⟩⟩
def rankW (b : Nat) (r : Nat → Nat) (st : Known) (w : World) : Nat :=
  match w.heap[b]? with
  | some (Obj.cells c _ _) => (match c[0]?, c[1]? with
    | some (Value.int _ k), some (Value.int _ n) => if (look st (.mk k n emptyB [])).isSome = true then r n.toNat + 1 else 0
    | _, _ => 0)
  | _ => 0
theorem rankW_eq {w0 w : World} {X : List Nat} {L : List Item} {S S0 : Store} {cs : List Value} {t : T} {E : TypeId} {b i : Nat} (hI : Inv w0 X L S w) (hi : L[i]? = some (.blk b (.cells cs.toArray E))) (h : RdT S0 cs t) (r : Nat → Nat) (st : Known) :
    rankW b r st w = if (look st t).isSome = true then r t.n.toNat + 1 else 0 := by
  obtain ⟨kv, rfl, _⟩ := RdT.iff.1 h
  have hb : w.heap[b]? = _ := hI.its _ (List.mem_of_getElem? hi)
  unfold rankW
  rw [hb]
  obtain ⟨k, n, s, ks⟩ := t
  rfl
section
attribute [local irreducible] Run CondV GuardV LoadV
theorem l3Walk_calls {N : Nat} {st : Known} (hg : Good N st) {t v : T} (hw : WalkR st t v) (ht : okU N t) {S : Store} {cs : List Value} {kb kp : Nat} {kc : Array Value} (h : RdT S cs t) (hk : KnU S kc st) :
    Tri Try.prog n_s_l3Walk [.agg cs.toArray, kvU kb N kp] [.blk kb (.cells kc t_iTerm)] S fun r I' S' => S' = S ∧ I' = [.blk kb (.cells kc t_iTerm)] ∧ ∃ cs', r = .agg cs'.toArray ∧ RdT S cs' v := by
  intro w hI
  obtain ⟨X, hX⟩ : ∃ X, X = feet [Item.blk kb (.cells kc t_iTerm)] := ⟨_, rfl⟩
  rw [← hX] at hI ⊢
  have hlN := hg.len
  obtain ⟨r, hr⟩ := hg.rk
  refine calls_s_l3Walk ?_
  unfold sh_s_l3Walk
  refine r_box hI fun b2 w' hI => ?_
  refine r_alloc hI zo_iTerm fun b4 w' hI => ?_
  have hI : Inv w X [.blk kb (.cells kc t_iTerm), .blk b2 (.cells cs.toArray t_iTerm), .blk b4 (.cells #[.int .i64 0, .int .i64 0, .string ⟨#[]⟩, .slice none 0 0] t_iTerm)] S w' := hI
  refine ⟨fun w' => ∃ (t' : T) (cs' : List Value), WalkR st t' v ∧ okU N t' ∧ RdT S cs' t' ∧ Inv w X [.blk kb (.cells kc t_iTerm), .blk b2 (.cells cs'.toArray t_iTerm), .blk b4 (.cells #[.int .i64 0, .int .i64 0, .string ⟨#[]⟩, .slice none 0 0] t_iTerm)] S w',
    fun w' => rankW b2 r st w', ⟨t, cs, hw, ht, h, hI⟩, ?_⟩
  intro _ _ _ _ _ _ _ _ _ _ _ _ _ _ _ _ _ _ _ _ _ _ _ _ w'
  rintro ⟨t', cs', hw', ht', hcs', hI⟩
  have hrank := rankW_eq hI (i := 1) rfl hcs' r st
  have hcs0 := hcs'
  obtain ⟨kv, rfl, _⟩ := RdT.iff.1 hcs'
  refine ⟨fun q w' => q = .bool (look st t').isSome ∧ Inv w X [.blk kb (.cells kc t_iTerm), .blk b2 (.cells #[.int .i64 t'.kind, .int .i64 t'.n, .string t'.name, kv] t_iTerm), .blk b4 (.cells #[.int .i64 0, .int .i64 0, .string ⟨#[]⟩, .slice none 0 0] t_iTerm)] S w', ?_, ?_⟩
  · refine r_fieldL hI 1 rfl fo_iTerm_0 sc_int rfl ?_
    refine r_eql ?_
    by_cases hk1 : t'.kind = 1
    · rw [decide_eq_true hk1]
      obtain ⟨hn0, hnN, _⟩ := ht'.var hk1
      obtain ⟨j, hj⟩ : ∃ j : Nat, t'.n = j := ⟨t'.n.toNat, by omega⟩
      have hjN : j < N := by omega
      have hjs : j < st.length := by omega
      repeat (first | refine guard_true ?_ | refine guard_ne (by decide) ?_ | refine guard_undef ?_ | refine r_pickT ?_ | refine r_pickF ?_)
      refine r_fieldL hI 1 rfl fo_iTerm_1 sc_int rfl ?_
      refine r_len sl_SiTerm ?_
      refine r_lss ?_
      rw [decide_eq_true hnN]
      repeat (first | refine guard_true ?_ | refine guard_ne (by decide) ?_ | refine guard_undef ?_ | refine r_pickT ?_ | refine r_pickF ?_)
      refine r_fieldL hI 1 rfl fo_iTerm_1 sc_int rfl ?_
      rw [hj]
      refine r_indexAddr sl_SiTerm hjN ?_
      refine r_field fo_iTerm_0 ?_
      rw [Nat.zero_add, Nat.add_zero]
      obtain ⟨hno, hso⟩ := hk.2 j hjs
      rw [hj] at hI
      have hlk : look st t' = st[j] := by
        rw [look, if_pos hk1, hj, Int.toNat_natCast, List.getElem?_eq_getElem hjs]; rfl
      rw [hlk]
      cases hst2 : st[j] with
      | none =>
        have hcell := hno hst2
        refine r_loadL hI 0 sc_int rfl (by have := cellsAt_get hcell 0 _ rfl; exact this) ?_
        refine r_neq ?_
        repeat (first | refine guard_true ?_ | refine guard_ne (by decide) ?_ | refine guard_undef ?_ | refine r_pickT ?_ | refine r_pickF ?_)
        refine ⟨by simp, hI⟩
      | some t0 =>
        have hR := hso t0 hst2
        have hk0 : t0.kind ≠ 0 := (hg.ok t0 (by rw [← hst2]; exact List.getElem_mem hjs)).kind
        obtain ⟨kv0', hcell, _, _, _, _⟩ := RdT.iff.1 hR
        refine r_loadL hI 0 sc_int rfl (by have := cellsAt_get hcell 0 _ rfl; exact this) ?_
        refine r_neq ?_
        rw [decide_eq_false hk0]
        repeat (first | refine guard_true ?_ | refine guard_ne (by decide) ?_ | refine guard_undef ?_ | refine r_pickT ?_ | refine r_pickF ?_)
        refine ⟨rfl, hI⟩
    · rw [decide_eq_false hk1]
      repeat (first | refine guard_true ?_ | refine guard_ne (by decide) ?_ | refine guard_undef ?_ | refine r_pickT ?_ | refine r_pickF ?_)
      refine ⟨?_, hI⟩
      rw [look, if_neg hk1]; rfl
  intro q _ _ _ _ _ _ _ _ _ _ _ _ _ _ _ _ _ _ w'
  rintro ⟨rfl, hI⟩
  refine condV (fun hb => ?_) (fun hb => ?_)
  · obtain ⟨u, hl⟩ := Option.isSome_iff_exists.1 hb
    obtain ⟨hk1, hs⟩ := look_some.1 hl
    obtain ⟨hn0, hnN, _⟩ := ht'.var hk1
    obtain ⟨j, hj⟩ : ∃ j : Nat, t'.n = j := ⟨t'.n.toNat, by omega⟩
    have hjN : j < N := by omega
    have hjs : j < st.length := by omega
    rw [hj, Int.toNat_natCast] at hs
    have hst2 : st[j] = some u := by rw [List.getElem?_eq_getElem hjs, Option.some.injEq] at hs; exact hs
    have hR := (hk.2 j hjs).2 u hst2
    have hwu : WalkR st u v := by
      cases hw' with
      | stop h0 => rw [hl] at h0; cases h0
      | step h1 h2 => rw [hl, Option.some.injEq] at h1; rw [h1]; exact h2
    have hu := (hg.look_ok hl).1
    refine r_fieldL hI 1 rfl fo_iTerm_1 sc_int rfl ?_
    rw [hj]
    refine r_indexAddr sl_SiTerm hjN ?_
    rw [Nat.zero_add]
    refine r_loadLA hI 0 (cellsAt kc (j * 4) 4) ag_iTerm rfl hR.length (fun i v hi => cellsAt_get rfl i v hi) ?_
    refine r_storeW hI 1 rfl ag_iTerm (by simpa using hR.length) rfl (by simpa using hR.one) fun w' hI => ?_
    have hI : Inv w X [.blk kb (.cells kc t_iTerm), .blk b2 (.cells (cellsAt kc (j * 4) 4).toArray t_iTerm), .blk b4 (.cells #[.int .i64 0, .int .i64 0, .string ⟨#[]⟩, .slice none 0 0] t_iTerm)] S w' := hI
    refine ⟨⟨u, _, hwu, hu, hR, hI⟩, ?_⟩
    have hrank2 := rankW_eq hI (i := 1) rfl hR r st
    show rankW b2 r st w' < rankW b2 r st _
    rw [hrank, hrank2, if_pos hb, hj, Int.toNat_natCast]
    split
    · rename_i hl2
      obtain ⟨u2, hl2⟩ := Option.isSome_iff_exists.1 hl2
      have := hr j u hs u.n.toNat (by rw [vT_var (look_some.1 hl2).1]; exact List.mem_singleton.2 rfl)
      omega
    · omega
  · have hv : v = t' := by
      cases hw' with
      | stop _ => rfl
      | step h1 _ => rw [h1] at hb; cases hb
    subst hv
    refine r_loadW hI 1 ag_iTerm rfl rfl ?_
    refine r_storeW hI 2 rfl ag_iTerm rfl rfl (by simpa using hcs0.one) fun w' hI => ?_
    refine loadV_W hI 2 ag_iTerm rfl rfl ?_
    exact ⟨_, _, _, rfl, hI.pick [true, false, false], Ext.refl _ _ _, rfl, rfl, _, rfl, hcs0⟩
end
/- the variables of a term in a list of numbers -/
theorem addI_mem' (l : List Int) (n x : Int) : x ∈ addI l n ↔ x ∈ l ∨ x = n := by
  unfold addI
  split
  · rename_i h
    rw [hasI_mem] at h
    constructor
    · exact .inl
    · rintro (h1 | rfl)
      · exact h1
      · exact h
  · simp
mutual
theorem svarsT_mem {N : Nat} : ∀ (t : T) (l : List Int), okU N t → ∀ x, x ∈ svarsT t l ↔ x ∈ l ∨ ∃ m ∈ vT t, x = (m : Int)
  | .mk k n s ks, l, h, x => by
    rw [okU] at h
    rw [svarsT, vT]
    by_cases hk : k = 1
    · rw [if_pos hk, if_pos hk, addI_mem']
      have := (h.2.1 hk).1
      constructor
      · rintro (h1 | h1)
        · exact .inl h1
        · exact .inr ⟨n.toNat, List.mem_singleton.2 rfl, by omega⟩
      · rintro (h1 | ⟨m, hm, e⟩)
        · exact .inl h1
        · rw [List.mem_singleton] at hm
          exact .inr (by omega)
    · rw [if_neg hk, if_neg hk]
      exact svarsL_mem ks l h.2.2.1 x
theorem svarsL_mem {N : Nat} : ∀ (ts : List T) (l : List Int), okUL N ts → ∀ x, x ∈ svarsL ts l ↔ x ∈ l ∨ ∃ m ∈ vTL ts, x = (m : Int)
  | [], l, _, x => by simp [svarsL, vTL]
  | t :: ts, l, h, x => by
    rw [okUL] at h
    rw [svarsL, vTL, svarsL_mem ts _ h.2, svarsT_mem t l h.1]
    simp only [List.mem_append]
    constructor
    · rintro ((h | ⟨m, h, e⟩) | ⟨m, h, e⟩)
      · exact .inl h
      · exact .inr ⟨m, .inl h, e⟩
      · exact .inr ⟨m, .inr h, e⟩
    · rintro (h | ⟨m, h | h, e⟩)
      · exact .inl (.inl h)
      · exact .inl (.inr ⟨m, h, e⟩)
      · exact .inr ⟨m, h, e⟩
end
mutual
theorem svarsT_nd : ∀ (t : T) (l : List Int), l.Nodup → (svarsT t l).Nodup
  | .mk k n s ks, l, h => by
    rw [svarsT]
    split
    · exact addI_nodup n h
    · exact svarsL_nd ks l h
theorem svarsL_nd : ∀ (ts : List T) (l : List Int), l.Nodup → (svarsL ts l).Nodup
  | [], l, h => by rw [svarsL]; exact h
  | t :: ts, l, h => by rw [svarsL]; exact svarsL_nd ts _ (svarsT_nd t l h)
end
theorem addI_pre (l : List Int) (n : Int) : l <+: addI l n := by
  unfold addI
  split
  · exact List.prefix_refl _
  · exact List.prefix_append _ _
mutual
theorem svarsT_pre : ∀ (t : T) (l : List Int), l <+: svarsT t l
  | .mk k n s ks, l => by
    rw [svarsT]
    split
    · exact addI_pre l n
    · exact svarsL_pre ks l
theorem svarsL_pre : ∀ (ts : List T) (l : List Int), l <+: svarsL ts l
  | [], l => by rw [svarsL]; exact List.prefix_refl _
  | t :: ts, l => by
    rw [svarsL]
    exact (svarsT_pre t l).trans (svarsL_pre ts _)
end
theorem cntT_wT' (t : T) : cntT t ≤ 1 + (wT t : Int) := by
  have := cnt_wL [t]
  simp only [cntL, wL, List.length_cons, List.length_nil] at this
  omega
theorem rng_len : ∀ (N : Nat) (l : List Int), l.Nodup → (∀ x ∈ l, 0 ≤ x ∧ x < N) → l.length ≤ N := by
  intro N l hd h
  have hsub : ∀ x ∈ l, x ∈ (List.range N).map (fun i : Nat => (i : Int)) := fun x hx => by
    obtain ⟨h1, h2⟩ := h x hx
    exact List.mem_map.2 ⟨x.toNat, List.mem_range.2 (by omega), by omega⟩
  have := List.Nodup.length_le_of_subset hd hsub
  simpa using this
section
attribute [local irreducible] Run CondV GuardV LoadV
open Classical in
theorem l3Within_calls {N : Nat} (hN : N ≤ 1000000) {st : Known} (hg : Good N st) {t : T} (ht : okU N t) (hwt : wT t ≤ 1048576) (n : Int) (hn0 : 0 ≤ n) {S : Store} {cs : List Value} {kb kp : Nat} {kc : Array Value} (h : RdT S cs t) (hk : KnU S kc st) :
    Tri Try.prog n_s_l3Within [.int .i64 n, .agg cs.toArray, kvU kb N kp] [.blk kb (.cells kc t_iTerm)] S fun r I' S' => S' = S ∧ I' = [.blk kb (.cells kc t_iTerm)] ∧ r = .bool (decide (OccP st n.toNat t)) := by
  intro w hI
  obtain ⟨X, hX⟩ : ∃ X, X = feet [Item.blk kb (.cells kc t_iTerm)] := ⟨_, rfl⟩
  rw [← hX] at hI ⊢
  have hlN := hg.len
  have hlc := h.length
  have hct := cntT_wT' t
  refine calls_s_l3Within ?_
  unfold sh_s_l3Within
  refine r_box hI fun b4 w' hI => ?_
  have hI : Inv w X [.blk kb (.cells kc t_iTerm), .blk b4 (.cells cs.toArray t_iTerm)] S w' := hI
  refine r_loadW hI 1 ag_iTerm rfl (by simpa using hlc) ?_
  have hI : Inv w X [.blk kb (.cells kc t_iTerm)] S w' := hI.pick [true, false]
  have hI := hI.rowNil t_int 1
  refine Run.call (A := [_]) fn_s_l1Vars nm_s_l1Vars hI (l1Vars_calls t S cs (.slice none 0 0) [] h (by simp only [List.length_nil]; omega)) fun v' I' S' w' => ?_
  rintro ⟨rfl, eS⟩ _ hI
  rw [eS] at hI
  clear eS
  refine ⟨fun i t7 w' => ∃ (j : Nat) (ws : List Int), i = .int .i64 j ∧ j ≤ ws.length ∧ ws.Nodup ∧ (∀ x ∈ ws, 0 ≤ x ∧ x < N) ∧ (∀ x ∈ ws, ∃ m ∈ vT t, Rch st m x.toNat) ∧ (∀ m ∈ vT t, (m : Int) ∈ ws) ∧
      (∀ k (hk : k < ws.length), k < j → ws[k] ≠ n ∧ ∀ u, st[ws[k].toNat]? = some (some u) → ∀ m ∈ vT u, (m : Int) ∈ ws) ∧ Inv w X [.blk kb (.cells kc t_iTerm), rowI t7 ws] S w',
    fun i _ _ => N - (intOf i).toNat, ⟨0, _, rfl, Nat.zero_le _, svarsT_nd t [] List.nodup_nil, fun x hx => ?_, fun x hx => ?_, fun m hm => ?_, fun k _ hk0 => absurd hk0 (by omega), hI⟩, ?_⟩
  · rcases (svarsT_mem t [] ht x).1 hx with hx | ⟨m, hm, rfl⟩
    · cases hx
    · have := vT_lt t ht m hm
      omega
  · rcases (svarsT_mem t [] ht x).1 hx with hx | ⟨m, hm, rfl⟩
    · cases hx
    · exact ⟨m, hm, by rw [Int.toNat_natCast]; exact .refl m⟩
  · exact (svarsT_mem t [] ht _).2 (.inr ⟨m, hm, rfl⟩)
  intro t8 _ _ t7 _ _ _ _ _ _ _ _ _ _ _ _ _ _ _ _ _ _ _ _ _ _ _ _ _ _ _ _ _ _ _ _ _ _ _ _ _ _ w'
  rintro ⟨j, ws, rfl, hj, hnd, hrng, hreach, hroot, hdone, hI⟩
  have hwl := rng_len N ws hnd hrng
  obtain ⟨S1, hle, hrd, hI1, hback⟩ := Inv.lend (A := [_]) hI
  have hrd := hrd.ints
  refine r_lenSl hrd sl_Sint ?_
  refine r_lss ?_
  refine condP (fun hji => ?_) (fun hji => ?_)
  · have hj' : j < ws.length := by omega
    obtain ⟨hx0, hxN⟩ := hrng _ (List.getElem_mem hj')
    obtain ⟨x, hx⟩ : ∃ x : Nat, ws[j] = x := ⟨ws[j].toNat, by omega⟩
    have hxs : x < st.length := by omega
    refine ⟨fun t7' w' => ∃ ws' : List Int, ws'.Nodup ∧ (∀ x ∈ ws', 0 ≤ x ∧ x < N) ∧ (∀ x ∈ ws', ∃ m ∈ vT t, Rch st m x.toNat) ∧ (∀ y ∈ ws, y ∈ ws') ∧ ws <+: ws' ∧
      ws[j] ≠ n ∧ (∀ u, st[x]? = some (some u) → ∀ m ∈ vT u, (m : Int) ∈ ws') ∧ Inv w X [.blk kb (.cells kc t_iTerm), rowI t7' ws'] S w', ?_, ?_⟩
    · refine r_elem1 hI1 hrd sl_Sint sc_int hj' (fun cs hcs => hcs) ?_
      refine r_eql ?_
      refine condP (fun he => ?_) (fun he => ?_)
      · have hocc : OccP st n.toNat t := by
          obtain ⟨m, hm, hr⟩ := hreach _ (List.getElem_mem hj')
          rw [he] at hr
          exact ⟨m, hm, hr⟩
        have hI := hback _ _ hI1
        refine ⟨_, _, _, rfl, hI.pick [true, false], Ext.refl _ _ _, rfl, rfl, ?_⟩
        rw [decide_eq_true hocc]
      · refine ⟨fun q w' => q = .bool (decide (∃ u, st[x]? = some (some u))) ∧ Inv w X [.blk kb (.cells kc t_iTerm)] S1 w', ?_, ?_⟩
        · refine r_elem1 hI1 hrd sl_Sint sc_int hj' (fun cs hcs => hcs) ?_
          refine r_len sl_SiTerm ?_
          refine r_lss ?_
          rw [decide_eq_true hxN]
          repeat (first | refine guard_true ?_ | refine guard_ne (by decide) ?_ | refine guard_undef ?_ | refine r_pickT ?_ | refine r_pickF ?_)
          refine r_elem1 hI1 hrd sl_Sint sc_int hj' (fun cs hcs => hcs) ?_
          rw [hx]
          refine r_indexAddr sl_SiTerm (by omega) ?_
          refine r_field fo_iTerm_0 ?_
          rw [Nat.zero_add, Nat.add_zero]
          obtain ⟨hno, hso⟩ := hk.2 x hxs
          cases hst2 : st[x] with
          | none =>
            have hcell := hno hst2
            refine r_loadL hI1 0 sc_int rfl (by have := cellsAt_get hcell 0 _ rfl; exact this) ?_
            refine r_neq ?_
            repeat (first | refine guard_true ?_ | refine guard_ne (by decide) ?_ | refine guard_undef ?_ | refine r_pickT ?_ | refine r_pickF ?_)
            refine ⟨?_, hI1⟩
            rw [decide_eq_false (show ¬ ∃ u, st[x]? = some (some u) from fun ⟨u, hu⟩ => by rw [List.getElem?_eq_getElem hxs, hst2] at hu; cases hu)]
            simp
          | some t0 =>
            have hR := hso t0 hst2
            have hk0 : t0.kind ≠ 0 := (hg.ok t0 (by rw [← hst2]; exact List.getElem_mem hxs)).kind
            obtain ⟨kv0', hcell, _, _, _, _⟩ := RdT.iff.1 hR
            refine r_loadL hI1 0 sc_int rfl (by have := cellsAt_get hcell 0 _ rfl; exact this) ?_
            refine r_neq ?_
            rw [decide_eq_false hk0]
            repeat (first | refine guard_true ?_ | refine guard_ne (by decide) ?_ | refine guard_undef ?_ | refine r_pickT ?_ | refine r_pickF ?_)
            refine ⟨?_, hI1⟩
            rw [decide_eq_true (show ∃ u, st[x]? = some (some u) from ⟨t0, by rw [List.getElem?_eq_getElem hxs, hst2]⟩)]
            rfl
        intro q _ _ _ _ _ _ _ _ _ _ _ _ _ _ _ _ _ w'
        rintro ⟨rfl, hI1⟩
        refine condP (fun hq => ?_) (fun hq => ?_)
        · obtain ⟨u, hu⟩ := hq
          have hst2 : st[x] = some u := by rw [List.getElem?_eq_getElem hxs, Option.some.injEq] at hu; exact hu
          have hR := (hk.2 x hxs).2 u hst2
          have hum := List.mem_of_getElem? hu
          have hou := hg.ok u hum
          have hwu := hg.w u hum
          have hcu := cntT_wT' u
          refine r_elem1 hI1 hrd sl_Sint sc_int hj' (fun cs hcs => hcs) ?_
          rw [hx]
          refine r_indexAddr sl_SiTerm (by omega) ?_
          rw [Nat.zero_add]
          refine r_loadLA hI1 0 (cellsAt kc (x * 4) 4) ag_iTerm rfl hR.length (fun i v hi => cellsAt_get rfl i v hi) ?_
          have hI := hback _ _ hI1
          refine Run.call (A := [_]) fn_s_l1Vars nm_s_l1Vars hI (l1Vars_calls u S _ t7 ws hR (by omega)) fun v' I' S' w' => ?_
          rintro ⟨rfl, eS⟩ _ hI
          rw [eS] at hI
          clear eS
          have hmem := svarsT_mem u ws hou
          refine ⟨_, svarsT_nd u ws hnd, fun y hy => ?_, fun y hy => ?_, fun y hy => (hmem y).2 (.inl hy), svarsT_pre u ws, by rw [← hx]; exact he, fun u' hu' m hm => ?_, hI⟩
          · rcases (hmem y).1 hy with hy | ⟨m, hm, rfl⟩
            · exact hrng y hy
            · have := vT_lt u hou m hm
              omega
          · rcases (hmem y).1 hy with hy | ⟨m, hm, rfl⟩
            · exact hreach y hy
            · obtain ⟨m0, hm0, hr0⟩ := hreach _ (List.getElem_mem hj')
              rw [hx, Int.toNat_natCast] at hr0
              exact ⟨m0, hm0, hr0.trans (.step hu hm (by rw [Int.toNat_natCast]; exact .refl m))⟩
          · rw [hu, Option.some.injEq, Option.some.injEq] at hu'
            subst hu'
            exact (hmem _).2 (.inr ⟨m, hm, rfl⟩)
        · have hI := hback _ _ hI1
          exact ⟨ws, hnd, hrng, hreach, fun y hy => hy, List.prefix_refl _, he, fun u hu => absurd ⟨u, hu⟩ hq, hI⟩
    intro t7' _ _ _ _ _ _ _ _ _ _ _ _ _ _ _ _ _ _ _ _ _ _ _ _ _ _ _ _ _ _ _ _ _ _ w'
    rintro ⟨ws', hnd', hrng', hreach', hsub, hpf, hne, hcl, hI⟩
    have hl' := hpf.length_le
    have hpre : ∀ k (hk : k < ws.length), ws'[k]'(by omega) = ws[k] := fun k hk => (hpf.getElem hk).symm
    refine r_add (by omega) ?_
    refine ⟨⟨j + 1, ws', rfl, by omega, hnd', hrng', hreach', fun m hm => hsub _ (hroot m hm), fun k hk' hkj => ?_, hI⟩, by simp [intOf]; omega⟩
    by_cases e : k = j
    · subst e
      have e1 := hpre k hj'
      rw [e1]
      refine ⟨hne, fun u hu => ?_⟩
      rw [hx, Int.toNat_natCast] at hu
      exact hcl u hu
    · have hkl : k < ws.length := by omega
      rw [hpre k hkl]
      obtain ⟨h1, h2⟩ := hdone k hkl (by omega)
      exact ⟨h1, fun u hu m hm => hsub _ (h2 u hu m hm)⟩
  · have hj2 : j = ws.length := by omega
    have hno : ¬ OccP st n.toNat t := by
      rintro ⟨m, hm, hr⟩
      have key : ∀ a c, Rch st a c → (a : Int) ∈ ws → (c : Int) ∈ ws := by
        intro a c hac
        induction hac with
        | refl => exact id
        | step h1 h2 _ ih =>
          intro ha
          obtain ⟨k, hk, e⟩ := List.mem_iff_getElem.1 ha
          refine ih ((hdone k hk (by omega)).2 _ ?_ _ h2)
          rw [e, Int.toNat_natCast]
          exact h1
      have h1 := key m _ hr (hroot m hm)
      obtain ⟨k, hk, e⟩ := List.mem_iff_getElem.1 h1
      exact (hdone k hk (by omega)).1 (by rw [e]; omega)
    have hI := hback _ _ hI1
    refine ⟨_, _, _, rfl, hI.pick [true, false], Ext.refl _ _ _, rfl, rfl, ?_⟩
    rw [decide_eq_false hno]
end

end Go.Proofs.Ytaaihodhhacapaa

/- spec.l3Unify. -/
namespace Go.Proofs.Ytaaihodhhacapaa
open Go Go.RowKit
/- the calls of a loop over two lists -/
inductive Chain (Call : Known → T → T → Bool → Known → Prop) : Known → List T → List T → Bool → Known → Prop
  | nil {st : Known} : Chain Call st [] [] true st
  | stop {st st' : Known} {a b : T} {xs ys : List T} : Call st a b false st' → Chain Call st (a :: xs) (b :: ys) false st'
  | go {st st1 st' : Known} {a b : T} {xs ys : List T} {r : Bool} : Call st a b true st1 → Chain Call st1 xs ys r st' → Chain Call st (a :: xs) (b :: ys) r st'
theorem Chain.head {Call : Known → T → T → Bool → Known → Prop} {st st' : Known} {a b : T} {xs ys : List T} {r : Bool} (h : Chain Call st (a :: xs) (b :: ys) r st') :
    ∃ r1 st1, Call st a b r1 st1 ∧ (r1 = false → r = false ∧ st' = st1) ∧ (r1 = true → Chain Call st1 xs ys r st') := by
  cases h with
  | stop h => exact ⟨false, _, h, fun _ => ⟨rfl, rfl⟩, fun e => (by cases e)⟩
  | go h h' => exact ⟨true, _, h, fun e => (by cases e), fun _ => h'⟩
theorem Chain.done {Call : Known → T → T → Bool → Known → Prop} {st st' : Known} {r : Bool} (h : Chain Call st [] [] r st') : r = true ∧ st' = st := by
  cases h
  exact ⟨rfl, rfl⟩
/- how a unification of walked terms ends -/
def Ends (Call : Known → T → T → Bool → Known → Prop) (st : Known) (a' b' : T) (r : Bool) (st' : Known) : Prop :=
  (a'.kind = 1 ∧ b'.kind = 1 ∧ a'.n = b'.n ∧ r = true ∧ st' = st) ∨
  (a'.kind = 1 ∧ ¬ (b'.kind = 1 ∧ a'.n = b'.n) ∧ ((¬ OccP st a'.n.toNat b' ∧ r = true ∧ st' = st.set a'.n.toNat (some b')) ∨ (OccP st a'.n.toNat b' ∧ r = false ∧ st' = st))) ∨
  (a'.kind ≠ 1 ∧ b'.kind = 1 ∧ ((¬ OccP st b'.n.toNat a' ∧ r = true ∧ st' = st.set b'.n.toNat (some a')) ∨ (OccP st b'.n.toNat a' ∧ r = false ∧ st' = st))) ∨
  (a'.kind ≠ 1 ∧ b'.kind ≠ 1 ∧ ((hdEq a' b' = false ∧ r = false ∧ st' = st) ∨ (hdEq a' b' = true ∧ Chain Call st a'.kids b'.kids r st')))
theorem Uni.calls {N : Nat} {Call : Known → T → T → Bool → Known → Prop} (hcall : ∀ st a b a' b' r st', Good N st → okJ N (.one a b) → WalkR st a a' → WalkR st b b' → Ends Call st a' b' r st' → Call st a b r st') {st st' : Known} {j : Job} {r : Bool} (hu : Uni st j r st') :
    Good N st → okJ N j → match j with
      | .one a b => Call st a b r st'
      | .list xs ys => Chain Call st xs ys r st' := by
  induction hu with
  | same h1 h2 h3 h4 h5 => exact fun hg hj => hcall _ _ _ _ _ _ _ hg hj h1 h2 (.inl ⟨h3, h4, h5, rfl, rfl⟩)
  | bindA h1 h2 h3 h4 h5 => exact fun hg hj => hcall _ _ _ _ _ _ _ hg hj h1 h2 (.inr (.inl ⟨h3, h4, .inl ⟨h5, rfl, rfl⟩⟩))
  | occA h1 h2 h3 h4 h5 => exact fun hg hj => hcall _ _ _ _ _ _ _ hg hj h1 h2 (.inr (.inl ⟨h3, h4, .inr ⟨h5, rfl, rfl⟩⟩))
  | bindB h1 h2 h3 h4 h5 => exact fun hg hj => hcall _ _ _ _ _ _ _ hg hj h1 h2 (.inr (.inr (.inl ⟨h3, h4, .inl ⟨h5, rfl, rfl⟩⟩)))
  | occB h1 h2 h3 h4 h5 => exact fun hg hj => hcall _ _ _ _ _ _ _ hg hj h1 h2 (.inr (.inr (.inl ⟨h3, h4, .inr ⟨h5, rfl, rfl⟩⟩)))
  | clash h1 h2 h3 h4 h5 => exact fun hg hj => hcall _ _ _ _ _ _ _ hg hj h1 h2 (.inr (.inr (.inr ⟨h3, h4, .inl ⟨h5, rfl, rfl⟩⟩)))
  | kids h1 h2 h3 h4 h5 _ ih =>
    exact fun hg hj => hcall _ _ _ _ _ _ _ hg hj h1 h2 (.inr (.inr (.inr ⟨h3, h4, .inr ⟨h5, ih hg ⟨kids_ok (walk_ok hg h1 hj.1), kids_ok (walk_ok hg h2 hj.2), hdEq_len h5⟩⟩⟩)))
  | nil => exact fun _ _ => .nil
  | stop _ ih => exact fun hg hj => .stop (ih hg ⟨hj.1 _ (List.mem_cons_self ..), hj.2.1 _ (List.mem_cons_self ..)⟩)
  | go h1 _ ih1 ih2 =>
    intro hg hj
    have hj1 : okJ N (.one _ _) := ⟨hj.1 _ (List.mem_cons_self ..), hj.2.1 _ (List.mem_cons_self ..)⟩
    exact .go (ih1 hg hj1) (ih2 (h1.good hg hj1).1 ⟨fun a ha => hj.1 a (List.mem_cons_of_mem _ ha), fun b hb => hj.2.1 b (List.mem_cons_of_mem _ hb), by have := hj.2.2; simpa using this⟩)
def UC (N kp : Nat) (st : Known) (a b : T) (r : Bool) (st' : Known) : Prop := ∀ (S : Store) (cs ds : List Value) (kb : Nat) (kc : Array Value), RdT S cs a → RdT S ds b → KnU S kc st →
  Tri Try.prog n_s_l3Unify [.agg cs.toArray, .agg ds.toArray, kvU kb N kp] [.blk kb (.cells kc t_iTerm)] S fun q I' S' => S' = S ∧ q = .bool r ∧ ∃ kc', I' = [.blk kb (.cells kc' t_iTerm)] ∧ KnU S kc' st'
section
attribute [local irreducible] Run CondV GuardV LoadV
set_option maxHeartbeats 1000000 in
/- the case that a nonvariable meets a variable is handed on, so it comes with a contract -/
theorem l3Unify_body {N kp : Nat} (hN : N ≤ 1000000) {st st' : Known} {a b a' b' : T} {r : Bool} (hg : Good N st) (hj : okJ N (.one a b)) (hwa : WalkR st a a') (hwb : WalkR st b b')
    (hsw : a'.kind ≠ 1 → b'.kind = 1 → UC N kp st b' a' r st') (he : Ends (UC N kp) st a' b' r st') : UC N kp st a b r st' := by
  intro S cs ds kb kc h h' hkc w hI
  have hlc := h.length
  have hld := h'.length
  have hoa := walk_ok hg hwa hj.1
  have hob := walk_ok hg hwb hj.2
  have hlN := hg.len
  obtain ⟨X, hX⟩ : ∃ X, X = feet [Item.blk kb (.cells kc t_iTerm)] := ⟨_, rfl⟩
  rw [← hX] at hI ⊢
  refine calls_s_l3Unify ?_
  unfold sh_s_l3Unify
  refine r_box hI fun b1 w' hI => ?_
  refine r_box hI fun b2 w' hI => ?_
  have hI : Inv w X ([.blk b1 (.cells cs.toArray t_iTerm), .blk b2 (.cells ds.toArray t_iTerm)] ++ [.blk kb (.cells kc t_iTerm)]) S w' := hI.perm (List.perm_append_comm (l₁ := [_, _]) (l₂ := [_]))
  refine r_loadW hI 0 ag_iTerm rfl (by simpa using hlc) ?_
  refine Run.call fn_s_l3Walk nm_s_l3Walk hI (l3Walk_calls hg hwa hj.1.1 h hkc) fun v' I' S' w' => ?_
  rintro ⟨eS, rfl, cs', rfl, hcs'⟩ _ hI
  rw [eS] at hI
  clear eS
  refine r_storeW hI 0 rfl ag_iTerm (by simpa using hcs'.length) (by simpa using hlc) (by simpa using hcs'.one) fun w' hI => ?_
  have hI : Inv w X ([.blk b1 (.cells cs'.toArray t_iTerm), .blk b2 (.cells ds.toArray t_iTerm)] ++ [.blk kb (.cells kc t_iTerm)]) S w' := hI
  refine r_loadW hI 1 ag_iTerm rfl (by simpa using hld) ?_
  refine Run.call fn_s_l3Walk nm_s_l3Walk hI (l3Walk_calls hg hwb hj.2.1 h' hkc) fun v' I' S' w' => ?_
  rintro ⟨eS, rfl, ds', rfl, hds'⟩ _ hI
  rw [eS] at hI
  clear eS
  refine r_storeW hI 1 rfl ag_iTerm (by simpa using hds'.length) (by simpa using hld) (by simpa using hds'.one) fun w' hI => ?_
  have hI : Inv w X [.blk b1 (.cells cs'.toArray t_iTerm), .blk b2 (.cells ds'.toArray t_iTerm), .blk kb (.cells kc t_iTerm)] S w' := hI
  have hcs := hcs'
  have hds := hds'
  obtain ⟨kv, rfl, _, _, _, hks⟩ := RdT.iff.1 hcs'
  obtain ⟨kv', rfl, _, _, _, hks'⟩ := RdT.iff.1 hds'
  obtain ⟨k, n, s, ks⟩ := a'
  obtain ⟨k', n', s', ks'⟩ := b'
  unfold Ends at he
  simp only [T.name, T.kids, T.kind, T.n] at hks hks' hI he hsw ⊢
  have hlen := hks.le
  simp only [maxLen] at hlen
  refine ⟨fun q w' => q = .bool (decide (k = 1 ∧ k' = 1 ∧ n = n')) ∧ Inv w X [.blk b1 (.cells #[.int .i64 k, .int .i64 n, .string s, kv] t_iTerm), .blk b2 (.cells #[.int .i64 k', .int .i64 n', .string s', kv'] t_iTerm), .blk kb (.cells kc t_iTerm)] S w', ?_, ?_⟩
  · refine r_fieldL hI 0 rfl fo_iTerm_0 sc_int rfl ?_
    refine r_eql ?_
    by_cases e1 : k = 1
    · rw [decide_eq_true e1]
      repeat (first | refine guard_true ?_ | refine guard_ne (by decide) ?_ | refine guard_undef ?_ | refine r_pickT ?_ | refine r_pickF ?_)
      refine r_fieldL hI 1 rfl fo_iTerm_0 sc_int rfl ?_
      refine r_eql ?_
      by_cases e2 : k' = 1
      · rw [decide_eq_true e2]
        repeat (first | refine guard_true ?_ | refine guard_ne (by decide) ?_ | refine guard_undef ?_ | refine r_pickT ?_ | refine r_pickF ?_)
        refine r_fieldL hI 0 rfl fo_iTerm_1 sc_int rfl ?_
        refine r_fieldL hI 1 rfl fo_iTerm_1 sc_int rfl ?_
        refine r_eql ?_
        repeat (first | refine guard_true ?_ | refine guard_ne (by decide) ?_ | refine guard_undef ?_ | refine r_pickT ?_ | refine r_pickF ?_)
        exact ⟨by simp [e1, e2], hI⟩
      · rw [decide_eq_false e2]
        repeat (first | refine guard_true ?_ | refine guard_ne (by decide) ?_ | refine guard_undef ?_ | refine r_pickT ?_ | refine r_pickF ?_)
        exact ⟨by simp [e2], hI⟩
    · rw [decide_eq_false e1]
      repeat (first | refine guard_true ?_ | refine guard_ne (by decide) ?_ | refine guard_undef ?_ | refine r_pickT ?_ | refine r_pickF ?_)
      exact ⟨by simp [e1], hI⟩
  intro q _ _ _ _ _ _ _ _ _ _ _ _ _ _ w'
  rintro ⟨rfl, hI⟩
  refine condP (fun hsame => ?_) (fun hsame => ?_)
  · have : r = true ∧ st' = st := by
      rcases he with ⟨_, _, _, h1, h2⟩ | ⟨_, h1, _⟩ | ⟨h1, _, _⟩ | ⟨h1, _, _⟩
      · exact ⟨h1, h2⟩
      · exact absurd hsame.2 h1
      · exact absurd hsame.1 h1
      · exact absurd hsame.1 h1
    obtain ⟨rfl, rfl⟩ := this
    exact ⟨_, _, _, rfl, hI.pick [false, false, true], Ext.refl _ _ _, rfl, rfl, _, rfl, hkc⟩
  refine r_fieldL hI 0 rfl fo_iTerm_0 sc_int rfl ?_
  refine r_eql ?_
  refine condP (fun hk1 => ?_) (fun hk1 => ?_)
  · have hend : (¬ OccP st n.toNat (.mk k' n' s' ks') ∧ r = true ∧ st' = st.set n.toNat (some (.mk k' n' s' ks'))) ∨ (OccP st n.toNat (.mk k' n' s' ks') ∧ r = false ∧ st' = st) := by
      rcases he with ⟨h1, h2, h3, _⟩ | ⟨_, _, h1⟩ | ⟨h1, _, _⟩ | ⟨h1, _, _⟩
      · exact absurd ⟨h1, h2, h3⟩ hsame
      · exact h1
      · exact absurd hk1 h1
      · exact absurd hk1 h1
    obtain ⟨hn0, hnN, _⟩ := hoa.1.var hk1
    simp only [T.n] at hn0 hnN
    obtain ⟨j, rfl⟩ : ∃ j : Nat, n = j := ⟨n.toNat, by omega⟩
    refine r_fieldL hI 0 rfl fo_iTerm_1 sc_int rfl ?_
    refine r_loadW hI 1 ag_iTerm rfl rfl ?_
    refine Run.call (A := [_, _]) fn_s_l3Within nm_s_l3Within hI (l3Within_calls hN hg hob.1 hob.2 j (by omega) hds hkc) fun v' I' S' w' => ?_
    rintro ⟨eS, rfl, rfl⟩ _ hI
    rw [eS] at hI
    clear eS
    have hI : Inv w X [.blk b1 (.cells #[.int .i64 k, .int .i64 j, .string s, kv] t_iTerm), .blk b2 (.cells #[.int .i64 k', .int .i64 n', .string s', kv'] t_iTerm), .blk kb (.cells kc t_iTerm)] S w' := hI
    refine condV (fun hb => ?_) (fun hb => ?_)
    · have hocc : OccP st (Int.toNat j) (.mk k' n' s' ks') := @of_decide_eq_true _ (Classical.propDecidable _) hb
      have : r = false ∧ st' = st := by
        rcases hend with ⟨h1, _⟩ | ⟨_, h1⟩
        · exact absurd hocc h1
        · exact h1
      obtain ⟨rfl, rfl⟩ := this
      exact ⟨_, _, _, rfl, hI.pick [false, false, true], Ext.refl _ _ _, rfl, rfl, _, rfl, hkc⟩
    · have hocc : ¬ OccP st (Int.toNat j) (.mk k' n' s' ks') := @of_decide_eq_false _ (Classical.propDecidable _) hb
      have : r = true ∧ st' = st.set (Int.toNat j) (some (.mk k' n' s' ks')) := by
        rcases hend with ⟨_, h1⟩ | ⟨h1, _⟩
        · exact h1
        · exact absurd h1 hocc
      obtain ⟨rfl, rfl⟩ := this
      rw [Int.toNat_natCast]
      refine r_fieldL hI 0 rfl fo_iTerm_1 sc_int rfl ?_
      refine r_loadW hI 1 ag_iTerm rfl rfl ?_
      refine r_indexAddr sl_SiTerm (by omega) ?_
      rw [Nat.zero_add]
      refine r_storeB hI 2 rfl ag_iTerm rfl (by have := hkc.1; exact Nat.ble_eq_true_of_le (by omega)) hds.one fun w' hI => ?_
      exact ⟨_, _, _, rfl, hI.pick [false, false, true], Ext.refl _ _ _, rfl, rfl, _, rfl, hkc.set (by omega) hds⟩
  refine r_fieldL hI 1 rfl fo_iTerm_0 sc_int rfl ?_
  refine r_eql ?_
  refine condP (fun hk2 => ?_) (fun hk2 => ?_)
  · refine r_loadW hI 1 ag_iTerm rfl rfl ?_
    refine r_loadW hI 0 ag_iTerm rfl rfl ?_
    refine Run.call (A := [_, _]) fn_s_l3Unify nm_s_l3Unify hI (hsw hk1 hk2 S _ _ kb kc hds hcs hkc) fun v' I' S' w' => ?_
    rintro ⟨eS, rfl, kc', rfl, hkc'⟩ _ hI
    rw [eS] at hI
    clear eS
    exact ⟨_, _, _, rfl, hI.pick [false, false, true], Ext.refl _ _ _, rfl, rfl, _, rfl, hkc'⟩
  have hend : (hdEq (.mk k n s ks) (.mk k' n' s' ks') = false ∧ r = false ∧ st' = st) ∨ (hdEq (.mk k n s ks) (.mk k' n' s' ks') = true ∧ Chain (UC N kp) st ks ks' r st') := by
    rcases he with ⟨h1, _⟩ | ⟨h1, _, _⟩ | ⟨_, h1, _⟩ | ⟨_, _, h1⟩
    · exact absurd h1 hk1
    · exact absurd h1 hk1
    · exact absurd h1 hk2
    · exact h1
  refine ⟨fun q w' => q = .bool (!hdEq (.mk k n s ks) (.mk k' n' s' ks')) ∧ Inv w X [.blk b1 (.cells #[.int .i64 k, .int .i64 n, .string s, kv] t_iTerm), .blk b2 (.cells #[.int .i64 k', .int .i64 n', .string s', kv'] t_iTerm), .blk kb (.cells kc t_iTerm)] S w', ?_, ?_⟩
  · refine r_fieldL hI 0 rfl fo_iTerm_0 sc_int rfl ?_
    refine r_fieldL hI 1 rfl fo_iTerm_0 sc_int rfl ?_
    refine r_neq ?_
    by_cases e1 : k = k'
    · rw [decide_eq_true e1]
      repeat (first | refine guard_true ?_ | refine guard_ne (by decide) ?_ | refine guard_undef ?_ | refine r_pickT ?_ | refine r_pickF ?_)
      refine r_fieldL hI 0 rfl fo_iTerm_1 sc_int rfl ?_
      refine r_fieldL hI 1 rfl fo_iTerm_1 sc_int rfl ?_
      refine r_neq ?_
      by_cases e2 : n = n'
      · rw [decide_eq_true e2]
        repeat (first | refine guard_true ?_ | refine guard_ne (by decide) ?_ | refine guard_undef ?_ | refine r_pickT ?_ | refine r_pickF ?_)
        refine r_fieldL hI 0 rfl fo_iTerm_2 sc_string rfl ?_
        refine r_fieldL hI 1 rfl fo_iTerm_2 sc_string rfl ?_
        refine r_sneq ?_
        by_cases e3 : s = s'
        · rw [decide_eq_true e3]
          repeat (first | refine guard_true ?_ | refine guard_ne (by decide) ?_ | refine guard_undef ?_ | refine r_pickT ?_ | refine r_pickF ?_)
          refine r_fieldL hI 0 rfl fo_iTerm_3 sc_SiTerm rfl ?_
          refine r_lenSl hks sl_SiTerm ?_
          refine r_fieldL hI 1 rfl fo_iTerm_3 sc_SiTerm rfl ?_
          refine r_lenSl hks' sl_SiTerm ?_
          refine r_neq ?_
          repeat (first | refine guard_true ?_ | refine guard_ne (by decide) ?_ | refine guard_undef ?_ | refine r_pickT ?_ | refine r_pickF ?_)
          exact ⟨by rw [hdEq_mk, decide_eq_true e1, decide_eq_true e2, decide_eq_true e3, lenEq]; rfl, hI⟩
        · rw [decide_eq_false e3]
          repeat (first | refine guard_true ?_ | refine guard_ne (by decide) ?_ | refine guard_undef ?_ | refine r_pickT ?_ | refine r_pickF ?_)
          exact ⟨by rw [hdEq_mk, decide_eq_true e1, decide_eq_true e2, decide_eq_false e3]; rfl, hI⟩
      · rw [decide_eq_false e2]
        repeat (first | refine guard_true ?_ | refine guard_ne (by decide) ?_ | refine guard_undef ?_ | refine r_pickT ?_ | refine r_pickF ?_)
        exact ⟨by rw [hdEq_mk, decide_eq_true e1, decide_eq_false e2]; rfl, hI⟩
    · rw [decide_eq_false e1]
      repeat (first | refine guard_true ?_ | refine guard_ne (by decide) ?_ | refine guard_undef ?_ | refine r_pickT ?_ | refine r_pickF ?_)
      exact ⟨by rw [hdEq_mk, decide_eq_false e1]; rfl, hI⟩
  intro q _ _ _ _ _ _ _ _ _ _ _ _ _ _ _ _ _ _ _ _ _ _ _ _ _ _ _ w'
  rintro ⟨rfl, hI⟩
  cases hd : hdEq (.mk k n s ks) (.mk k' n' s' ks')
  · refine condV (fun _ => ?_) (fun hb => by cases hb)
    have : r = false ∧ st' = st := by
      rcases hend with ⟨_, h1⟩ | ⟨h1, _⟩
      · exact h1
      · rw [hd] at h1; cases h1
    obtain ⟨rfl, rfl⟩ := this
    exact ⟨_, _, _, rfl, hI.pick [false, false, true], Ext.refl _ _ _, rfl, rfl, _, rfl, hkc⟩
  refine condV (fun hb => by cases hb) (fun _ => ?_)
  have hle : ks.length = ks'.length := hdEq_len hd
  have hch : Chain (UC N kp) st ks ks' r st' := by
    rcases hend with ⟨h1, _⟩ | ⟨_, h1⟩
    · rw [hd] at h1; cases h1
    · exact h1
  refine ⟨fun i w' => ∃ (j : Nat) (st1 : Known) (kc1 : Array Value), j ≤ ks.length ∧ i = .int .i64 j ∧ Chain (UC N kp) st1 (ks.drop j) (ks'.drop j) r st' ∧ KnU S kc1 st1 ∧ Inv w X [.blk b1 (.cells #[.int .i64 k, .int .i64 n, .string s, kv] t_iTerm), .blk b2 (.cells #[.int .i64 k', .int .i64 n', .string s', kv'] t_iTerm), .blk kb (.cells kc1 t_iTerm)] S w', fun i _ => ks.length - (intOf i).toNat, ⟨0, st, kc, Nat.zero_le _, rfl, hch, hkc, hI⟩, ?_⟩
  intro t7 _ _ _ t96 t95 t94 t93 t92 t91 t90 t89 t88 t87 t86 t85 t84 _ _ _ _ _ w'
  rintro ⟨j, st1, kc1, hj, rfl, hrel, hkc1, hI⟩
  refine r_fieldL hI 0 rfl fo_iTerm_3 sc_SiTerm rfl ?_
  refine r_lenSl hks sl_SiTerm ?_
  refine r_lss ?_
  refine condP (fun hji => ?_) (fun hji => ?_)
  · have hj1 : j < ks.length := by omega
    have hj2 : j < ks'.length := by omega
    obtain ⟨c1, o1, cap1, a1, E1, fz1, rfl, hS1, hR1⟩ := hks.at_ hj1
    obtain ⟨c2, o2, cap2, a2, E2, fz2, rfl, hS2, hR2⟩ := hks'.at_ hj2
    rw [List.drop_eq_getElem_cons hj1, List.drop_eq_getElem_cons hj2] at hrel
    obtain ⟨r1, st2, hcall, hno, hyes⟩ := hrel.head
    have hcall := hcall S _ _ kb kc1 hR1 hR2 hkc1
    refine ⟨fun D x96 x95 x94 x93 x92 x91 x90 x89 x88 x87 x86 x85 x84 w_ => (D 0 = true → x84 = .pointer (some ⟨b1, 3, none⟩)) ∧ (D 1 = true → x85 = .slice (some ⟨c1, o1, none⟩) ks.length cap1) ∧ (D 2 = true → x86 = .int .i64 j) ∧ (D 3 = true → x87 = .pointer (some ⟨c1, o1 + j * 4, none⟩)) ∧ (D 4 = true → x88 = .agg (cellsAt a1 (o1 + j * 4) 4).toArray) ∧ (D 5 = true → x89 = .pointer (some ⟨b2, 3, none⟩)) ∧ (D 6 = true → x90 = .slice (some ⟨c2, o2, none⟩) ks'.length cap2) ∧ (D 7 = true → x91 = .int .i64 j) ∧ (D 8 = true → x92 = .pointer (some ⟨c2, o2 + j * 4, none⟩)) ∧ (D 9 = true → x93 = .agg (cellsAt a2 (o2 + j * 4) 4).toArray) ∧ (D 10 = true → x94 = kvU kb N kp) ∧ (D 11 = true → x95 = .bool r1) ∧ (D 12 = true → x96 = .bool (!r1)) ∧ (D 11 = false → Inv w X [.blk b1 (.cells #[.int .i64 k, .int .i64 n, .string s, .slice (some ⟨c1, o1, none⟩) ks.length cap1] t_iTerm), .blk b2 (.cells #[.int .i64 k', .int .i64 n', .string s', .slice (some ⟨c2, o2, none⟩) ks'.length cap2] t_iTerm), .blk kb (.cells kc1 t_iTerm)] S w_) ∧ (D 11 = true → ∃ kc2, KnU S kc2 st2 ∧ Inv w X [.blk b1 (.cells #[.int .i64 k, .int .i64 n, .string s, .slice (some ⟨c1, o1, none⟩) ks.length cap1] t_iTerm), .blk b2 (.cells #[.int .i64 k', .int .i64 n', .string s', .slice (some ⟨c2, o2, none⟩) ks'.length cap2] t_iTerm), .blk kb (.cells kc2 t_iTerm)] S w_) ∧ ∃ kc3, Inv w X [.blk b1 (.cells #[.int .i64 k, .int .i64 n, .string s, .slice (some ⟨c1, o1, none⟩) ks.length cap1] t_iTerm), .blk b2 (.cells #[.int .i64 k', .int .i64 n', .string s', .slice (some ⟨c2, o2, none⟩) ks'.length cap2] t_iTerm), .blk kb (.cells kc3 t_iTerm)] S w_, ⟨fun h => Bool.noConfusion h, fun h => Bool.noConfusion h, fun h => Bool.noConfusion h, fun h => Bool.noConfusion h, fun h => Bool.noConfusion h, fun h => Bool.noConfusion h, fun h => Bool.noConfusion h, fun h => Bool.noConfusion h, fun h => Bool.noConfusion h, fun h => Bool.noConfusion h, fun h => Bool.noConfusion h, fun h => Bool.noConfusion h, fun h => Bool.noConfusion h, ⟨fun _ => hI.draw, fun h => Bool.noConfusion h, kc1, hI.draw⟩⟩, ⟨?_, ?_, ?_, ?_, ?_, ?_, ?_, ?_, ?_, ?_, ?_, ?_, ?_, trivial⟩, ?_⟩
    · intro D hD_  x96 x95 x94 x93 x92 x91 x90 x89 x88 x87 x86 x85 x84 w_
      rintro ⟨h0_, h1_, h2_, h3_, h4_, h5_, h6_, h7_, h8_, h9_, h10_, h11_, h12_, ⟨hI0, hI1, kc3, hI⟩⟩
      refine r_field fo_iTerm_3 ?_
      exact ⟨fun _ => rfl, h1_, h2_, h3_, h4_, h5_, h6_, h7_, h8_, h9_, h10_, h11_, h12_, ⟨hI0, hI1, kc3, hI⟩⟩
    · intro D hD_ d0_0 x96 x95 x94 x93 x92 x91 x90 x89 x88 x87 x86 x85 x84 w_
      rintro ⟨h0_, h1_, h2_, h3_, h4_, h5_, h6_, h7_, h8_, h9_, h10_, h11_, h12_, ⟨hI0, hI1, kc3, hI⟩⟩
      obtain rfl := h0_ d0_0
      refine r_loadL hI 0 sc_SiTerm rfl rfl ?_
      exact ⟨h0_, fun _ => rfl, h2_, h3_, h4_, h5_, h6_, h7_, h8_, h9_, h10_, h11_, h12_, ⟨hI0, hI1, kc3, hI⟩⟩
    · intro D hD_  x96 x95 x94 x93 x92 x91 x90 x89 x88 x87 x86 x85 x84 w_
      rintro ⟨h0_, h1_, h2_, h3_, h4_, h5_, h6_, h7_, h8_, h9_, h10_, h11_, h12_, ⟨hI0, hI1, kc3, hI⟩⟩
      exact ⟨h0_, h1_, fun _ => rfl, h3_, h4_, h5_, h6_, h7_, h8_, h9_, h10_, h11_, h12_, ⟨hI0, hI1, kc3, hI⟩⟩
    · intro D hD_ d1_0 d2_1 x96 x95 x94 x93 x92 x91 x90 x89 x88 x87 x86 x85 x84 w_
      rintro ⟨h0_, h1_, h2_, h3_, h4_, h5_, h6_, h7_, h8_, h9_, h10_, h11_, h12_, ⟨hI0, hI1, kc3, hI⟩⟩
      obtain rfl := h1_ d1_0
      obtain rfl := h2_ d2_1
      refine r_indexAddr sl_SiTerm hj1 ?_
      exact ⟨h0_, h1_, h2_, fun _ => rfl, h4_, h5_, h6_, h7_, h8_, h9_, h10_, h11_, h12_, ⟨hI0, hI1, kc3, hI⟩⟩
    · intro D hD_ d3_0 x96 x95 x94 x93 x92 x91 x90 x89 x88 x87 x86 x85 x84 w_
      rintro ⟨h0_, h1_, h2_, h3_, h4_, h5_, h6_, h7_, h8_, h9_, h10_, h11_, h12_, ⟨hI0, hI1, kc3, hI⟩⟩
      obtain rfl := h3_ d3_0
      refine r_loadA ag_iTerm hR1.length (fun j v hj => by rw [hI.cellS hS1]; exact cellsAt_get rfl j v hj) ?_
      exact ⟨h0_, h1_, h2_, h3_, fun _ => rfl, h5_, h6_, h7_, h8_, h9_, h10_, h11_, h12_, ⟨hI0, hI1, kc3, hI⟩⟩
    · intro D hD_  x96 x95 x94 x93 x92 x91 x90 x89 x88 x87 x86 x85 x84 w_
      rintro ⟨h0_, h1_, h2_, h3_, h4_, h5_, h6_, h7_, h8_, h9_, h10_, h11_, h12_, ⟨hI0, hI1, kc3, hI⟩⟩
      refine r_field fo_iTerm_3 ?_
      exact ⟨h0_, h1_, h2_, h3_, h4_, fun _ => rfl, h6_, h7_, h8_, h9_, h10_, h11_, h12_, ⟨hI0, hI1, kc3, hI⟩⟩
    · intro D hD_ d5_0 x96 x95 x94 x93 x92 x91 x90 x89 x88 x87 x86 x85 x84 w_
      rintro ⟨h0_, h1_, h2_, h3_, h4_, h5_, h6_, h7_, h8_, h9_, h10_, h11_, h12_, ⟨hI0, hI1, kc3, hI⟩⟩
      obtain rfl := h5_ d5_0
      refine r_loadL hI 1 sc_SiTerm rfl rfl ?_
      exact ⟨h0_, h1_, h2_, h3_, h4_, h5_, fun _ => rfl, h7_, h8_, h9_, h10_, h11_, h12_, ⟨hI0, hI1, kc3, hI⟩⟩
    · intro D hD_  x96 x95 x94 x93 x92 x91 x90 x89 x88 x87 x86 x85 x84 w_
      rintro ⟨h0_, h1_, h2_, h3_, h4_, h5_, h6_, h7_, h8_, h9_, h10_, h11_, h12_, ⟨hI0, hI1, kc3, hI⟩⟩
      exact ⟨h0_, h1_, h2_, h3_, h4_, h5_, h6_, fun _ => rfl, h8_, h9_, h10_, h11_, h12_, ⟨hI0, hI1, kc3, hI⟩⟩
    · intro D hD_ d6_0 d7_1 x96 x95 x94 x93 x92 x91 x90 x89 x88 x87 x86 x85 x84 w_
      rintro ⟨h0_, h1_, h2_, h3_, h4_, h5_, h6_, h7_, h8_, h9_, h10_, h11_, h12_, ⟨hI0, hI1, kc3, hI⟩⟩
      obtain rfl := h6_ d6_0
      obtain rfl := h7_ d7_1
      refine r_indexAddr sl_SiTerm hj2 ?_
      exact ⟨h0_, h1_, h2_, h3_, h4_, h5_, h6_, h7_, fun _ => rfl, h9_, h10_, h11_, h12_, ⟨hI0, hI1, kc3, hI⟩⟩
    · intro D hD_ d8_0 x96 x95 x94 x93 x92 x91 x90 x89 x88 x87 x86 x85 x84 w_
      rintro ⟨h0_, h1_, h2_, h3_, h4_, h5_, h6_, h7_, h8_, h9_, h10_, h11_, h12_, ⟨hI0, hI1, kc3, hI⟩⟩
      obtain rfl := h8_ d8_0
      refine r_loadA ag_iTerm hR2.length (fun j v hj => by rw [hI.cellS hS2]; exact cellsAt_get rfl j v hj) ?_
      exact ⟨h0_, h1_, h2_, h3_, h4_, h5_, h6_, h7_, h8_, fun _ => rfl, h10_, h11_, h12_, ⟨hI0, hI1, kc3, hI⟩⟩
    · intro D hD_  x96 x95 x94 x93 x92 x91 x90 x89 x88 x87 x86 x85 x84 w_
      rintro ⟨h0_, h1_, h2_, h3_, h4_, h5_, h6_, h7_, h8_, h9_, h10_, h11_, h12_, ⟨hI0, hI1, kc3, hI⟩⟩
      exact ⟨h0_, h1_, h2_, h3_, h4_, h5_, h6_, h7_, h8_, h9_, fun _ => rfl, h11_, h12_, ⟨hI0, hI1, kc3, hI⟩⟩
    · intro D hD_ d4_0 d9_1 d10_2 x96 x95 x94 x93 x92 x91 x90 x89 x88 x87 x86 x85 x84 w_
      rintro ⟨h0_, h1_, h2_, h3_, h4_, h5_, h6_, h7_, h8_, h9_, h10_, h11_, h12_, ⟨hI0, hI1, kc3, hI⟩⟩
      obtain rfl := h4_ d4_0
      obtain rfl := h9_ d9_1
      obtain rfl := h10_ d10_2
      refine Run.call (A := [_, _]) fn_s_l3Unify nm_s_l3Unify (hI0 hD_) hcall fun v' I' S' w_ => ?_
      rintro ⟨eS, rfl, kc2, rfl, hk2⟩ _ hI
      rw [eS] at hI
      have hI0 := fun (h : setD D 11 11 = false) => (Bool.noConfusion h : Inv w X [.blk b1 (.cells #[.int .i64 k, .int .i64 n, .string s, .slice (some ⟨c1, o1, none⟩) ks.length cap1] t_iTerm), .blk b2 (.cells #[.int .i64 k', .int .i64 n', .string s', .slice (some ⟨c2, o2, none⟩) ks'.length cap2] t_iTerm), .blk kb (.cells kc1 t_iTerm)] S w_)
      have hI1 := fun (_ : setD D 11 11 = true) => (⟨kc2, hk2, hI⟩ : ∃ kc2, KnU S kc2 st2 ∧ Inv w X [.blk b1 (.cells #[.int .i64 k, .int .i64 n, .string s, .slice (some ⟨c1, o1, none⟩) ks.length cap1] t_iTerm), .blk b2 (.cells #[.int .i64 k', .int .i64 n', .string s', .slice (some ⟨c2, o2, none⟩) ks'.length cap2] t_iTerm), .blk kb (.cells kc2 t_iTerm)] S w_)
      obtain ⟨kc3, hI⟩ : ∃ kc3, Inv w X [.blk b1 (.cells #[.int .i64 k, .int .i64 n, .string s, .slice (some ⟨c1, o1, none⟩) ks.length cap1] t_iTerm), .blk b2 (.cells #[.int .i64 k', .int .i64 n', .string s', .slice (some ⟨c2, o2, none⟩) ks'.length cap2] t_iTerm), .blk kb (.cells kc3 t_iTerm)] S w_ := ⟨kc2, hI⟩
      exact ⟨h0_, h1_, h2_, h3_, h4_, h5_, h6_, h7_, h8_, h9_, h10_, fun _ => rfl, h12_, ⟨hI0, hI1, kc3, hI⟩⟩
    · intro D hD_ d11_0 x96 x95 x94 x93 x92 x91 x90 x89 x88 x87 x86 x85 x84 w_
      rintro ⟨h0_, h1_, h2_, h3_, h4_, h5_, h6_, h7_, h8_, h9_, h10_, h11_, h12_, ⟨hI0, hI1, kc3, hI⟩⟩
      obtain rfl := h11_ d11_0
      refine r_not ?_
      exact ⟨h0_, h1_, h2_, h3_, h4_, h5_, h6_, h7_, h8_, h9_, h10_, h11_, fun _ => rfl, ⟨hI0, hI1, kc3, hI⟩⟩
    intro D d12_ d11_ d10_ d9_ d8_ d7_ d6_ d5_ d4_ d3_ d2_ d1_ d0_ x96 x95 x94 x93 x92 x91 x90 x89 x88 x87 x86 x85 x84 w_
    rintro ⟨h0_, h1_, h2_, h3_, h4_, h5_, h6_, h7_, h8_, h9_, h10_, h11_, h12_, ⟨hI0, hI1, kc3, hI⟩⟩
    obtain rfl := h12_ d12_
    obtain rfl := h11_ d11_
    obtain rfl := h10_ d10_
    obtain rfl := h9_ d9_
    obtain rfl := h8_ d8_
    obtain rfl := h7_ d7_
    obtain rfl := h6_ d6_
    obtain rfl := h5_ d5_
    obtain rfl := h4_ d4_
    obtain rfl := h3_ d3_
    obtain rfl := h2_ d2_
    obtain rfl := h1_ d1_
    obtain rfl := h0_ d0_
    clear h0_ h1_ h2_ h3_ h4_ h5_ h6_ h7_ h8_ h9_ h10_ h11_ h12_
    obtain ⟨kc2, hk2, hI⟩ := hI1 d11_
    clear hI0 hI1
    refine condV (fun hne => ?_) (fun he' => ?_)
    · simp only [Bool.not_eq_true'] at hne
      obtain ⟨rfl, rfl⟩ := hno hne
      exact ⟨_, _, _, rfl, hI.pick [false, false, true], Ext.refl _ _ _, rfl, rfl, _, rfl, hk2⟩
    · simp only [Bool.not_eq_false'] at he'
      refine r_add (by omega) ?_
      exact ⟨⟨j + 1, st2, kc2, hj1, rfl, hyes he', hk2, hI⟩, by simp [intOf]; omega⟩
  · have : j = ks.length := by omega
    subst this
    rw [List.drop_length, hle, List.drop_length] at hrel
    obtain ⟨rfl, rfl⟩ := hrel.done
    exact ⟨_, _, _, rfl, hI.pick [false, false, true], Ext.refl _ _ _, rfl, rfl, _, rfl, hkc1⟩
theorem l3Unify_calls {N kp : Nat} (hN : N ≤ 1000000) {st st' : Known} {a b : T} {r : Bool} (hg : Good N st) (hj : okJ N (.one a b)) (hu : Uni st (.one a b) r st') : UC N kp st a b r st' := by
  refine Uni.calls (N := N) (Call := UC N kp) (fun st a b a' b' r st' hg hj hwa hwb he => ?_) hu hg hj
  refine l3Unify_body hN hg hj hwa hwb (fun h1 h2 => ?_) he
  have hoa := walk_ok hg hwa hj.1
  have hob := walk_ok hg hwb hj.2
  have hend : (¬ OccP st b'.n.toNat a' ∧ r = true ∧ st' = st.set b'.n.toNat (some a')) ∨ (OccP st b'.n.toNat a' ∧ r = false ∧ st' = st) := by
    rcases he with ⟨h3, _⟩ | ⟨h3, _, _⟩ | ⟨_, _, h3⟩ | ⟨_, h3, _⟩
    · exact absurd h3 h1
    · exact absurd h3 h1
    · exact h3
    · exact absurd h2 h3
  refine l3Unify_body hN hg ⟨hob, hoa⟩ (.stop (walk_none hwb)) (.stop (walk_none hwa)) (fun h3 _ => absurd h2 h3) (.inr (.inl ⟨h2, fun h3 => h1 h3.1, hend⟩))
end

end Go.Proofs.Ytaaihodhhacapaa

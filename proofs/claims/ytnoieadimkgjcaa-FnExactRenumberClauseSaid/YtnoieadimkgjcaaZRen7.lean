/- SubsumedClause: both sides. -/
import Derived.Test.YtnoieadimkgjcaaZRen6
import Derived.Test.YtnoieadimkgjcaaZRen2
import Derived.Test.YtnoieadimkgjcaaZRen4
namespace Go.Proofs.Ytnoieadimkgjcaa
open Go Go.RowKit

def st0 : Known := List.replicate 26 none
theorem st0_ok : stOk st0 := ⟨by simp [st0], fun t ht => by simp [st0] at ht⟩
theorem KnownM.empty (S : Store) : KnownM S #[] st0 := ⟨by simp, fun n t ht => by
  rw [st0, List.getElem?_replicate] at ht
  split at ht <;> cases ht⟩
def subG (c d : C) : Bool := clauseB c && (clauseB d && decide (d.body.length ≤ c.body.length))
def subB (c d : C) : Bool := subG c d && ((matchT d.head c.head st0).1 && (matchL d.body c.body (matchT d.head c.head st0).2).1)
theorem subB_eq (c d : C) : subB c d = (subG c d && ((matchT d.head c.head st0).1 && (matchL d.body c.body (matchT d.head c.head st0).2).1)) := rfl
theorem okVL_of : ∀ {ts : List T}, (∀ t ∈ ts, okV t) → okVL ts
  | [], _ => by simp [okVL]
  | t :: ts, h => by rw [okVL]; exact ⟨h t (List.mem_cons_self ..), okVL_of fun u hu => h u (List.mem_cons_of_mem _ hu)⟩
theorem okKL_of : ∀ {ts : List T}, (∀ t ∈ ts, okK t) → okKL ts
  | [], _ => by simp [okKL]
  | t :: ts, h => by rw [okKL]; exact ⟨h t (List.mem_cons_self ..), okKL_of fun u hu => h u (List.mem_cons_of_mem _ hu)⟩
theorem clause_ok {c : C} (h : clauseB c = true) : (okV c.head ∧ okK c.head) ∧ okVL c.body ∧ okKL c.body := by
  rw [clauseB] at h
  simp only [Bool.and_eq_true, List.all_eq_true] at h
  obtain ⟨_, h2, h3, _⟩ := h
  have hb : ∀ t ∈ c.body, okV t ∧ okK t := fun t ht => by
    have := h2 t ht
    rw [goalB, Bool.and_eq_true] at this
    exact valid_ok this.1
  exact ⟨valid_ok h3, okVL_of fun t ht => (hb t ht).1, okKL_of fun t ht => (hb t ht).2⟩
theorem subG_ok {c d : C} (h : subG c d = true) : okV d.head ∧ okK c.head ∧ okVL d.body ∧ okKL c.body ∧ d.body.length ≤ c.body.length := by
  rw [subG] at h
  simp only [Bool.and_eq_true, decide_eq_true_eq] at h
  obtain ⟨h1, h2⟩ := clause_ok h.1
  obtain ⟨h3, h4⟩ := clause_ok h.2.1
  exact ⟨h3.1, h1.2, h4.1, h2.2, h.2.2⟩
theorem noTable (z : Array Value) (hz : z = #[.int .i64 0, .int .i64 0, .string ⟨#[]⟩, .slice none 0 0]) (S : Store) : KnownC S ((Array.range 104).map (z[· % z.size]!)) st0 := by
  subst hz
  refine ⟨by simp, fun i hi => ⟨fun _ => ?_, fun t ht => ?_⟩⟩
  · simp only [st0, List.length_replicate] at hi
    apply List.ext_getElem?
    intro j
    rw [cellsAt, List.getElem?_take]
    match j with
    | 0 | 1 | 2 | 3 =>
      rw [if_pos (by omega), List.getElem?_drop, Array.getElem?_toList, Array.getElem?_map, Array.getElem?_range, if_pos (by omega)]
      simp only [Option.map_some, List.size_toArray, List.length_cons, List.length_nil]
      first
        | rw [show (i * 4 + 0) % 4 = 0 by omega]; rfl
        | rw [show (i * 4 + 1) % 4 = 1 by omega]; rfl
        | rw [show (i * 4 + 2) % 4 = 2 by omega]; rfl
        | rw [show (i * 4 + 3) % 4 = 3 by omega]; rfl
    | j + 4 =>
      rw [if_neg (by omega)]
      rfl
  · have e : st0[i] = none := by simp only [st0, List.getElem_replicate]
    rw [e] at ht
    cases ht
section
variable {P : Program} {w w0 : World} {X : List Nat} {L : List Item} {S : Store} {K : Value → World → Prop}
attribute [local irreducible] Run CondV GuardV LoadV
theorem r_makeSliceZ (h : Inv w0 X L S w) {T ty e : TypeId} {k by_ n : Nat} {z : Value} (hT : mkOf P T = some (e, k, by_, z)) (hn : n ≤ 4294967296) (hby : by_ ≤ 65536) (hn0 : n * k ≠ 0)
    (hk : ∀ b w', Inv w0 X (L ++ [.blk b (.cells ((Array.range (n * k)).map (z.cells[· % z.cells.size]!)) e)]) S w' → K (.slice (some ⟨b, 0, none⟩) n n) w') :
    Run P (sOp (.makeSlice T (.const (.int .i64 n)) (.const (.int .i64 n))) ty) w K := by
  obtain ⟨hu, i, hi, hz, hs, hb, hzs⟩ := mkOf_some hT
  have hw : IntKind.i64.wrap (n : Int) = n := IntWalk.i64_in _ (by omega)
  have hle : by_ * n ≤ 2 ^ 48 := Nat.le_trans (Nat.mul_le_mul hby hn) (by decide)
  have h1 : ¬ ((n : Int) < 0) := by omega
  have h2 : ¬ (281474976710656 < (i.bytes : Int) * (n : Int)) := by
    rw [hb]
    have : ((by_ * n : Nat) : Int) ≤ ((2 ^ 48 : Nat) : Int) := by exact_mod_cast hle
    have e : (((2 ^ 48 : Nat)) : Int) = 281474976710656 := by decide
    rw [e, Int.natCast_mul] at this
    omega
  refine Run.of (v := .slice (some ⟨w.heap.size, 0, none⟩) n n) (w' := { w with heap := w.heap.push (.cells ((Array.range (n * k)).map (z.cells[· % z.cells.size]!)) e) }) ?_ (hk _ _ (h.alloc _))
  simp [sOp, execOp, ev0, evE, Instr.makeSlice, run_underlying hu, asInt, asIntOf, typeInfo, hi, hw, h1, h2, sizeOf, hs, newRow, newObj, Sem.run, hn0, zeroValue, hz]
end
section
attribute [local irreducible] Run CondV GuardV LoadV
theorem s_SubsumedClause_calls {c0 d0 : C} {S : Store} {cs ds : List Value} (h : RdC S cs c0) (g : RdC S ds d0) (hw : wC c0 ≤ 1048576) (hw2 : wC d0 ≤ 1048576) : Pure Try.prog n_s_SubsumedClause [.agg cs.toArray, .agg ds.toArray] S (.bool (subB c0 d0)) := by
  intro w hI
  obtain ⟨hd, kb1, rfl, h1, h2⟩ := h
  obtain ⟨hd2, kb2, rfl, g1, g2⟩ := g
  have h1' := h1
  have g1' := g1
  obtain ⟨kv, rfl, _, _, _, _⟩ := RdT.iff.1 h1
  obtain ⟨kv2, rfl, _, _, _, _⟩ := RdT.iff.1 g1
  have h0 : RdC S [.int .i64 c0.head.kind, .int .i64 c0.head.n, .string c0.head.name, kv, kb1] c0 := ⟨_, kb1, rfl, h1', h2⟩
  have g0 : RdC S [.int .i64 d0.head.kind, .int .i64 d0.head.n, .string d0.head.name, kv2, kb2] d0 := ⟨_, kb2, rfl, g1', g2⟩
  refine calls_s_SubsumedClause ?_
  unfold sh_s_SubsumedClause
  refine r_box hI fun b1 w' hI => ?_
  refine r_box hI fun b2 w' hI => ?_
  have hI : Inv w [] [.blk b1 (.cells #[.int .i64 c0.head.kind, .int .i64 c0.head.n, .string c0.head.name, kv, kb1] t_iClause), .blk b2 (.cells #[.int .i64 d0.head.kind, .int .i64 d0.head.n, .string d0.head.name, kv2, kb2] t_iClause)] S w' := hI
  refine ⟨fun q w' => q = .bool (!subG c0 d0) ∧ Inv w [] [.blk b1 (.cells #[.int .i64 c0.head.kind, .int .i64 c0.head.n, .string c0.head.name, kv, kb1] t_iClause), .blk b2 (.cells #[.int .i64 d0.head.kind, .int .i64 d0.head.n, .string d0.head.name, kv2, kb2] t_iClause)] S w', ?_, ?_⟩
  · refine r_loadW hI 0 ag_iClause rfl rfl ?_
    refine Run.callPure fn_s_ClauseValid nm_s_ClauseValid hI (sClauseValid_calls h0 hw) fun w' hI => ?_
    refine r_not ?_
    cases hv1 : clauseB c0
    · repeat (first | refine guard_true ?_ | refine guard_ne (by decide) ?_ | refine guard_undef ?_ | refine r_pickT ?_ | refine r_pickF ?_)
      exact ⟨by rw [subG, hv1]; rfl, hI⟩
    repeat (first | refine guard_true ?_ | refine guard_ne (by decide) ?_ | refine guard_undef ?_ | refine r_pickT ?_ | refine r_pickF ?_)
    refine r_loadW hI 1 ag_iClause rfl rfl ?_
    refine Run.callPure fn_s_ClauseValid nm_s_ClauseValid hI (sClauseValid_calls g0 hw2) fun w' hI => ?_
    refine r_not ?_
    cases hv2 : clauseB d0
    · repeat (first | refine guard_true ?_ | refine guard_ne (by decide) ?_ | refine guard_undef ?_ | refine r_pickT ?_ | refine r_pickF ?_)
      exact ⟨by rw [subG, hv1, hv2]; rfl, hI⟩
    repeat (first | refine guard_true ?_ | refine guard_ne (by decide) ?_ | refine guard_undef ?_ | refine r_pickT ?_ | refine r_pickF ?_)
    refine r_fieldL hI 1 rfl fo_iClause_1 sc_SiTerm rfl ?_
    refine r_lenSl g2 sl_SiTerm ?_
    refine r_fieldL hI 0 rfl fo_iClause_1 sc_SiTerm rfl ?_
    refine r_lenSl h2 sl_SiTerm ?_
    refine r_gtr ?_
    repeat (first | refine guard_true ?_ | refine guard_ne (by decide) ?_ | refine guard_undef ?_ | refine r_pickT ?_ | refine r_pickF ?_)
    refine ⟨?_, hI⟩
    have e : decide ((c0.body.length : Int) < d0.body.length) = !decide (d0.body.length ≤ c0.body.length) := by
      by_cases hq : d0.body.length ≤ c0.body.length
      · rw [decide_eq_true hq, decide_eq_false (by omega)]; rfl
      · rw [decide_eq_false hq, decide_eq_true (by omega)]; rfl
    rw [subG, hv1, hv2, e]; rfl
  intro q _ _ _ _ _ _ _ _ _ _ _ _ _ _ _ _ w'
  rintro ⟨rfl, hI⟩
  rw [subB_eq]
  cases hsg : subG c0 d0
  · refine condV (fun _ => done hI rfl) (fun hb => by cases hb)
  refine condV (fun hb => by cases hb) (fun _ => ?_)
  obtain ⟨hok1, hok2, hok3, hok4, hlen⟩ := subG_ok hsg
  simp only [Bool.true_and]
  have hlb := g2.le
  simp only [maxLen] at hlb
  refine r_makeSliceZ (n := 26) hI mk_SiTerm (by omega) (by omega) (by omega) fun kb w' hI => ?_
  have hkc0 := noTable _ rfl S
  obtain ⟨kc, hkce⟩ : ∃ kc, kc = (Array.range 104).map ((#[.int .i64 0, .int .i64 0, .string ⟨#[]⟩, .slice none 0 0] : Array Value)[· % (#[.int .i64 0, .int .i64 0, .string ⟨#[]⟩, .slice none 0 0] : Array Value).size]!) := ⟨_, rfl⟩
  rw [← hkce] at hkc0
  have hI : Inv w [] [.blk b1 (.cells #[.int .i64 c0.head.kind, .int .i64 c0.head.n, .string c0.head.name, kv, kb1] t_iClause), .blk b2 (.cells #[.int .i64 d0.head.kind, .int .i64 d0.head.n, .string d0.head.name, kv2, kb2] t_iClause), .blk kb (.cells kc t_iTerm)] S w' := by rw [hkce]; exact hI
  refine r_field fo_iClause_0 ?_
  refine r_loadLA hI 1 [.int .i64 d0.head.kind, .int .i64 d0.head.n, .string d0.head.name, kv2] ag_iTerm rfl rfl sub4 ?_
  refine r_field fo_iClause_0 ?_
  refine r_loadLA hI 0 [.int .i64 c0.head.kind, .int .i64 c0.head.n, .string c0.head.name, kv] ag_iTerm rfl rfl sub4 ?_
  have hcall := l3Match_calls d0.head c0.head S _ _ kb kc st0 g1' h1' hok1 hok2 st0_ok hkc0
  have hsn := match_ok d0.head c0.head st0 st0_ok hok2
  generalize matchT d0.head c0.head st0 = r0 at hcall hsn ⊢
  refine Run.call (A := [_, _]) fn_s_l3Match nm_s_l3Match hI hcall fun v' I' S w' => ?_
  rintro ⟨rfl, rfl, kc, rfl, hkc⟩ _ hI
  refine r_not ?_
  cases hr0 : r0.1
  · refine condV (fun _ => done hI rfl) (fun hb => by cases hb)
  refine condV (fun hb => by cases hb) (fun _ => ?_)
  simp only [Bool.true_and]
  refine ⟨fun i w' => ∃ (j : Nat) (st' : Known) (kc : Array Value), j ≤ d0.body.length ∧ i = .int .i64 j ∧ matchL (d0.body.drop j) (c0.body.drop j) st' = matchL d0.body c0.body r0.2 ∧ stOk st' ∧ KnownC S kc st' ∧ Inv w [] [.blk b1 (.cells #[.int .i64 c0.head.kind, .int .i64 c0.head.n, .string c0.head.name, kv, kb1] t_iClause), .blk b2 (.cells #[.int .i64 d0.head.kind, .int .i64 d0.head.n, .string d0.head.name, kv2, kb2] t_iClause), .blk kb (.cells kc t_iTerm)] S w', fun i _ => d0.body.length - (intOf i).toNat, ⟨0, r0.2, kc, Nat.zero_le _, rfl, rfl, hsn, hkc, hI⟩, ?_⟩
  intro t6 _ _ _ _ _ _ _ _ _ _ _ _ _ _ _ _ _ _ _ _ _ w'
  rintro ⟨j, st', kc, hj, rfl, hrel, hst', hkc, hI⟩
  refine r_fieldL hI 1 rfl fo_iClause_1 sc_SiTerm rfl ?_
  refine r_lenSl g2 sl_SiTerm ?_
  refine r_lss ?_
  refine condP (fun hji => ?_) (fun hji => ?_)
  · have hj1 : j < d0.body.length := by omega
    have hj2 : j < c0.body.length := by omega
    obtain ⟨c1, o1, cap1, a1, E1, fz1, rfl, hS1, hR1⟩ := h2.at_ hj2
    obtain ⟨c2, o2, cap2, a2, E2, fz2, rfl, hS2, hR2⟩ := g2.at_ hj1
    rw [matchL_drop d0.body c0.body st' j hj1 hj2] at hrel
    have hcall := l3Match_calls d0.body[j] c0.body[j] S _ _ kb kc st' hR2 hR1 (okVL_mem hok3 _ (List.getElem_mem hj1)) (okKL_mem hok4 _ (List.getElem_mem hj2)) hst' hkc
    have hsn := match_ok d0.body[j] c0.body[j] st' hst' (okKL_mem hok4 _ (List.getElem_mem hj2))
    generalize matchT d0.body[j] c0.body[j] st' = r at hrel hcall hsn
    refine ⟨fun D x51 x50 x49 x48 x47 x46 x45 x44 x43 x42 x41 x40 x39 w_ => (D 0 = true → x39 = .pointer (some ⟨b2, 4, none⟩)) ∧ (D 1 = true → x40 = .slice (some ⟨c2, o2, none⟩) d0.body.length cap2) ∧ (D 2 = true → x41 = .int .i64 j) ∧ (D 3 = true → x42 = .pointer (some ⟨c2, o2 + j * 4, none⟩)) ∧ (D 4 = true → x43 = .agg (cellsAt a2 (o2 + j * 4) 4).toArray) ∧ (D 5 = true → x44 = .pointer (some ⟨b1, 4, none⟩)) ∧ (D 6 = true → x45 = .slice (some ⟨c1, o1, none⟩) c0.body.length cap1) ∧ (D 7 = true → x46 = .int .i64 j) ∧ (D 8 = true → x47 = .pointer (some ⟨c1, o1 + j * 4, none⟩)) ∧ (D 9 = true → x48 = .agg (cellsAt a1 (o1 + j * 4) 4).toArray) ∧ (D 10 = true → x49 = kv0 kb) ∧ (D 11 = true → x50 = .bool r.1) ∧ (D 12 = true → x51 = .bool (!r.1)) ∧ (D 11 = false → Inv w [] [.blk b1 (.cells #[.int .i64 c0.head.kind, .int .i64 c0.head.n, .string c0.head.name, kv, .slice (some ⟨c1, o1, none⟩) c0.body.length cap1] t_iClause), .blk b2 (.cells #[.int .i64 d0.head.kind, .int .i64 d0.head.n, .string d0.head.name, kv2, .slice (some ⟨c2, o2, none⟩) d0.body.length cap2] t_iClause), .blk kb (.cells kc t_iTerm)] S w_) ∧ (D 11 = true → ∃ kc2, KnownC S kc2 r.2 ∧ Inv w [] [.blk b1 (.cells #[.int .i64 c0.head.kind, .int .i64 c0.head.n, .string c0.head.name, kv, .slice (some ⟨c1, o1, none⟩) c0.body.length cap1] t_iClause), .blk b2 (.cells #[.int .i64 d0.head.kind, .int .i64 d0.head.n, .string d0.head.name, kv2, .slice (some ⟨c2, o2, none⟩) d0.body.length cap2] t_iClause), .blk kb (.cells kc2 t_iTerm)] S w_) ∧ ∃ kc3, Inv w [] [.blk b1 (.cells #[.int .i64 c0.head.kind, .int .i64 c0.head.n, .string c0.head.name, kv, .slice (some ⟨c1, o1, none⟩) c0.body.length cap1] t_iClause), .blk b2 (.cells #[.int .i64 d0.head.kind, .int .i64 d0.head.n, .string d0.head.name, kv2, .slice (some ⟨c2, o2, none⟩) d0.body.length cap2] t_iClause), .blk kb (.cells kc3 t_iTerm)] S w_, ⟨fun h => Bool.noConfusion h, fun h => Bool.noConfusion h, fun h => Bool.noConfusion h, fun h => Bool.noConfusion h, fun h => Bool.noConfusion h, fun h => Bool.noConfusion h, fun h => Bool.noConfusion h, fun h => Bool.noConfusion h, fun h => Bool.noConfusion h, fun h => Bool.noConfusion h, fun h => Bool.noConfusion h, fun h => Bool.noConfusion h, fun h => Bool.noConfusion h, ⟨fun _ => hI.draw, fun h => Bool.noConfusion h, kc, hI.draw⟩⟩, ⟨?_, ?_, ?_, ?_, ?_, ?_, ?_, ?_, ?_, ?_, ?_, ?_, ?_, trivial⟩, ?_⟩
    · intro D hD_  x51 x50 x49 x48 x47 x46 x45 x44 x43 x42 x41 x40 x39 w_
      rintro ⟨h0_, h1_, h2_, h3_, h4_, h5_, h6_, h7_, h8_, h9_, h10_, h11_, h12_, ⟨hI0, hI1, kc3, hI⟩⟩
      refine r_field fo_iClause_1 ?_
      exact ⟨fun _ => rfl, h1_, h2_, h3_, h4_, h5_, h6_, h7_, h8_, h9_, h10_, h11_, h12_, ⟨hI0, hI1, kc3, hI⟩⟩
    · intro D hD_ d0_0 x51 x50 x49 x48 x47 x46 x45 x44 x43 x42 x41 x40 x39 w_
      rintro ⟨h0_, h1_, h2_, h3_, h4_, h5_, h6_, h7_, h8_, h9_, h10_, h11_, h12_, ⟨hI0, hI1, kc3, hI⟩⟩
      obtain rfl := h0_ d0_0
      refine r_loadL hI 1 sc_SiTerm rfl rfl ?_
      exact ⟨h0_, fun _ => rfl, h2_, h3_, h4_, h5_, h6_, h7_, h8_, h9_, h10_, h11_, h12_, ⟨hI0, hI1, kc3, hI⟩⟩
    · intro D hD_  x51 x50 x49 x48 x47 x46 x45 x44 x43 x42 x41 x40 x39 w_
      rintro ⟨h0_, h1_, h2_, h3_, h4_, h5_, h6_, h7_, h8_, h9_, h10_, h11_, h12_, ⟨hI0, hI1, kc3, hI⟩⟩
      exact ⟨h0_, h1_, fun _ => rfl, h3_, h4_, h5_, h6_, h7_, h8_, h9_, h10_, h11_, h12_, ⟨hI0, hI1, kc3, hI⟩⟩
    · intro D hD_ d1_0 d2_1 x51 x50 x49 x48 x47 x46 x45 x44 x43 x42 x41 x40 x39 w_
      rintro ⟨h0_, h1_, h2_, h3_, h4_, h5_, h6_, h7_, h8_, h9_, h10_, h11_, h12_, ⟨hI0, hI1, kc3, hI⟩⟩
      obtain rfl := h1_ d1_0
      obtain rfl := h2_ d2_1
      refine r_indexAddr sl_SiTerm hj1 ?_
      exact ⟨h0_, h1_, h2_, fun _ => rfl, h4_, h5_, h6_, h7_, h8_, h9_, h10_, h11_, h12_, ⟨hI0, hI1, kc3, hI⟩⟩
    · intro D hD_ d3_0 x51 x50 x49 x48 x47 x46 x45 x44 x43 x42 x41 x40 x39 w_
      rintro ⟨h0_, h1_, h2_, h3_, h4_, h5_, h6_, h7_, h8_, h9_, h10_, h11_, h12_, ⟨hI0, hI1, kc3, hI⟩⟩
      obtain rfl := h3_ d3_0
      refine r_loadA ag_iTerm hR2.length (fun j v hj => by rw [hI.cellS hS2]; exact cellsAt_get rfl j v hj) ?_
      exact ⟨h0_, h1_, h2_, h3_, fun _ => rfl, h5_, h6_, h7_, h8_, h9_, h10_, h11_, h12_, ⟨hI0, hI1, kc3, hI⟩⟩
    · intro D hD_  x51 x50 x49 x48 x47 x46 x45 x44 x43 x42 x41 x40 x39 w_
      rintro ⟨h0_, h1_, h2_, h3_, h4_, h5_, h6_, h7_, h8_, h9_, h10_, h11_, h12_, ⟨hI0, hI1, kc3, hI⟩⟩
      refine r_field fo_iClause_1 ?_
      exact ⟨h0_, h1_, h2_, h3_, h4_, fun _ => rfl, h6_, h7_, h8_, h9_, h10_, h11_, h12_, ⟨hI0, hI1, kc3, hI⟩⟩
    · intro D hD_ d5_0 x51 x50 x49 x48 x47 x46 x45 x44 x43 x42 x41 x40 x39 w_
      rintro ⟨h0_, h1_, h2_, h3_, h4_, h5_, h6_, h7_, h8_, h9_, h10_, h11_, h12_, ⟨hI0, hI1, kc3, hI⟩⟩
      obtain rfl := h5_ d5_0
      refine r_loadL hI 0 sc_SiTerm rfl rfl ?_
      exact ⟨h0_, h1_, h2_, h3_, h4_, h5_, fun _ => rfl, h7_, h8_, h9_, h10_, h11_, h12_, ⟨hI0, hI1, kc3, hI⟩⟩
    · intro D hD_  x51 x50 x49 x48 x47 x46 x45 x44 x43 x42 x41 x40 x39 w_
      rintro ⟨h0_, h1_, h2_, h3_, h4_, h5_, h6_, h7_, h8_, h9_, h10_, h11_, h12_, ⟨hI0, hI1, kc3, hI⟩⟩
      exact ⟨h0_, h1_, h2_, h3_, h4_, h5_, h6_, fun _ => rfl, h8_, h9_, h10_, h11_, h12_, ⟨hI0, hI1, kc3, hI⟩⟩
    · intro D hD_ d6_0 d7_1 x51 x50 x49 x48 x47 x46 x45 x44 x43 x42 x41 x40 x39 w_
      rintro ⟨h0_, h1_, h2_, h3_, h4_, h5_, h6_, h7_, h8_, h9_, h10_, h11_, h12_, ⟨hI0, hI1, kc3, hI⟩⟩
      obtain rfl := h6_ d6_0
      obtain rfl := h7_ d7_1
      refine r_indexAddr sl_SiTerm hj2 ?_
      exact ⟨h0_, h1_, h2_, h3_, h4_, h5_, h6_, h7_, fun _ => rfl, h9_, h10_, h11_, h12_, ⟨hI0, hI1, kc3, hI⟩⟩
    · intro D hD_ d8_0 x51 x50 x49 x48 x47 x46 x45 x44 x43 x42 x41 x40 x39 w_
      rintro ⟨h0_, h1_, h2_, h3_, h4_, h5_, h6_, h7_, h8_, h9_, h10_, h11_, h12_, ⟨hI0, hI1, kc3, hI⟩⟩
      obtain rfl := h8_ d8_0
      refine r_loadA ag_iTerm hR1.length (fun j v hj => by rw [hI.cellS hS1]; exact cellsAt_get rfl j v hj) ?_
      exact ⟨h0_, h1_, h2_, h3_, h4_, h5_, h6_, h7_, h8_, fun _ => rfl, h10_, h11_, h12_, ⟨hI0, hI1, kc3, hI⟩⟩
    · intro D hD_  x51 x50 x49 x48 x47 x46 x45 x44 x43 x42 x41 x40 x39 w_
      rintro ⟨h0_, h1_, h2_, h3_, h4_, h5_, h6_, h7_, h8_, h9_, h10_, h11_, h12_, ⟨hI0, hI1, kc3, hI⟩⟩
      exact ⟨h0_, h1_, h2_, h3_, h4_, h5_, h6_, h7_, h8_, h9_, fun _ => rfl, h11_, h12_, ⟨hI0, hI1, kc3, hI⟩⟩
    · intro D hD_ d4_0 d9_1 d10_2 x51 x50 x49 x48 x47 x46 x45 x44 x43 x42 x41 x40 x39 w_
      rintro ⟨h0_, h1_, h2_, h3_, h4_, h5_, h6_, h7_, h8_, h9_, h10_, h11_, h12_, ⟨hI0, hI1, kc3, hI⟩⟩
      obtain rfl := h4_ d4_0
      obtain rfl := h9_ d9_1
      obtain rfl := h10_ d10_2
      refine Run.call (A := [_, _]) fn_s_l3Match nm_s_l3Match (hI0 hD_) hcall fun v' I' S w_ => ?_
      rintro ⟨rfl, rfl, kc2, rfl, hk2⟩ _ hI
      have hI0 := fun (h : setD D 11 11 = false) => (Bool.noConfusion h : Inv w [] [.blk b1 (.cells #[.int .i64 c0.head.kind, .int .i64 c0.head.n, .string c0.head.name, kv, .slice (some ⟨c1, o1, none⟩) c0.body.length cap1] t_iClause), .blk b2 (.cells #[.int .i64 d0.head.kind, .int .i64 d0.head.n, .string d0.head.name, kv2, .slice (some ⟨c2, o2, none⟩) d0.body.length cap2] t_iClause), .blk kb (.cells kc t_iTerm)] S w_)
      have hI1 := fun (_ : setD D 11 11 = true) => (⟨kc2, hk2, hI⟩ : ∃ kc2, KnownC S kc2 r.2 ∧ Inv w [] [.blk b1 (.cells #[.int .i64 c0.head.kind, .int .i64 c0.head.n, .string c0.head.name, kv, .slice (some ⟨c1, o1, none⟩) c0.body.length cap1] t_iClause), .blk b2 (.cells #[.int .i64 d0.head.kind, .int .i64 d0.head.n, .string d0.head.name, kv2, .slice (some ⟨c2, o2, none⟩) d0.body.length cap2] t_iClause), .blk kb (.cells kc2 t_iTerm)] S w_)
      obtain ⟨kc3, hI⟩ : ∃ kc3, Inv w [] [.blk b1 (.cells #[.int .i64 c0.head.kind, .int .i64 c0.head.n, .string c0.head.name, kv, .slice (some ⟨c1, o1, none⟩) c0.body.length cap1] t_iClause), .blk b2 (.cells #[.int .i64 d0.head.kind, .int .i64 d0.head.n, .string d0.head.name, kv2, .slice (some ⟨c2, o2, none⟩) d0.body.length cap2] t_iClause), .blk kb (.cells kc3 t_iTerm)] S w_ := ⟨kc2, hI⟩
      exact ⟨h0_, h1_, h2_, h3_, h4_, h5_, h6_, h7_, h8_, h9_, h10_, fun _ => rfl, h12_, ⟨hI0, hI1, kc3, hI⟩⟩
    · intro D hD_ d11_0 x51 x50 x49 x48 x47 x46 x45 x44 x43 x42 x41 x40 x39 w_
      rintro ⟨h0_, h1_, h2_, h3_, h4_, h5_, h6_, h7_, h8_, h9_, h10_, h11_, h12_, ⟨hI0, hI1, kc3, hI⟩⟩
      obtain rfl := h11_ d11_0
      refine r_not ?_
      exact ⟨h0_, h1_, h2_, h3_, h4_, h5_, h6_, h7_, h8_, h9_, h10_, h11_, fun _ => rfl, ⟨hI0, hI1, kc3, hI⟩⟩
    intro D d12_ d11_ d10_ d9_ d8_ d7_ d6_ d5_ d4_ d3_ d2_ d1_ d0_ x51 x50 x49 x48 x47 x46 x45 x44 x43 x42 x41 x40 x39 w_
    rintro ⟨h0_, h1_, h2_, h3_, h4_, h5_, h6_, h7_, h8_, h9_, h10_, h11_, h12_, ⟨hI0, hI1, kc3, hI⟩⟩
    obtain rfl := h12_ d12_
    obtain rfl := h11_ d11_
    obtain rfl := h10_ d10_
    obtain rfl := h9_ d9_
    obtain rfl := h8_ d8_
    obtain rfl := h7_ d7_
    obtain rfl := h6_ d6_
    obtain rfl := h5_ d5_
    obtain rfl := h4_ d4_
    obtain rfl := h3_ d3_
    obtain rfl := h2_ d2_
    obtain rfl := h1_ d1_
    obtain rfl := h0_ d0_
    clear h0_ h1_ h2_ h3_ h4_ h5_ h6_ h7_ h8_ h9_ h10_ h11_ h12_
    obtain ⟨kc2, hk2, hI⟩ := hI1 d11_
    clear hI0 hI1
    refine condV (fun hne => ?_) (fun he' => ?_)
    · simp only [Bool.not_eq_true'] at hne
      rw [hne, if_neg (by decide)] at hrel
      rw [← hrel]
      exact done hI rfl
    · simp only [Bool.not_eq_false'] at he'
      rw [he', if_pos rfl] at hrel
      refine r_add (by omega) ?_
      exact ⟨⟨j + 1, r.2, kc2, hj1, rfl, hrel, hsn, hk2, hI⟩, by simp [intOf]; omega⟩
  · have : j = d0.body.length := by omega
    subst this
    rw [List.drop_length, matchL] at hrel
    rw [← hrel]
    exact done hI rfl
theorem i_SubsumedClause_calls {c0 d0 : C} {S : Store} {cs ds : List Value} (h : RdC S cs c0) (g : RdC S ds d0) : Pure Try.prog n_i_SubsumedClause [.agg cs.toArray, .agg ds.toArray] S (.bool (subB c0 d0)) := by
  intro w hI
  obtain ⟨hd, kb1, rfl, h1, h2⟩ := h
  obtain ⟨hd2, kb2, rfl, g1, g2⟩ := g
  have h1' := h1
  have g1' := g1
  obtain ⟨kv, rfl, _, _, _, _⟩ := RdT.iff.1 h1
  obtain ⟨kv2, rfl, _, _, _, _⟩ := RdT.iff.1 g1
  have h0 : RdC S [.int .i64 c0.head.kind, .int .i64 c0.head.n, .string c0.head.name, kv, kb1] c0 := ⟨_, kb1, rfl, h1', h2⟩
  have g0 : RdC S [.int .i64 d0.head.kind, .int .i64 d0.head.n, .string d0.head.name, kv2, kb2] d0 := ⟨_, kb2, rfl, g1', g2⟩
  refine calls_i_SubsumedClause ?_
  unfold sh_i_SubsumedClause
  refine r_box hI fun b1 w' hI => ?_
  refine r_box hI fun b2 w' hI => ?_
  have hI : Inv w [] [.blk b1 (.cells #[.int .i64 c0.head.kind, .int .i64 c0.head.n, .string c0.head.name, kv, kb1] t_iClause), .blk b2 (.cells #[.int .i64 d0.head.kind, .int .i64 d0.head.n, .string d0.head.name, kv2, kb2] t_iClause)] S w' := hI
  refine ⟨fun q w' => q = .bool (!subG c0 d0) ∧ Inv w [] [.blk b1 (.cells #[.int .i64 c0.head.kind, .int .i64 c0.head.n, .string c0.head.name, kv, kb1] t_iClause), .blk b2 (.cells #[.int .i64 d0.head.kind, .int .i64 d0.head.n, .string d0.head.name, kv2, kb2] t_iClause)] S w', ?_, ?_⟩
  · refine r_loadW hI 0 ag_iClause rfl rfl ?_
    refine Run.callPure fn_i_ClauseValid nm_i_ClauseValid hI (iClauseValid_calls h0) fun w' hI => ?_
    refine r_not ?_
    cases hv1 : clauseB c0
    · repeat (first | refine guard_true ?_ | refine guard_ne (by decide) ?_ | refine guard_undef ?_ | refine r_pickT ?_ | refine r_pickF ?_)
      exact ⟨by rw [subG, hv1]; rfl, hI⟩
    repeat (first | refine guard_true ?_ | refine guard_ne (by decide) ?_ | refine guard_undef ?_ | refine r_pickT ?_ | refine r_pickF ?_)
    refine r_loadW hI 1 ag_iClause rfl rfl ?_
    refine Run.callPure fn_i_ClauseValid nm_i_ClauseValid hI (iClauseValid_calls g0) fun w' hI => ?_
    refine r_not ?_
    cases hv2 : clauseB d0
    · repeat (first | refine guard_true ?_ | refine guard_ne (by decide) ?_ | refine guard_undef ?_ | refine r_pickT ?_ | refine r_pickF ?_)
      exact ⟨by rw [subG, hv1, hv2]; rfl, hI⟩
    repeat (first | refine guard_true ?_ | refine guard_ne (by decide) ?_ | refine guard_undef ?_ | refine r_pickT ?_ | refine r_pickF ?_)
    refine r_fieldL hI 1 rfl fo_iClause_1 sc_SiTerm rfl ?_
    refine r_lenSl g2 sl_SiTerm ?_
    refine r_fieldL hI 0 rfl fo_iClause_1 sc_SiTerm rfl ?_
    refine r_lenSl h2 sl_SiTerm ?_
    refine r_gtr ?_
    repeat (first | refine guard_true ?_ | refine guard_ne (by decide) ?_ | refine guard_undef ?_ | refine r_pickT ?_ | refine r_pickF ?_)
    refine ⟨?_, hI⟩
    have e : decide ((c0.body.length : Int) < d0.body.length) = !decide (d0.body.length ≤ c0.body.length) := by
      by_cases hq : d0.body.length ≤ c0.body.length
      · rw [decide_eq_true hq, decide_eq_false (by omega)]; rfl
      · rw [decide_eq_false hq, decide_eq_true (by omega)]; rfl
    rw [subG, hv1, hv2, e]; rfl
  intro q _ _ _ _ _ _ _ _ _ _ _ _ _ _ _ _ w'
  rintro ⟨rfl, hI⟩
  rw [subB_eq]
  cases hsg : subG c0 d0
  · refine condV (fun _ => done hI rfl) (fun hb => by cases hb)
  refine condV (fun hb => by cases hb) (fun _ => ?_)
  obtain ⟨hok1, hok2, hok3, hok4, hlen⟩ := subG_ok hsg
  simp only [Bool.true_and]
  have hlb := g2.le
  simp only [maxLen] at hlb
  refine r_makeMap hI fun mb w' hI => ?_
  refine r_field fo_iClause_0 ?_
  refine r_loadLA hI 0 [.int .i64 c0.head.kind, .int .i64 c0.head.n, .string c0.head.name, kv] ag_iTerm rfl rfl sub4 ?_
  refine r_field fo_iClause_0 ?_
  refine r_loadLA hI 1 [.int .i64 d0.head.kind, .int .i64 d0.head.n, .string d0.head.name, kv2] ag_iTerm rfl rfl sub4 ?_
  have hcall := instance_calls d0.head c0.head S _ _ mb 0 #[] st0 g1' h1' hok1 hok2 st0_ok (KnownM.empty S)
  have hsn := match_ok d0.head c0.head st0 st0_ok hok2
  generalize matchT d0.head c0.head st0 = r0 at hcall hsn ⊢
  refine Run.call (A := [_, _]) fn_i_instance nm_i_instance hI hcall fun v' I' S w' => ?_
  rintro ⟨rfl, rfl, es, ck, rfl, hkc⟩ _ hI
  refine r_not ?_
  cases hr0 : r0.1
  · refine condV (fun _ => done hI rfl) (fun hb => by cases hb)
  refine condV (fun hb => by cases hb) (fun _ => ?_)
  simp only [Bool.true_and]
  refine r_fieldL hI 1 rfl fo_iClause_1 sc_SiTerm rfl ?_
  refine r_lenSl g2 sl_SiTerm ?_
  refine ⟨fun i w' => ∃ (j : Nat) (st' : Known) (es : Array MapEntry) (ck : Nat), j ≤ d0.body.length ∧ i = .int .i64 j ∧ matchL (d0.body.drop j) (c0.body.drop j) st' = matchL d0.body c0.body r0.2 ∧ stOk st' ∧ KnownM S es st' ∧ Inv w [] [.blk b1 (.cells #[.int .i64 c0.head.kind, .int .i64 c0.head.n, .string c0.head.name, kv, kb1] t_iClause), .blk b2 (.cells #[.int .i64 d0.head.kind, .int .i64 d0.head.n, .string d0.head.name, kv2, kb2] t_iClause), .blk mb (.map es ck)] S w', fun i _ => d0.body.length - (intOf i).toNat, ⟨0, r0.2, es, ck, Nat.zero_le _, rfl, rfl, hsn, hkc, hI⟩, ?_⟩
  intro t36 _ _ _ _ _ _ _ _ _ _ _ _ _ _ _ _ _ w'
  rintro ⟨j, st', es, ck, hj, rfl, hrel, hst', hkc, hI⟩
  refine r_lss ?_
  refine condP (fun hji => ?_) (fun hji => ?_)
  · have hj1 : j < d0.body.length := by omega
    have hj2 : j < c0.body.length := by omega
    obtain ⟨c1, o1, cap1, a1, E1, fz1, rfl, hS1, hR1⟩ := h2.at_ hj2
    obtain ⟨c2, o2, cap2, a2, E2, fz2, rfl, hS2, hR2⟩ := g2.at_ hj1
    rw [matchL_drop d0.body c0.body st' j hj1 hj2] at hrel
    have hcall := instance_calls d0.body[j] c0.body[j] S _ _ mb ck es st' hR2 hR1 (okVL_mem hok3 _ (List.getElem_mem hj1)) (okKL_mem hok4 _ (List.getElem_mem hj2)) hst' hkc
    have hsn := match_ok d0.body[j] c0.body[j] st' hst' (okKL_mem hok4 _ (List.getElem_mem hj2))
    generalize matchT d0.body[j] c0.body[j] st' = r at hrel hcall hsn
    refine r_indexAddr sl_SiTerm hj1 ?_
    refine r_loadA (cs := cellsAt a2 (o2 + j * 4) 4) ag_iTerm hR2.length (fun j v hj => by rw [hI.cellS hS2]; exact cellsAt_get rfl j v hj) ?_
    have hl2 := hR2.length
    refine r_alloc hI zo_iTerm fun b7 w' hI => ?_
    refine r_storeW hI 3 rfl ag_iTerm (by simpa using hl2) rfl (by simpa using hR2.one) fun w' hI => ?_
    have hI : Inv w [] [.blk b1 (.cells #[.int .i64 c0.head.kind, .int .i64 c0.head.n, .string c0.head.name, kv, .slice (some ⟨c1, o1, none⟩) c0.body.length cap1] t_iClause), .blk b2 (.cells #[.int .i64 d0.head.kind, .int .i64 d0.head.n, .string d0.head.name, kv2, .slice (some ⟨c2, o2, none⟩) d0.body.length cap2] t_iClause), .blk b7 (.cells (cellsAt a2 (o2 + j * 4) 4).toArray t_iTerm), .blk mb (.map es ck)] S w' := hI.perm (((List.Perm.swap _ _ _).cons _).cons _)
    refine ⟨fun D x49 x48 x47 x46 x45 x44 x43 x42 x41 w_ => (D 0 = true → x41 = .pointer (some ⟨b1, 4, none⟩)) ∧ (D 1 = true → x42 = .slice (some ⟨c1, o1, none⟩) c0.body.length cap1) ∧ (D 2 = true → x43 = .int .i64 j) ∧ (D 3 = true → x44 = .pointer (some ⟨c1, o1 + j * 4, none⟩)) ∧ (D 4 = true → x45 = .agg (cellsAt a1 (o1 + j * 4) 4).toArray) ∧ (D 5 = true → x46 = .agg (cellsAt a2 (o2 + j * 4) 4).toArray) ∧ (D 6 = true → x47 = .map (some mb)) ∧ (D 7 = true → x48 = .bool r.1) ∧ (D 8 = true → x49 = .bool (!r.1)) ∧ (D 7 = false → Inv w [] [.blk b1 (.cells #[.int .i64 c0.head.kind, .int .i64 c0.head.n, .string c0.head.name, kv, .slice (some ⟨c1, o1, none⟩) c0.body.length cap1] t_iClause), .blk b2 (.cells #[.int .i64 d0.head.kind, .int .i64 d0.head.n, .string d0.head.name, kv2, .slice (some ⟨c2, o2, none⟩) d0.body.length cap2] t_iClause), .blk b7 (.cells (cellsAt a2 (o2 + j * 4) 4).toArray t_iTerm), .blk mb (.map es ck)] S w_) ∧ (D 7 = true → ∃ es2 ck2, KnownM S es2 r.2 ∧ Inv w [] [.blk b1 (.cells #[.int .i64 c0.head.kind, .int .i64 c0.head.n, .string c0.head.name, kv, .slice (some ⟨c1, o1, none⟩) c0.body.length cap1] t_iClause), .blk b2 (.cells #[.int .i64 d0.head.kind, .int .i64 d0.head.n, .string d0.head.name, kv2, .slice (some ⟨c2, o2, none⟩) d0.body.length cap2] t_iClause), .blk b7 (.cells (cellsAt a2 (o2 + j * 4) 4).toArray t_iTerm), .blk mb (.map es2 ck2)] S w_) ∧ ∃ es3 ck3, Inv w [] [.blk b1 (.cells #[.int .i64 c0.head.kind, .int .i64 c0.head.n, .string c0.head.name, kv, .slice (some ⟨c1, o1, none⟩) c0.body.length cap1] t_iClause), .blk b2 (.cells #[.int .i64 d0.head.kind, .int .i64 d0.head.n, .string d0.head.name, kv2, .slice (some ⟨c2, o2, none⟩) d0.body.length cap2] t_iClause), .blk b7 (.cells (cellsAt a2 (o2 + j * 4) 4).toArray t_iTerm), .blk mb (.map es3 ck3)] S w_, ⟨fun h => Bool.noConfusion h, fun h => Bool.noConfusion h, fun h => Bool.noConfusion h, fun h => Bool.noConfusion h, fun h => Bool.noConfusion h, fun h => Bool.noConfusion h, fun h => Bool.noConfusion h, fun h => Bool.noConfusion h, fun h => Bool.noConfusion h, ⟨fun _ => hI.draw, fun h => Bool.noConfusion h, es, ck, hI.draw⟩⟩, ⟨?_, ?_, ?_, ?_, ?_, ?_, ?_, ?_, ?_, trivial⟩, ?_⟩
    · intro D hD_  x49 x48 x47 x46 x45 x44 x43 x42 x41 w_
      rintro ⟨h0_, h1_, h2_, h3_, h4_, h5_, h6_, h7_, h8_, ⟨hI0, hI1, es3, ck3, hI⟩⟩
      refine r_field fo_iClause_1 ?_
      exact ⟨fun _ => rfl, h1_, h2_, h3_, h4_, h5_, h6_, h7_, h8_, ⟨hI0, hI1, es3, ck3, hI⟩⟩
    · intro D hD_ d0_0 x49 x48 x47 x46 x45 x44 x43 x42 x41 w_
      rintro ⟨h0_, h1_, h2_, h3_, h4_, h5_, h6_, h7_, h8_, ⟨hI0, hI1, es3, ck3, hI⟩⟩
      obtain rfl := h0_ d0_0
      refine r_loadL hI 0 sc_SiTerm rfl rfl ?_
      exact ⟨h0_, fun _ => rfl, h2_, h3_, h4_, h5_, h6_, h7_, h8_, ⟨hI0, hI1, es3, ck3, hI⟩⟩
    · intro D hD_  x49 x48 x47 x46 x45 x44 x43 x42 x41 w_
      rintro ⟨h0_, h1_, h2_, h3_, h4_, h5_, h6_, h7_, h8_, ⟨hI0, hI1, es3, ck3, hI⟩⟩
      exact ⟨h0_, h1_, fun _ => rfl, h3_, h4_, h5_, h6_, h7_, h8_, ⟨hI0, hI1, es3, ck3, hI⟩⟩
    · intro D hD_ d1_0 d2_1 x49 x48 x47 x46 x45 x44 x43 x42 x41 w_
      rintro ⟨h0_, h1_, h2_, h3_, h4_, h5_, h6_, h7_, h8_, ⟨hI0, hI1, es3, ck3, hI⟩⟩
      obtain rfl := h1_ d1_0
      obtain rfl := h2_ d2_1
      refine r_indexAddr sl_SiTerm hj2 ?_
      exact ⟨h0_, h1_, h2_, fun _ => rfl, h4_, h5_, h6_, h7_, h8_, ⟨hI0, hI1, es3, ck3, hI⟩⟩
    · intro D hD_ d3_0 x49 x48 x47 x46 x45 x44 x43 x42 x41 w_
      rintro ⟨h0_, h1_, h2_, h3_, h4_, h5_, h6_, h7_, h8_, ⟨hI0, hI1, es3, ck3, hI⟩⟩
      obtain rfl := h3_ d3_0
      refine r_loadA ag_iTerm hR1.length (fun j v hj => by rw [hI.cellS hS1]; exact cellsAt_get rfl j v hj) ?_
      exact ⟨h0_, h1_, h2_, h3_, fun _ => rfl, h5_, h6_, h7_, h8_, ⟨hI0, hI1, es3, ck3, hI⟩⟩
    · intro D hD_  x49 x48 x47 x46 x45 x44 x43 x42 x41 w_
      rintro ⟨h0_, h1_, h2_, h3_, h4_, h5_, h6_, h7_, h8_, ⟨hI0, hI1, es3, ck3, hI⟩⟩
      refine r_loadW hI 2 ag_iTerm rfl (by simpa using hl2) ?_
      exact ⟨h0_, h1_, h2_, h3_, h4_, fun _ => rfl, h6_, h7_, h8_, ⟨hI0, hI1, es3, ck3, hI⟩⟩
    · intro D hD_  x49 x48 x47 x46 x45 x44 x43 x42 x41 w_
      rintro ⟨h0_, h1_, h2_, h3_, h4_, h5_, h6_, h7_, h8_, ⟨hI0, hI1, es3, ck3, hI⟩⟩
      exact ⟨h0_, h1_, h2_, h3_, h4_, h5_, fun _ => rfl, h7_, h8_, ⟨hI0, hI1, es3, ck3, hI⟩⟩
    · intro D hD_ d4_0 d5_1 d6_2 x49 x48 x47 x46 x45 x44 x43 x42 x41 w_
      rintro ⟨h0_, h1_, h2_, h3_, h4_, h5_, h6_, h7_, h8_, ⟨hI0, hI1, es3, ck3, hI⟩⟩
      obtain rfl := h4_ d4_0
      obtain rfl := h5_ d5_1
      obtain rfl := h6_ d6_2
      refine Run.call (A := [_, _, _]) fn_i_instance nm_i_instance (hI0 hD_) hcall fun v' I' S w_ => ?_
      rintro ⟨rfl, rfl, es2, ck2, rfl, hk2⟩ _ hI
      have hI0 := fun (h : setD D 7 7 = false) => (Bool.noConfusion h : Inv w [] [.blk b1 (.cells #[.int .i64 c0.head.kind, .int .i64 c0.head.n, .string c0.head.name, kv, .slice (some ⟨c1, o1, none⟩) c0.body.length cap1] t_iClause), .blk b2 (.cells #[.int .i64 d0.head.kind, .int .i64 d0.head.n, .string d0.head.name, kv2, .slice (some ⟨c2, o2, none⟩) d0.body.length cap2] t_iClause), .blk b7 (.cells (cellsAt a2 (o2 + j * 4) 4).toArray t_iTerm), .blk mb (.map es ck)] S w_)
      have hI1 := fun (_ : setD D 7 7 = true) => (⟨es2, ck2, hk2, hI⟩ : ∃ es2 ck2, KnownM S es2 r.2 ∧ Inv w [] [.blk b1 (.cells #[.int .i64 c0.head.kind, .int .i64 c0.head.n, .string c0.head.name, kv, .slice (some ⟨c1, o1, none⟩) c0.body.length cap1] t_iClause), .blk b2 (.cells #[.int .i64 d0.head.kind, .int .i64 d0.head.n, .string d0.head.name, kv2, .slice (some ⟨c2, o2, none⟩) d0.body.length cap2] t_iClause), .blk b7 (.cells (cellsAt a2 (o2 + j * 4) 4).toArray t_iTerm), .blk mb (.map es2 ck2)] S w_)
      obtain ⟨es3, ck3, hI⟩ : ∃ es3 ck3, Inv w [] [.blk b1 (.cells #[.int .i64 c0.head.kind, .int .i64 c0.head.n, .string c0.head.name, kv, .slice (some ⟨c1, o1, none⟩) c0.body.length cap1] t_iClause), .blk b2 (.cells #[.int .i64 d0.head.kind, .int .i64 d0.head.n, .string d0.head.name, kv2, .slice (some ⟨c2, o2, none⟩) d0.body.length cap2] t_iClause), .blk b7 (.cells (cellsAt a2 (o2 + j * 4) 4).toArray t_iTerm), .blk mb (.map es3 ck3)] S w_ := ⟨es2, ck2, hI⟩
      exact ⟨h0_, h1_, h2_, h3_, h4_, h5_, h6_, fun _ => rfl, h8_, ⟨hI0, hI1, es3, ck3, hI⟩⟩
    · intro D hD_ d7_0 x49 x48 x47 x46 x45 x44 x43 x42 x41 w_
      rintro ⟨h0_, h1_, h2_, h3_, h4_, h5_, h6_, h7_, h8_, ⟨hI0, hI1, es3, ck3, hI⟩⟩
      obtain rfl := h7_ d7_0
      refine r_not ?_
      exact ⟨h0_, h1_, h2_, h3_, h4_, h5_, h6_, h7_, fun _ => rfl, ⟨hI0, hI1, es3, ck3, hI⟩⟩
    intro D d8_ d7_ d6_ d5_ d4_ d3_ d2_ d1_ d0_ x49 x48 x47 x46 x45 x44 x43 x42 x41 w_
    rintro ⟨h0_, h1_, h2_, h3_, h4_, h5_, h6_, h7_, h8_, ⟨hI0, hI1, es3, ck3, hI⟩⟩
    obtain rfl := h8_ d8_
    obtain rfl := h7_ d7_
    obtain rfl := h6_ d6_
    obtain rfl := h5_ d5_
    obtain rfl := h4_ d4_
    obtain rfl := h3_ d3_
    obtain rfl := h2_ d2_
    obtain rfl := h1_ d1_
    obtain rfl := h0_ d0_
    clear h0_ h1_ h2_ h3_ h4_ h5_ h6_ h7_ h8_
    obtain ⟨es2, ck2, hk2, hI⟩ := hI1 d7_
    clear hI0 hI1
    refine condV (fun hne => ?_) (fun he' => ?_)
    · simp only [Bool.not_eq_true'] at hne
      rw [hne, if_neg (by decide)] at hrel
      rw [← hrel]
      exact done hI rfl
    · simp only [Bool.not_eq_false'] at he'
      rw [he', if_pos rfl] at hrel
      refine r_add (by omega) ?_
      exact ⟨⟨j + 1, r.2, es2, ck2, hj1, rfl, hrel, hsn, hk2, hI.pick [true, true, false, true]⟩, by simp [intOf]; omega⟩
  · have : j = d0.body.length := by omega
    subst this
    rw [List.drop_length, matchL] at hrel
    rw [← hrel]
    exact done hI rfl
end

end Go.Proofs.Ytnoieadimkgjcaa

/- FnExactSubsumedClause returns true, whatever clauses come in. -/
namespace Go.Proofs.Ytnoieadimkgjcaa
open Go Go.RowKit
section
attribute [local irreducible] Run CondV GuardV LoadV
def IsCl (S : Store) (c : C) (v : Value) : Prop := ∃ cs, v = .agg cs.toArray ∧ RdC S cs c
theorem IsCl.mono {S S' : Store} {c : C} {v : Value} (hs : Sle S S') (h : IsCl S c v) : IsCl S' c v := by
  obtain ⟨u, hx, hr⟩ := h
  exact ⟨u, hx, hr.mono hs⟩
theorem lawSubs_calls {c d : C} {S : Store} {cs ds : List Value} (h : RdC S cs c) (g : RdC S ds d) : Pure Try.prog n_l_FnExactSubsumedClause [.agg cs.toArray, .agg ds.toArray] S (.bool true) := by
  intro w hI
  refine calls_l_FnExactSubsumedClause ?_
  unfold sh_l_FnExactSubsumedClause
  refine r_box hI fun b1 w' hI => ?_
  refine r_box hI fun b2 w' hI => ?_
  have hI : Inv w [] [.blk b1 (.cells cs.toArray t_lClause), .blk b2 (.cells ds.toArray t_lClause)] S w' := hI
  refine r_loadW hI 0 ag_lClause rfl (by simpa using h.length) ?_
  refine Run.callPure fn_l_szClause nm_l_szClause hI (szClause_calls h (by omega) (by omega)) fun w' hI => ?_
  refine r_lss ?_
  refine condP (fun _ => done hI rfl) (fun hsz => ?_)
  have hw := sz_wC (c := c) (left := 1048576) (by omega) (by omega)
  have hle0 := (szC_le c 1048576 (by omega)).2
  refine r_loadW hI 1 ag_lClause rfl (by simpa using g.length) ?_
  refine Run.callPure fn_l_szClause nm_l_szClause hI (szClause_calls g (by omega) (by omega)) fun w' hI => ?_
  refine r_lss ?_
  refine condP (fun _ => done hI rfl) (fun hsz2 => ?_)
  have hw2 := sz_wC (c := d) (left := szC c 1048576) (by omega) (by omega)
  have hw : wC c ≤ 1048576 := by omega
  have hw2 : wC d ≤ 1048576 := by omega
  refine ⟨fun D x6 x24 x23 x22 x21 x20 w_ => (D 0 = true → x20 = .agg cs.toArray) ∧ (D 1 = true → True) ∧ (D 2 = true → x22 = .agg ds.toArray) ∧ (D 3 = true → True) ∧ (D 4 = true → x24 = .bool (subB c d)) ∧ (D 5 = true → x6 = .bool (subB c d)) ∧ ∃ S1, Sle S S1 ∧ (D 1 = true → IsCl S1 c x21) ∧ (D 3 = true → IsCl S1 d x23) ∧ Inv w [] [.blk b1 (.cells cs.toArray t_lClause), .blk b2 (.cells ds.toArray t_lClause)] S1 w_, ⟨fun h => Bool.noConfusion h, fun h => Bool.noConfusion h, fun h => Bool.noConfusion h, fun h => Bool.noConfusion h, fun h => Bool.noConfusion h, fun h => Bool.noConfusion h, ⟨S, Sle.refl _, fun h => Bool.noConfusion h, fun h => Bool.noConfusion h, hI.draw⟩⟩, ⟨?_, ?_, ?_, ?_, ?_, ?_, trivial⟩, ?_⟩
  · intro D hD_  x6 x24 x23 x22 x21 x20 w_
    rintro ⟨h0_, h1_, h2_, h3_, h4_, h5_, ⟨S1, hle, e1, e3, hI⟩⟩
    refine r_loadW hI 0 ag_lClause rfl (by simpa using h.length) ?_
    exact ⟨fun _ => rfl, h1_, h2_, h3_, h4_, h5_, ⟨S1, hle, e1, e3, hI⟩⟩
  · intro D hD_ d0_0 x6 x24 x23 x22 x21 x20 w_
    rintro ⟨h0_, h1_, h2_, h3_, h4_, h5_, ⟨S1, hle, e1, e3, hI⟩⟩
    obtain rfl := h0_ d0_0
    refine Run.toClause hI (h.mono hle) hw fun cs1 S1 w_ hle1 h1 hI => ?_
    have hle := hle.trans hle1
    have e3 := fun (e : setD D 1 3 = true) => (e3 e).mono hle1
    have e1 := fun (_ : setD D 1 1 = true) => (⟨cs1, rfl, h1⟩ : IsCl S1 c (.agg cs1.toArray))
    exact ⟨h0_, fun _ => by first | assumption | trivial, h2_, h3_, h4_, h5_, ⟨S1, hle, e1, e3, hI⟩⟩
  · intro D hD_  x6 x24 x23 x22 x21 x20 w_
    rintro ⟨h0_, h1_, h2_, h3_, h4_, h5_, ⟨S1, hle, e1, e3, hI⟩⟩
    refine r_loadW hI 1 ag_lClause rfl (by simpa using g.length) ?_
    exact ⟨h0_, h1_, fun _ => rfl, h3_, h4_, h5_, ⟨S1, hle, e1, e3, hI⟩⟩
  · intro D hD_ d2_0 d1_1 x6 x24 x23 x22 x21 x20 w_
    rintro ⟨h0_, h1_, h2_, h3_, h4_, h5_, ⟨S1, hle, e1, e3, hI⟩⟩
    obtain rfl := h2_ d2_0
    refine Run.toClause hI (g.mono hle) hw2 fun cs1 S1 w_ hle1 h1 hI => ?_
    have hle := hle.trans hle1
    have e1 := fun (e : setD D 3 1 = true) => (e1 e).mono hle1
    have e3 := fun (_ : setD D 3 3 = true) => (⟨cs1, rfl, h1⟩ : IsCl S1 d (.agg cs1.toArray))
    exact ⟨h0_, h1_, h2_, fun _ => by first | assumption | trivial, h4_, h5_, ⟨S1, hle, e1, e3, hI⟩⟩
  · intro D hD_ d1_0 d3_1 d3_2 x6 x24 x23 x22 x21 x20 w_
    rintro ⟨h0_, h1_, h2_, h3_, h4_, h5_, ⟨S1, hle, e1, e3, hI⟩⟩
    have g1_ := h1_ d1_0
    have g3_ := h3_ d3_1
    obtain ⟨q1, rfl, hq1⟩ := e1 d1_0
    obtain ⟨q3, rfl, hq3⟩ := e3 d3_1
    refine Run.callPure fn_s_SubsumedClause nm_s_SubsumedClause hI (s_SubsumedClause_calls hq1 hq3 hw hw2) fun w_ hI => ?_
    exact ⟨h0_, h1_, h2_, h3_, fun _ => rfl, h5_, ⟨S1, hle, e1, e3, hI⟩⟩
  · intro D hD_ d4_0 d4_1 d0_2 d1_3 d2_4 d3_5 d4_6 x6 x24 x23 x22 x21 x20 w_
    rintro ⟨h0_, h1_, h2_, h3_, h4_, h5_, ⟨S1, hle, e1, e3, hI⟩⟩
    obtain rfl := h4_ d4_0
    exact ⟨h0_, h1_, h2_, h3_, h4_, fun _ => rfl, ⟨S1, hle, e1, e3, hI⟩⟩
  intro D d5_ d4_ d3_ d2_ d1_ d0_ x6 x24 x23 x22 x21 x20 w_
  rintro ⟨h0_, h1_, h2_, h3_, h4_, h5_, ⟨S1, hle, e1, e3, hI⟩⟩
  obtain rfl := h5_ d5_
  obtain rfl := h4_ d4_
  have g3_ := h3_ d3_
  obtain rfl := h2_ d2_
  have g1_ := h1_ d1_
  obtain rfl := h0_ d0_
  clear h0_ h1_ h2_ h3_ h4_ h5_
  clear e1 e3
  refine r_loadW hI 0 ag_lClause rfl (by simpa using h.length) ?_
  refine Run.toClause hI (h.mono hle) hw fun es S2 w' hle2 h2 hI => ?_
  have hl2 := h2.length
  refine r_alloc hI zo_iClause fun b7 w' hI => ?_
  refine r_storeW hI 2 rfl ag_iClause (by simpa using hl2) rfl (by simpa using h2.one) fun w' hI => ?_
  refine r_loadW hI 1 ag_lClause rfl (by simpa using g.length) ?_
  refine Run.toClause hI (g.mono (hle.trans hle2)) hw2 fun fs S3 w' hle3 g2 hI => ?_
  have hl3 := g2.length
  refine r_alloc hI zo_iClause fun b8 w' hI => ?_
  refine r_storeW hI 3 rfl ag_iClause (by simpa using hl3) rfl (by simpa using g2.one) fun w' hI => ?_
  have hI : Inv w [] [.blk b1 (.cells cs.toArray t_lClause), .blk b2 (.cells ds.toArray t_lClause), .blk b7 (.cells es.toArray t_iClause), .blk b8 (.cells fs.toArray t_iClause)] S3 w' := hI
  refine r_loadW hI 2 ag_iClause rfl (by simpa using hl2) ?_
  refine r_loadW hI 3 ag_iClause rfl (by simpa using hl3) ?_
  have h2 := h2.mono hle3
  have hle := (hle.trans hle2).trans hle3
  refine Run.callPure fn_i_SubsumedClause nm_i_SubsumedClause hI (i_SubsumedClause_calls h2 g2) fun w' hI => ?_
  refine r_bneq un_bool ?_
  refine condV (fun hb => by simp at hb) (fun _ => ?_)
  refine ⟨fun D x39 x38 x37 x36 x35 w_ => (D 0 = true → x35 = .agg es.toArray) ∧ (D 1 = true → x36 = .agg cs.toArray) ∧ (D 2 = true → True) ∧ (D 3 = true → x38 = .bool true) ∧ (D 4 = true → x39 = .bool false) ∧ ∃ S1, Sle S3 S1 ∧ (D 2 = true → IsCl S1 c x37) ∧ Inv w [] [.blk b1 (.cells cs.toArray t_lClause), .blk b2 (.cells ds.toArray t_lClause), .blk b7 (.cells es.toArray t_iClause), .blk b8 (.cells fs.toArray t_iClause)] S1 w_, ⟨fun h => Bool.noConfusion h, fun h => Bool.noConfusion h, fun h => Bool.noConfusion h, fun h => Bool.noConfusion h, fun h => Bool.noConfusion h, ⟨S3, Sle.refl _, fun h => Bool.noConfusion h, hI.draw⟩⟩, ⟨?_, ?_, ?_, ?_, ?_, trivial⟩, ?_⟩
  · intro D hD_  x39 x38 x37 x36 x35 w_
    rintro ⟨h0_, h1_, h2_, h3_, h4_, ⟨S1, hleR, e2, hI⟩⟩
    refine r_loadW hI 2 ag_iClause rfl (by simpa using h2.length) ?_
    exact ⟨fun _ => rfl, h1_, h2_, h3_, h4_, ⟨S1, hleR, e2, hI⟩⟩
  · intro D hD_  x39 x38 x37 x36 x35 w_
    rintro ⟨h0_, h1_, h2_, h3_, h4_, ⟨S1, hleR, e2, hI⟩⟩
    refine r_loadW hI 0 ag_lClause rfl (by simpa using h.length) ?_
    exact ⟨h0_, fun _ => rfl, h2_, h3_, h4_, ⟨S1, hleR, e2, hI⟩⟩
  · intro D hD_ d1_0 x39 x38 x37 x36 x35 w_
    rintro ⟨h0_, h1_, h2_, h3_, h4_, ⟨S1, hleR, e2, hI⟩⟩
    obtain rfl := h1_ d1_0
    refine Run.toClause hI (h.mono (hle.trans hleR)) (by omega) fun cs1 S1 w_ hle1 h1 hI => ?_
    have hleR := hleR.trans hle1
    have e2 := fun (_ : setD D 2 2 = true) => (⟨cs1, rfl, h1⟩ : IsCl S1 c (.agg cs1.toArray))
    exact ⟨h0_, h1_, fun _ => by first | assumption | trivial, h3_, h4_, ⟨S1, hleR, e2, hI⟩⟩
  · intro D hD_ d0_0 d2_1 d2_2 x39 x38 x37 x36 x35 w_
    rintro ⟨h0_, h1_, h2_, h3_, h4_, ⟨S1, hleR, e2, hI⟩⟩
    obtain rfl := h0_ d0_0
    have g2_ := h2_ d2_1
    obtain ⟨q2, rfl, hq2⟩ := e2 d2_1
    refine Run.callPure fn_l_eqClause nm_l_eqClause hI (eqClause_calls (h2.mono hleR) hq2) fun w_ hI => ?_
    rw [(eqC_iff _ _).2 rfl]
    exact ⟨h0_, h1_, h2_, fun _ => rfl, h4_, ⟨S1, hleR, e2, hI⟩⟩
  · intro D hD_ d3_0 x39 x38 x37 x36 x35 w_
    rintro ⟨h0_, h1_, h2_, h3_, h4_, ⟨S1, hleR, e2, hI⟩⟩
    obtain rfl := h3_ d3_0
    refine r_not ?_
    exact ⟨h0_, h1_, h2_, h3_, fun _ => rfl, ⟨S1, hleR, e2, hI⟩⟩
  intro D d4_ d3_ d2_ d1_ d0_ x39 x38 x37 x36 x35 w_
  rintro ⟨h0_, h1_, h2_, h3_, h4_, ⟨S1, hleR, e2, hI⟩⟩
  obtain rfl := h4_ d4_
  obtain rfl := h3_ d3_
  have g2_ := h2_ d2_
  obtain rfl := h1_ d1_
  obtain rfl := h0_ d0_
  clear h0_ h1_ h2_ h3_ h4_
  clear e2
  refine condV (fun hb => by cases hb) (fun _ => ?_)
  have hle := hle.trans hleR
  have g2 := g2.mono hleR
  clear hleR
  refine ⟨fun D x44 x43 x42 x41 x40 w_ => (D 0 = true → x40 = .agg fs.toArray) ∧ (D 1 = true → x41 = .agg ds.toArray) ∧ (D 2 = true → True) ∧ (D 3 = true → x43 = .bool true) ∧ (D 4 = true → x44 = .bool false) ∧ ∃ S2, Sle S1 S2 ∧ (D 2 = true → IsCl S2 d x42) ∧ Inv w [] [.blk b1 (.cells cs.toArray t_lClause), .blk b2 (.cells ds.toArray t_lClause), .blk b7 (.cells es.toArray t_iClause), .blk b8 (.cells fs.toArray t_iClause)] S2 w_, ⟨fun h => Bool.noConfusion h, fun h => Bool.noConfusion h, fun h => Bool.noConfusion h, fun h => Bool.noConfusion h, fun h => Bool.noConfusion h, ⟨S1, Sle.refl _, fun h => Bool.noConfusion h, hI.draw⟩⟩, ⟨?_, ?_, ?_, ?_, ?_, trivial⟩, ?_⟩
  · intro D hD_  x44 x43 x42 x41 x40 w_
    rintro ⟨h0_, h1_, h2_, h3_, h4_, ⟨S2, hleR, e2, hI⟩⟩
    refine r_loadW hI 3 ag_iClause rfl (by simpa using g2.length) ?_
    exact ⟨fun _ => rfl, h1_, h2_, h3_, h4_, ⟨S2, hleR, e2, hI⟩⟩
  · intro D hD_  x44 x43 x42 x41 x40 w_
    rintro ⟨h0_, h1_, h2_, h3_, h4_, ⟨S2, hleR, e2, hI⟩⟩
    refine r_loadW hI 1 ag_lClause rfl (by simpa using g.length) ?_
    exact ⟨h0_, fun _ => rfl, h2_, h3_, h4_, ⟨S2, hleR, e2, hI⟩⟩
  · intro D hD_ d1_0 x44 x43 x42 x41 x40 w_
    rintro ⟨h0_, h1_, h2_, h3_, h4_, ⟨S2, hleR, e2, hI⟩⟩
    obtain rfl := h1_ d1_0
    refine Run.toClause hI (g.mono (hle.trans hleR)) (by omega) fun cs1 S2 w_ hle1 h1 hI => ?_
    have hleR := hleR.trans hle1
    have e2 := fun (_ : setD D 2 2 = true) => (⟨cs1, rfl, h1⟩ : IsCl S2 d (.agg cs1.toArray))
    exact ⟨h0_, h1_, fun _ => by first | assumption | trivial, h3_, h4_, ⟨S2, hleR, e2, hI⟩⟩
  · intro D hD_ d0_0 d2_1 d2_2 x44 x43 x42 x41 x40 w_
    rintro ⟨h0_, h1_, h2_, h3_, h4_, ⟨S2, hleR, e2, hI⟩⟩
    obtain rfl := h0_ d0_0
    have g2_ := h2_ d2_1
    obtain ⟨q2, rfl, hq2⟩ := e2 d2_1
    refine Run.callPure fn_l_eqClause nm_l_eqClause hI (eqClause_calls (g2.mono hleR) hq2) fun w_ hI => ?_
    rw [(eqC_iff _ _).2 rfl]
    exact ⟨h0_, h1_, h2_, fun _ => rfl, h4_, ⟨S2, hleR, e2, hI⟩⟩
  · intro D hD_ d3_0 x44 x43 x42 x41 x40 w_
    rintro ⟨h0_, h1_, h2_, h3_, h4_, ⟨S2, hleR, e2, hI⟩⟩
    obtain rfl := h3_ d3_0
    refine r_not ?_
    exact ⟨h0_, h1_, h2_, h3_, fun _ => rfl, ⟨S2, hleR, e2, hI⟩⟩
  intro D d4_ d3_ d2_ d1_ d0_ x44 x43 x42 x41 x40 w_
  rintro ⟨h0_, h1_, h2_, h3_, h4_, ⟨S2, hleR, e2, hI⟩⟩
  obtain rfl := h4_ d4_
  obtain rfl := h3_ d3_
  have g2_ := h2_ d2_
  obtain rfl := h1_ d1_
  obtain rfl := h0_ d0_
  clear h0_ h1_ h2_ h3_ h4_
  clear e2
  refine condV (fun hb => by cases hb) (fun _ => ?_)
  exact doneS hI (hle.trans hleR) rfl
end

end Go.Proofs.Ytnoieadimkgjcaa

/- FnExactRenumberClause returns true, whatever clause comes in. -/
namespace Go.Proofs.Ytnoieadimkgjcaa
open Go Go.RowKit
section
attribute [local irreducible] Run CondV GuardV LoadV
theorem numB_w (c : C) : wC (numB c) ≤ wC c := by
  unfold numB
  split
  · rw [wC_num]; exact Nat.le_refl _
  · have : wC ⟨⟨0, 0, ⟨#[]⟩, []⟩, []⟩ = 0 := by rfl
    omega
theorem lawRen_calls {c : C} {S : Store} {cs : List Value} (h : RdC S cs c) : Pure Try.prog n_l_FnExactRenumberClause [.agg cs.toArray] S (.bool true) := by
  intro w hI
  have hlc := h.length
  refine calls_l_FnExactRenumberClause ?_
  unfold sh_l_FnExactRenumberClause
  refine r_box hI fun b1 w' hI => ?_
  have hI : Inv w [] [.blk b1 (.cells cs.toArray t_lClause)] S w' := hI
  refine r_loadW hI 0 ag_lClause rfl (by simpa using hlc) ?_
  refine Run.callPure fn_l_szClause nm_l_szClause hI (szClause_calls h (by omega) (by omega)) fun w' hI => ?_
  refine r_lss ?_
  refine condP (fun _ => done hI rfl) (fun hsz => ?_)
  have hw := sz_wC (c := c) (left := 1048576) (by omega) (by omega)
  have hle0 := (szC_le c 1048576 (by omega)).2
  have hw : wC c ≤ 1048576 := by omega
  have hq1 := cntH_wC c
  have hq2 := cntH_pos c
  have hr1 := cntH_wC (numB c)
  have hr2 := cntH_pos (numB c)
  have hr3 := numB_w c
  generalize hl : numB c = r at hr1 hr2 hr3
  generalize hok : clauseB c = ok
  have hs : ∀ {S : Store} {cs : List Value}, RdC S cs c → Tri Try.prog n_s_RenumberClause [.agg cs.toArray] [] S (PostRB r ok) := fun a => by rw [← hl, ← hok]; exact s_RenumberClause_calls a hw
  have hi : ∀ {S : Store} {cs : List Value}, RdC S cs c → Tri Try.prog n_i_RenumberClause [.agg cs.toArray] [] S (PostOB r ok) := fun a => by rw [← hl, ← hok]; exact i_RenumberClause_calls a hw
  refine r_loadW hI 0 ag_lClause rfl (by simpa using hlc) ?_
  refine Run.toClause hI h hw fun vs S1 w' hle1 h1 hI => ?_
  refine Run.call0 fn_s_RenumberClause nm_s_RenumberClause hI (hs h1) fun v' I' S2 w' => ?_
  rintro ⟨rfl, ds, rfl, h2⟩ hle2 hI
  have hle := hle1.trans hle2
  refine r_extract rfl ?_
  refine r_extract rfl ?_
  refine r_alloc hI zo_iClause fun b4 w' hI => ?_
  refine r_storeW hI 1 rfl ag_iClause (by simpa using h2.length) rfl (by simpa using h2.one) fun w' hI => ?_
  have hI : Inv w [] [.blk b1 (.cells cs.toArray t_lClause), .blk b4 (.cells ds.toArray t_iClause)] S2 w' := hI
  refine r_loadW hI 0 ag_lClause rfl (by simpa using hlc) ?_
  refine Run.toClause1M hI (h.mono hle) hw fun es M S3 w' hle3 h3 hT hI hback => ?_
  refine r_alloc hI zo_iClause fun b6 w' hI => ?_
  refine r_storeW hI 2 rfl ag_iClause (by simpa using h3.length) rfl (by simpa using h3.one) fun w' hI => ?_
  have hI : Inv w [] [.blk b1 (.cells cs.toArray t_lClause), .blk b4 (.cells ds.toArray t_iClause), .blk b6 (.cells es.toArray t_iClause)] S3 w' := hI
  refine r_loadW hI 2 ag_iClause rfl (by simpa using h3.length) ?_
  refine Run.call0 fn_i_RenumberClause nm_i_RenumberClause hI (hi h3) fun v4 I' S4 w' => ?_
  rintro ⟨gs, G, rfl, rfl, hG⟩ hle4 hI
  have hlg := hG.length
  refine r_extract rfl ?_
  refine r_extract rfl ?_
  refine r_alloc hI zo_iClause fun b7 w' hI => ?_
  have hI := hI.perm (M := [.blk b1 (.cells cs.toArray t_lClause), .blk b4 (.cells ds.toArray t_iClause), .blk b6 (.cells es.toArray t_iClause), .blk b7 (.cells #[.int .i64 0, .int .i64 0, .string ⟨#[]⟩, .slice none 0 0, .slice none 0 0] t_iClause)] ++ blks G) (by
    rw [List.append_assoc]
    exact (((List.perm_append_comm (l₁ := [_]) (l₂ := blks G)).cons _).cons _).cons _)
  refine r_storeW hI 3 rfl ag_iClause (by simpa using hlg) rfl (by simpa using hG.one) fun w' hI => ?_
  have hI : Inv w [] ([.blk b1 (.cells cs.toArray t_lClause), .blk b4 (.cells ds.toArray t_iClause), .blk b6 (.cells es.toArray t_iClause), .blk b7 (.cells gs.toArray t_iClause)] ++ blks G) S4 w' := hI
  have h24 := h2.mono (hle3.trans hle4)
  refine ⟨fun t w' => t = .bool false ∧ Inv w [] ([.blk b1 (.cells cs.toArray t_lClause), .blk b4 (.cells ds.toArray t_iClause), .blk b6 (.cells es.toArray t_iClause), .blk b7 (.cells gs.toArray t_iClause)] ++ blks G) S4 w', ?_, ?_⟩
  · refine r_loadW hI 3 ag_iClause rfl (by simpa using hlg) ?_
    refine r_loadW hI 1 ag_iClause rfl (by simpa using h2.length) ?_
    refine Run.eqTree1 hI hG h24 fun w' hI => ?_
    refine r_not ?_
    repeat (first | refine guard_true ?_ | refine guard_ne (by decide) ?_ | refine guard_undef ?_ | refine r_pickT ?_ | refine r_pickF ?_)
    refine r_bneq un_bool ?_
    repeat (first | refine guard_true ?_ | refine guard_ne (by decide) ?_ | refine guard_undef ?_ | refine r_pickT ?_ | refine r_pickF ?_)
    exact ⟨by simp, hI⟩
  intro t _ _ _ _ _ _ _ _ w'
  rintro ⟨rfl, hI⟩
  refine condV (fun hb => by cases hb) (fun _ => ?_)
  refine ⟨fun D x45 x44 x43 x42 x41 w_ => (D 0 = true → x41 = .agg es.toArray) ∧ (D 1 = true → x42 = .agg cs.toArray) ∧ (D 2 = true → True) ∧ (D 3 = true → x44 = .bool true) ∧ (D 4 = true → x45 = .bool false) ∧ ∃ S5, Sle S4 S5 ∧ (D 2 = true → IsCl S5 c x43) ∧ Inv w [] ([.blk b1 (.cells cs.toArray t_lClause), .blk b4 (.cells ds.toArray t_iClause), .blk b6 (.cells es.toArray t_iClause), .blk b7 (.cells gs.toArray t_iClause)] ++ blks G) S5 w_, ⟨fun h => Bool.noConfusion h, fun h => Bool.noConfusion h, fun h => Bool.noConfusion h, fun h => Bool.noConfusion h, fun h => Bool.noConfusion h, ⟨S4, Sle.refl _, fun h => Bool.noConfusion h, hI.draw⟩⟩, ⟨?_, ?_, ?_, ?_, ?_, trivial⟩, ?_⟩
  · intro D hD_  x45 x44 x43 x42 x41 w_
    rintro ⟨h0_, h1_, h2_, h3_, h4_, ⟨S5, hleR, e2, hI⟩⟩
    refine r_loadW hI 2 ag_iClause rfl (by simpa using h3.length) ?_
    exact ⟨fun _ => rfl, h1_, h2_, h3_, h4_, ⟨S5, hleR, e2, hI⟩⟩
  · intro D hD_  x45 x44 x43 x42 x41 w_
    rintro ⟨h0_, h1_, h2_, h3_, h4_, ⟨S5, hleR, e2, hI⟩⟩
    refine r_loadW hI 0 ag_lClause rfl (by simpa using hlc) ?_
    exact ⟨h0_, fun _ => rfl, h2_, h3_, h4_, ⟨S5, hleR, e2, hI⟩⟩
  · intro D hD_ d1_0 x45 x44 x43 x42 x41 w_
    rintro ⟨h0_, h1_, h2_, h3_, h4_, ⟨S5, hleR, e2, hI⟩⟩
    obtain rfl := h1_ d1_0
    refine Run.toClause hI (h.mono ((hle.trans (hle3.trans hle4)).trans hleR)) hw fun cs1 S5 w_ hle1 h1 hI => ?_
    have hleR := hleR.trans hle1
    have e2 := fun (_ : setD D 2 2 = true) => (⟨cs1, rfl, h1⟩ : IsCl S5 c (.agg cs1.toArray))
    exact ⟨h0_, h1_, fun _ => by first | assumption | trivial, h3_, h4_, ⟨S5, hleR, e2, hI⟩⟩
  · intro D hD_ d0_0 d2_1 d2_2 x45 x44 x43 x42 x41 w_
    rintro ⟨h0_, h1_, h2_, h3_, h4_, ⟨S5, hleR, e2, hI⟩⟩
    obtain rfl := h0_ d0_0
    have g2_ := h2_ d2_1
    obtain ⟨q2, rfl, hq2⟩ := e2 d2_1
    refine Run.callPure fn_l_eqClause nm_l_eqClause hI (eqClause_calls (h3.mono (hle4.trans hleR)) hq2) fun w_ hI => ?_
    rw [(eqC_iff _ _).2 rfl]
    exact ⟨h0_, h1_, h2_, fun _ => rfl, h4_, ⟨S5, hleR, e2, hI⟩⟩
  · intro D hD_ d3_0 x45 x44 x43 x42 x41 w_
    rintro ⟨h0_, h1_, h2_, h3_, h4_, ⟨S5, hleR, e2, hI⟩⟩
    obtain rfl := h3_ d3_0
    refine r_not ?_
    exact ⟨h0_, h1_, h2_, h3_, fun _ => rfl, ⟨S5, hleR, e2, hI⟩⟩
  intro D d4_ d3_ d2_ d1_ d0_ x45 x44 x43 x42 x41 w_
  rintro ⟨h0_, h1_, h2_, h3_, h4_, ⟨S5, hleR, e2, hI⟩⟩
  obtain rfl := h4_ d4_
  obtain rfl := h3_ d3_
  have g2_ := h2_ d2_
  obtain rfl := h1_ d1_
  obtain rfl := h0_ d0_
  clear h0_ h1_ h2_ h3_ h4_
  clear e2
  refine condV (fun hb => by cases hb) (fun _ => ?_)
  refine r_loadW hI 2 ag_iClause rfl (by simpa using h3.length) ?_
  have hI := hback _ _ (hI.less (hle4.trans hleR))
  refine Run.markC1 hI hT (by omega) (by omega) fun M' w' _ hI => ?_
  have hI : Inv w [] ([.blk b1 (.cells cs.toArray t_lClause), .blk b4 (.cells ds.toArray t_iClause), .blk b6 (.cells es.toArray t_iClause), .blk b7 (.cells gs.toArray t_iClause)] ++ blks G) S2 w' := hI.sub (List.sublist_append_left _ _)
  refine ⟨fun t w' => t = .bool false ∧ Inv w [] ([.blk b1 (.cells cs.toArray t_lClause), .blk b4 (.cells ds.toArray t_iClause), .blk b6 (.cells es.toArray t_iClause), .blk b7 (.cells gs.toArray t_iClause)] ++ blks G) S2 w', ?_, ?_⟩
  · refine r_lss ?_
    rw [decide_eq_false (by omega)]
    repeat (first | refine guard_true ?_ | refine guard_ne (by decide) ?_ | refine guard_undef ?_ | refine r_pickT ?_ | refine r_pickF ?_)
    refine r_loadW hI 3 ag_iClause rfl (by simpa using hlg) ?_
    refine r_loadW hI 1 ag_iClause rfl (by simpa using h2.length) ?_
    refine Run.eqTree1 hI hG h2 fun w' hI => ?_
    refine r_not ?_
    repeat (first | refine guard_true ?_ | refine guard_ne (by decide) ?_ | refine guard_undef ?_ | refine r_pickT ?_ | refine r_pickF ?_)
    refine r_bneq un_bool ?_
    repeat (first | refine guard_true ?_ | refine guard_ne (by decide) ?_ | refine guard_undef ?_ | refine r_pickT ?_ | refine r_pickF ?_)
    exact ⟨by simp, hI⟩
  intro t _ _ _ _ _ _ _ _ _ _ _ _ w'
  rintro ⟨rfl, hI⟩
  refine condV (fun hb => by cases hb) (fun _ => ?_)
  refine r_loadW hI 3 ag_iClause rfl (by simpa using hlg) ?_
  refine Run.markC1 hI hG (by omega) (by omega) fun G' w' hG' hI => ?_
  refine r_loadW hI 3 ag_iClause rfl (by simpa using hlg) ?_
  refine Run.heldC1 hI hG' (by omega) (by omega) fun w' hI => ?_
  refine r_lss ?_
  refine condP (fun hb => by omega) (fun _ => ?_)
  refine r_neq ?_
  refine condV (fun hb => by simp at hb) (fun _ => ?_)
  refine r_loadW hI 0 ag_lClause rfl (by simpa using hlc) ?_
  refine Run.toClause hI (h.mono hle) hw fun fs S6 w' hle6 h6 hI => ?_
  refine Run.call0 fn_i_RenumberClause nm_i_RenumberClause hI (hi h6) fun v4 I' S7 w' => ?_
  rintro ⟨ks, N, rfl, rfl, hN⟩ hle7 hI
  obtain ⟨S8, hle8, hins, hI, _⟩ := Inv.lendAll N hI
  have hN := hN.rd hins
  refine r_extract rfl ?_
  refine r_extract rfl ?_
  refine r_alloc hI zo_iClause fun b12 w' hI => ?_
  have hI := hI.perm (M := .blk b12 (.cells #[.int .i64 0, .int .i64 0, .string ⟨#[]⟩, .slice none 0 0, .slice none 0 0] t_iClause) :: ([.blk b1 (.cells cs.toArray t_lClause), .blk b4 (.cells ds.toArray t_iClause), .blk b6 (.cells es.toArray t_iClause), .blk b7 (.cells gs.toArray t_iClause)] ++ blks G')) (List.perm_append_comm (l₁ := [_]) (l₂ := [_, _, _, _] ++ blks G'))
  refine r_storeW hI 0 rfl ag_iClause (by simpa using hN.length) rfl (by simpa using hN.one) fun w' hI => ?_
  have hI : Inv w [] ((.blk b12 (.cells ks.toArray t_iClause) :: [.blk b1 (.cells cs.toArray t_lClause), .blk b4 (.cells ds.toArray t_iClause), .blk b6 (.cells es.toArray t_iClause), .blk b7 (.cells gs.toArray t_iClause)]) ++ blks G') S8 w' := hI
  have hle9 := hle6.trans (hle7.trans hle8)
  refine ⟨fun t w' => t = .bool false ∧ Inv w [] ((.blk b12 (.cells ks.toArray t_iClause) :: [.blk b1 (.cells cs.toArray t_lClause), .blk b4 (.cells ds.toArray t_iClause), .blk b6 (.cells es.toArray t_iClause), .blk b7 (.cells gs.toArray t_iClause)]) ++ blks G') S8 w', ?_, ?_⟩
  · refine r_loadW hI 0 ag_iClause rfl (by simpa using hN.length) ?_
    refine r_loadW hI 2 ag_iClause rfl (by simpa using h2.length) ?_
    refine Run.callPure fn_l_eqClause nm_l_eqClause hI (eqClause_calls hN (h2.mono hle9)) fun w' hI => ?_
    rw [(eqC_iff r r).2 rfl]
    refine r_not ?_
    repeat (first | refine guard_true ?_ | refine guard_ne (by decide) ?_ | refine guard_undef ?_ | refine r_pickT ?_ | refine r_pickF ?_)
    refine r_bneq un_bool ?_
    repeat (first | refine guard_true ?_ | refine guard_ne (by decide) ?_ | refine guard_undef ?_ | refine r_pickT ?_ | refine r_pickF ?_)
    exact ⟨by simp, hI⟩
  intro t _ _ _ _ _ _ _ _ w'
  rintro ⟨rfl, hI⟩
  refine condV (fun hb => by cases hb) (fun _ => ?_)
  refine r_loadW hI 4 ag_iClause rfl (by simpa using hlg) ?_
  refine Run.heldC1 hI hG' (by omega) (by omega) fun w' hI => ?_
  refine r_lss ?_
  refine condP (fun hb => by omega) (fun _ => ?_)
  refine r_neq ?_
  exact condV (fun hb => by simp at hb) (fun _ => doneS hI (hle.trans hle9) rfl)
end

end Go.Proofs.Ytnoieadimkgjcaa

/- What every row of this seat owes beside its walk: the arguments read again as they did, and nothing that was there has turned. -/
namespace Go.Proofs.Ytnoieadimkgjcaa
open Go Go.ChangeShapes Go.WideShapes Go.ChangeAt Go.RowKit

theorem Try.own : ownKnob Try.prog.godebug = none := by kernel_rfl
theorem Try.kids : Kids Try.prog (· < Try.prog.types.size) := kids_rows (by kernel_rfl) (by kernel_rfl)
theorem Try.full : ∀ t e, t < Try.prog.types.size → Try.prog.underlying t = some (.slice e) → 0 < Try.prog.cellsOf e := slices_full_of Try.prog (by kernel_rfl)
section
variable {H : Type} {enc : TypeId × Value → H} {W W' : World}
theorem carryAll {P : Program} : ∀ {ts : List TypeId} {vs : List Value} {ds : List (DataW H)} {ps : List MemPlace}, DataW.TrodAll enc P W 0 (fun _ => true) true ts vs ds ps → (∀ p ∈ ps, W.sameAt W' p) →
    DataW.TrodAll enc P W' 0 (fun _ => true) true ts vs ds ps
  | [], [], [], _, h, _ => h
  | _ :: _, _ :: _, _ :: _, _, ⟨p, q, ⟨n, h1⟩, h2, e⟩, hs =>
    ⟨p, q, ⟨n, DataW.trod_carry n _ _ _ h1 fun x hx => hs x (by rw [e]; exact List.mem_append_left _ hx)⟩, carryAll h2 fun x hx => hs x (by rw [e]; exact List.mem_append_right _ hx), e⟩
theorem same_at {p : MemPlace} (h : ∀ b, b < W.heap.size → W'.heap[b]? = W.heap[b]?) (hp : p.block < W.heap.size) : W.sameAt W' p := by
  cases p with
  | cell b off => simp only [World.sameAt, World.cell?]; rw [h b hp]
  | map b => exact h b hp
/- a function of the program whose walk ends with 'true' and with all that was there as it was: the row's 'post' -/
theorem post_true {f : Func} {s : ChangeSpec} {args : Array Value} {ds gs : List (DataW H)} {before p q : List MemPlace}
    (hW : DataW.Whole enc Try.prog f.params.toList s.vars false W args.toList ds gs before) (hA : DataW.TrodAll enc Try.prog W 0 (fun _ => true) true f.params.toList args.toList ds p)
    (hV : DataW.TrodVars enc Try.prog W (fun _ => true) s.vars gs q) (hb : before = p ++ q) (hv : s.vars = []) (hts : ∀ t ∈ f.params.toList, t < Try.prog.types.size) (hr : f.resultTypes = #[t_bool])
    (hs : (s.fn H (ds ++ gs)).results = [.lit (.bool true)]) (ha : (s.fn H (ds ++ gs)).args = ds) (hsv : (s.fn H (ds ++ gs)).vars = []) (hI : Inv W [] [] (heapS W) W') :
    s.post enc Try.prog f false true false false W args (.bool true) W' := by
  have hsame : ∀ b, b < W.heap.size → W'.heap[b]? = W.heap[b]? := fun b hb => hI.same b hb
  have hlt := hW.lt
  rw [hv] at hV
  obtain ⟨hg, hq⟩ := trodVars_none hV
  subst hq
  rw [List.append_nil] at hb
  subst hb
  have hA' := carryAll (W' := W') hA fun x hx => same_at hsame (hlt x hx)
  refine ⟨ds, gs, before, [], before, [], hW, ?_, ?_, ?_, same_kept hI.os hI.output hsame, fun h => by cases h⟩
  · rw [hs, hr]
    exact trodAll_mk1 (shut_bool un_bool true)
  · rw [ha]
    exact DataW.TrodAll.respare Try.kids Try.full hts hA' fun x hx => by simpa using hlt x hx
  · rw [hv, hsv]
    rfl
end

end Go.Proofs.Ytnoieadimkgjcaa

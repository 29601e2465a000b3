/- FnCallsOf returns true, whatever bytes come in: the walk. (the region's rows printed by program) -/
import Derived.Test.YtmnnpgdeecnfpaaGreatZPc7
import Derived.Test.YtmnnpgdeecnfpaaGreatZPc1
namespace Go.Proofs.YtmnnpgdeecnfpaaGreat
open Go Go.RowKit
def mtB (y : Pd) (t : T) : Bool := decide (t.name = y.name) && decide ((t.kids.length : Int) = y.arity)
theorem calls_found {p : List C} {x y : Pd} (h : y ∈ callsOf p x) : (hasP (predsOf p) y || (unkP p).any (mtB y)) = true := by
  rcases callsOf_known h with h | ⟨hv, c, hc, t, ht, hp, rfl, hf⟩
  · rw [h, Bool.true_or]
  · rw [Bool.or_eq_true, List.any_eq_true]
    refine .inr ⟨t, ?_, by rw [mtB, predT]; simp⟩
    rw [unkP, if_pos hv, List.mem_flatMap]
    refine ⟨c, hc, List.mem_filter.2 ⟨ht, ?_⟩⟩
    rw [unkB, hp, forL, hf]
    rfl
theorem any_take {α : Type} (f : α → Bool) (l : List α) (k : Nat) (h : k < l.length) : (l.take (k + 1)).any f = ((l.take k).any f || f l[k]) := by
  rw [List.take_succ_eq_append_getElem h, List.any_append]
  simp
section
variable {S : Store} {ys : List Nat} {v : Value}
attribute [local irreducible] Run CondV GuardV LoadV
theorem lawPCalls_calls (h : RdSl S 1 RdU8 v ys) : Pure Tryz.prog n_l_FnCallsOf [v] S (.bool true) := by
  intro w hI
  refine calls_l_FnCallsOf ?_
  unfold sh_l_FnCallsOf
  refine r_lenSl h sl_Suint8 ?_
  refine r_gtr ?_
  refine condP (fun _ => done hI rfl) (fun _ => ?_)
  refine Run.call0E fn_s_DrawCallsOf nm_s_DrawCallsOf hI (DrawCallsOf_calls h) fun t10 I' S1 w' => ?_
  rintro ⟨rfl, p, q, x, rfl, hq, hl⟩ hE1 hI
  have hw := hl.fit
  refine r_extract (v := p) rfl ?_
  refine r_extract (v := .agg x.cells.toArray) rfl ?_
  refine r_alloc hI zo_iPred fun b4 w' hI => ?_
  have hI : Inv w [] [.blk b4 (.cells #[.string ⟨#[]⟩, .int .i64 0] t_iPred)] S1 w' := hI
  refine r_storeW hI 0 rfl ag_iPred rfl rfl (Pd.one _) fun w' hI => ?_
  have hI : Inv w [] [.blk b4 (.cells x.cells.toArray t_iPred)] S1 w' := hI
  refine r_loadW hI 0 ag_iPred rfl rfl ?_
  refine Run.pubRow (l := callsOf q x) fn_i_CallsOf nm_i_CallsOf hI (i_CallsOf_calls x hq hw) fun t21 S2 w' hle2 h2 hI => ?_
  refine r_loadW hI 0 ag_iPred rfl rfl ?_
  refine Run.pubRow (l := callsOf q x) fn_s_CallsOf nm_s_CallsOf hI (s_CallsOf_calls x (hq.monoC hle2) hw) fun t25 S3 w' hle3 h3 hI => ?_
  have h2 := h2.monoP hle3
  have hq := hq.monoC (hle2.trans hle3)
  refine Run.callPure fn_l_pgPreds nm_l_pgPreds hI (pgPreds_calls h2 h3) fun w' hI => ?_
  refine r_not ?_
  refine condV (fun hb => by cases hb) (fun _ => ?_)
  refine Run.pubRow (l := predsOf q) fn_i_PredsOf nm_i_PredsOf hI (i_PredsOf_calls hq hw) fun t29 S4 w' hle4 h4 hI => ?_
  refine Run.call0E fn_i_UnknownGoals nm_i_UnknownGoals hI (UnknownGoals_calls (hq.monoC hle4) hw) fun t31 I' S5 w' => ?_
  rintro ⟨rfl, h5⟩ hE5 hI
  have h2 := h2.monoP (hle4.trans hE5.1)
  have h4 := h4.monoP hE5.1
  have hle := ((hE1.1.trans hle2).trans hle3).trans (hle4.trans hE5.1)
  obtain ⟨B4, hB4⟩ : ∃ B4, B4 = Item.blk b4 (.cells x.cells.toArray t_iPred) := ⟨_, rfl⟩
  have hI : Inv w [] [B4] S5 w' := by rw [hB4]; exact hI
  have hll := h2.le
  have hul := h5.le
  simp only [maxLen] at hll hul
  refine ⟨fun i w' => ∃ k : Nat, k ≤ (callsOf q x).length ∧ i = .int .i64 k ∧ Inv w [] [B4] S5 w', fun i _ => (callsOf q x).length - (intOf i).toNat, ⟨0, Nat.zero_le _, rfl, hI⟩, ?_⟩
  intro t8 _ _ _ _ _ _ _ _ _ _ _ _ _ _ _ _ _ _ _ _ _ _ _ _ _ _ _ _ _ _ _ _ _ _ _ _ _ _ _ _ _ _ _ _ _ _ _ _ _ _ _ w'
  rintro ⟨k, hk, rfl, hI⟩
  refine r_lenSl h2 sl_SiPred ?_
  refine r_lss ?_
  refine condP (fun hki => ?_) (fun hki => ?_)
  · have hk' : k < (callsOf q x).length := by omega
    have hfound := calls_found (List.getElem_mem hk')
    refine r_elem hI h2 sl_SiPred ag_iPred hk' (fun cs x hx => by rw [hx]; rfl) fun cs hcs => ?_
    have hcs : cs = Pd.cells _ := hcs
    subst hcs
    refine Run.callPure fn_l_pgPred nm_l_pgPred hI (pgPred_calls _ h4) fun w' hI => ?_
    refine ⟨fun i f w' => ∃ (j : Nat) (c : Bool), j ≤ (unkP q).length ∧ i = .int .i64 j ∧ f = .bool c ∧ c = (hasP (predsOf q) (callsOf q x)[k] || ((unkP q).take j).any (mtB (callsOf q x)[k])) ∧ Inv w [] [B4] S5 w', fun i _ _ => (unkP q).length - (intOf i).toNat,
      ⟨0, _, Nat.zero_le _, rfl, rfl, by simp, hI⟩, ?_⟩
    intro t10 _ _ t9 _ _ _ _ _ _ _ _ _ _ _ _ _ _ _ _ _ _ _ _ _ _ _ _ _ _ _ _ _ _ _ _ w'
    rintro ⟨j, c, hj, rfl, rfl, hc, hI⟩
    refine r_lenSl h5 sl_SiTerm ?_
    refine r_lss ?_
    refine condP (fun hji => ?_) (fun hji => ?_)
    · have hj' : j < (unkP q).length := by omega
      have hnext := any_take (mtB (callsOf q x)[k]) (unkP q) j hj'
      have hJ := hI
      obtain ⟨b, o, cap, c1, E, fz, rfl, hS, hR⟩ := h2.at_ hk'
      have hR1 : cellsAt c1 (o + k * 2) 2 = [.string (callsOf q x)[k].name, .int .i64 (callsOf q x)[k].arity] := hR
      obtain ⟨b2, o2, cap2, c2, E2, fz2, rfl, hS2, hR2⟩ := h5.at_ hj'
      have hI := hJ
      obtain ⟨kv2, he, _, _, _, a2, m2, rfl, _⟩ := RdT.iff.1 hR2
      cases c
      · cases hnm : decide ((unkP q)[j].name = (callsOf q x)[k].name)
        · have hI := hJ
          refine ⟨fun D x9 x77 x76 x75 x74 x73 x72 x71 x70 x69 x68 x67 x66 x65 x64 x63 x62 x61 x60 x59 x58 x57 x56 x55 x54 x53 x52 x51 x50 w_ => (D 0 = true → x50 = .bool false) ∧ (D 1 = true → x51 = .bool false) ∧ (D 2 = true → x52 = .slice (some ⟨b2, o2, none⟩) (unkP q).length cap2) ∧ (D 3 = true → x53 = .int .i64 j) ∧ (D 4 = true → x54 = .pointer (some ⟨b2, o2 + j * 4, none⟩)) ∧ (D 5 = true → x55 = .pointer (some ⟨b2, o2 + j * 4 + 2, none⟩)) ∧ (D 6 = true → x56 = .string (unkP q)[j].name) ∧ (D 7 = true → x57 = .slice (some ⟨b, o, none⟩) (callsOf q x).length cap) ∧ (D 8 = true → x58 = .int .i64 k) ∧ (D 9 = true → x59 = .pointer (some ⟨b, o + k * 2, none⟩)) ∧ (D 10 = true → x60 = .pointer (some ⟨b, o + k * 2 + 0, none⟩)) ∧ (D 11 = true → x61 = .string (callsOf q x)[k].name) ∧ (D 12 = true → x62 = .bool false) ∧ (D 13 = true → x63 = .bool false) ∧ (D 14 = true → x64 = undef) ∧ (D 15 = true → x65 = undef) ∧ (D 16 = true → x66 = undef) ∧ (D 17 = true → x67 = undef) ∧ (D 18 = true → x68 = undef) ∧ (D 19 = true → x69 = undef) ∧ (D 20 = true → x70 = undef) ∧ (D 21 = true → x71 = undef) ∧ (D 22 = true → x72 = undef) ∧ (D 23 = true → x73 = undef) ∧ (D 24 = true → x74 = undef) ∧ (D 25 = true → x75 = undef) ∧ (D 26 = true → x76 = .bool false) ∧ (D 27 = true → x77 = .bool false) ∧ (D 28 = true → x9 = .bool false) ∧ (D 28 = true → D 0 = true) ∧ (D 28 = false → x9 = .bool false) ∧ Inv w [] [B4] S5 w_, ⟨fun h => Bool.noConfusion h, fun h => Bool.noConfusion h, fun h => Bool.noConfusion h, fun h => Bool.noConfusion h, fun h => Bool.noConfusion h, fun h => Bool.noConfusion h, fun h => Bool.noConfusion h, fun h => Bool.noConfusion h, fun h => Bool.noConfusion h, fun h => Bool.noConfusion h, fun h => Bool.noConfusion h, fun h => Bool.noConfusion h, fun h => Bool.noConfusion h, fun h => Bool.noConfusion h, fun h => Bool.noConfusion h, fun h => Bool.noConfusion h, fun h => Bool.noConfusion h, fun h => Bool.noConfusion h, fun h => Bool.noConfusion h, fun h => Bool.noConfusion h, fun h => Bool.noConfusion h, fun h => Bool.noConfusion h, fun h => Bool.noConfusion h, fun h => Bool.noConfusion h, fun h => Bool.noConfusion h, fun h => Bool.noConfusion h, fun h => Bool.noConfusion h, fun h => Bool.noConfusion h, fun h => Bool.noConfusion h, ⟨fun h => Bool.noConfusion h, fun _ => rfl, hI.draw⟩⟩, ⟨?_, ?_, ?_, ?_, ?_, ?_, ?_, ?_, ?_, ?_, ?_, ?_, ?_, ?_, ?_, ?_, ?_, ?_, ?_, ?_, ?_, ?_, ?_, ?_, ?_, ?_, ?_, ?_, ?_, trivial⟩, ?_⟩
          · intro D hD_  x9 x77 x76 x75 x74 x73 x72 x71 x70 x69 x68 x67 x66 x65 x64 x63 x62 x61 x60 x59 x58 x57 x56 x55 x54 x53 x52 x51 x50 w_
            rintro ⟨h0_, h1_, h2_, h3_, h4_, h5_, h6_, h7_, h8_, h9_, h10_, h11_, h12_, h13_, h14_, h15_, h16_, h17_, h18_, h19_, h20_, h21_, h22_, h23_, h24_, h25_, h26_, h27_, h28_, ⟨k28, hx9, hI⟩⟩
            have f28 : D 28 = false := Bool.eq_false_iff.2 fun h => by rw [k28 h] at hD_; cases hD_
            obtain rfl := hx9 f28
            have k28 := fun (_ : setD D 0 28 = true) => (rfl : setD D 0 0 = true)
            exact ⟨fun _ => rfl, h1_, h2_, h3_, h4_, h5_, h6_, h7_, h8_, h9_, h10_, h11_, h12_, h13_, h14_, h15_, h16_, h17_, h18_, h19_, h20_, h21_, h22_, h23_, h24_, h25_, h26_, h27_, h28_, ⟨k28, hx9, hI⟩⟩
          · intro D hD_ d0_0 x9 x77 x76 x75 x74 x73 x72 x71 x70 x69 x68 x67 x66 x65 x64 x63 x62 x61 x60 x59 x58 x57 x56 x55 x54 x53 x52 x51 x50 w_
            rintro ⟨h0_, h1_, h2_, h3_, h4_, h5_, h6_, h7_, h8_, h9_, h10_, h11_, h12_, h13_, h14_, h15_, h16_, h17_, h18_, h19_, h20_, h21_, h22_, h23_, h24_, h25_, h26_, h27_, h28_, ⟨k28, hx9, hI⟩⟩
            obtain rfl := h0_ d0_0
            exact ⟨h0_, fun _ => rfl, h2_, h3_, h4_, h5_, h6_, h7_, h8_, h9_, h10_, h11_, h12_, h13_, h14_, h15_, h16_, h17_, h18_, h19_, h20_, h21_, h22_, h23_, h24_, h25_, h26_, h27_, h28_, ⟨k28, hx9, hI⟩⟩
          · intro D hD_ d1_0 x9 x77 x76 x75 x74 x73 x72 x71 x70 x69 x68 x67 x66 x65 x64 x63 x62 x61 x60 x59 x58 x57 x56 x55 x54 x53 x52 x51 x50 w_
            rintro ⟨h0_, h1_, h2_, h3_, h4_, h5_, h6_, h7_, h8_, h9_, h10_, h11_, h12_, h13_, h14_, h15_, h16_, h17_, h18_, h19_, h20_, h21_, h22_, h23_, h24_, h25_, h26_, h27_, h28_, ⟨k28, hx9, hI⟩⟩
            obtain rfl := h1_ d1_0
            refine guard_true (b := false) ?_
            exact ⟨h0_, h1_, fun _ => rfl, h3_, h4_, h5_, h6_, h7_, h8_, h9_, h10_, h11_, h12_, h13_, h14_, h15_, h16_, h17_, h18_, h19_, h20_, h21_, h22_, h23_, h24_, h25_, h26_, h27_, h28_, ⟨k28, hx9, hI⟩⟩
          · intro D hD_ d1_0 x9 x77 x76 x75 x74 x73 x72 x71 x70 x69 x68 x67 x66 x65 x64 x63 x62 x61 x60 x59 x58 x57 x56 x55 x54 x53 x52 x51 x50 w_
            rintro ⟨h0_, h1_, h2_, h3_, h4_, h5_, h6_, h7_, h8_, h9_, h10_, h11_, h12_, h13_, h14_, h15_, h16_, h17_, h18_, h19_, h20_, h21_, h22_, h23_, h24_, h25_, h26_, h27_, h28_, ⟨k28, hx9, hI⟩⟩
            obtain rfl := h1_ d1_0
            refine guard_true (b := false) ?_
            exact ⟨h0_, h1_, h2_, fun _ => rfl, h4_, h5_, h6_, h7_, h8_, h9_, h10_, h11_, h12_, h13_, h14_, h15_, h16_, h17_, h18_, h19_, h20_, h21_, h22_, h23_, h24_, h25_, h26_, h27_, h28_, ⟨k28, hx9, hI⟩⟩
          · intro D hD_ d2_0 d3_1 d1_2 x9 x77 x76 x75 x74 x73 x72 x71 x70 x69 x68 x67 x66 x65 x64 x63 x62 x61 x60 x59 x58 x57 x56 x55 x54 x53 x52 x51 x50 w_
            rintro ⟨h0_, h1_, h2_, h3_, h4_, h5_, h6_, h7_, h8_, h9_, h10_, h11_, h12_, h13_, h14_, h15_, h16_, h17_, h18_, h19_, h20_, h21_, h22_, h23_, h24_, h25_, h26_, h27_, h28_, ⟨k28, hx9, hI⟩⟩
            obtain rfl := h2_ d2_0
            obtain rfl := h3_ d3_1
            obtain rfl := h1_ d1_2
            refine guard_true (b := false) ?_
            refine r_indexAddr sl_SiTerm hj' ?_
            exact ⟨h0_, h1_, h2_, h3_, fun _ => rfl, h5_, h6_, h7_, h8_, h9_, h10_, h11_, h12_, h13_, h14_, h15_, h16_, h17_, h18_, h19_, h20_, h21_, h22_, h23_, h24_, h25_, h26_, h27_, h28_, ⟨k28, hx9, hI⟩⟩
          · intro D hD_ d4_0 d1_1 x9 x77 x76 x75 x74 x73 x72 x71 x70 x69 x68 x67 x66 x65 x64 x63 x62 x61 x60 x59 x58 x57 x56 x55 x54 x53 x52 x51 x50 w_
            rintro ⟨h0_, h1_, h2_, h3_, h4_, h5_, h6_, h7_, h8_, h9_, h10_, h11_, h12_, h13_, h14_, h15_, h16_, h17_, h18_, h19_, h20_, h21_, h22_, h23_, h24_, h25_, h26_, h27_, h28_, ⟨k28, hx9, hI⟩⟩
            obtain rfl := h4_ d4_0
            obtain rfl := h1_ d1_1
            refine guard_true (b := false) ?_
            refine r_field fo_iTerm_2 ?_
            exact ⟨h0_, h1_, h2_, h3_, h4_, fun _ => rfl, h6_, h7_, h8_, h9_, h10_, h11_, h12_, h13_, h14_, h15_, h16_, h17_, h18_, h19_, h20_, h21_, h22_, h23_, h24_, h25_, h26_, h27_, h28_, ⟨k28, hx9, hI⟩⟩
          · intro D hD_ d5_0 d1_1 x9 x77 x76 x75 x74 x73 x72 x71 x70 x69 x68 x67 x66 x65 x64 x63 x62 x61 x60 x59 x58 x57 x56 x55 x54 x53 x52 x51 x50 w_
            rintro ⟨h0_, h1_, h2_, h3_, h4_, h5_, h6_, h7_, h8_, h9_, h10_, h11_, h12_, h13_, h14_, h15_, h16_, h17_, h18_, h19_, h20_, h21_, h22_, h23_, h24_, h25_, h26_, h27_, h28_, ⟨k28, hx9, hI⟩⟩
            obtain rfl := h5_ d5_0
            obtain rfl := h1_ d1_1
            refine guard_true (b := false) ?_
            refine r_load sc_string (by rw [hI.cellS hS2]; exact cellsAt_get he 2 _ rfl) ?_
            exact ⟨h0_, h1_, h2_, h3_, h4_, h5_, fun _ => rfl, h7_, h8_, h9_, h10_, h11_, h12_, h13_, h14_, h15_, h16_, h17_, h18_, h19_, h20_, h21_, h22_, h23_, h24_, h25_, h26_, h27_, h28_, ⟨k28, hx9, hI⟩⟩
          · intro D hD_ d1_0 x9 x77 x76 x75 x74 x73 x72 x71 x70 x69 x68 x67 x66 x65 x64 x63 x62 x61 x60 x59 x58 x57 x56 x55 x54 x53 x52 x51 x50 w_
            rintro ⟨h0_, h1_, h2_, h3_, h4_, h5_, h6_, h7_, h8_, h9_, h10_, h11_, h12_, h13_, h14_, h15_, h16_, h17_, h18_, h19_, h20_, h21_, h22_, h23_, h24_, h25_, h26_, h27_, h28_, ⟨k28, hx9, hI⟩⟩
            obtain rfl := h1_ d1_0
            refine guard_true (b := false) ?_
            exact ⟨h0_, h1_, h2_, h3_, h4_, h5_, h6_, fun _ => rfl, h8_, h9_, h10_, h11_, h12_, h13_, h14_, h15_, h16_, h17_, h18_, h19_, h20_, h21_, h22_, h23_, h24_, h25_, h26_, h27_, h28_, ⟨k28, hx9, hI⟩⟩
          · intro D hD_ d1_0 x9 x77 x76 x75 x74 x73 x72 x71 x70 x69 x68 x67 x66 x65 x64 x63 x62 x61 x60 x59 x58 x57 x56 x55 x54 x53 x52 x51 x50 w_
            rintro ⟨h0_, h1_, h2_, h3_, h4_, h5_, h6_, h7_, h8_, h9_, h10_, h11_, h12_, h13_, h14_, h15_, h16_, h17_, h18_, h19_, h20_, h21_, h22_, h23_, h24_, h25_, h26_, h27_, h28_, ⟨k28, hx9, hI⟩⟩
            obtain rfl := h1_ d1_0
            refine guard_true (b := false) ?_
            exact ⟨h0_, h1_, h2_, h3_, h4_, h5_, h6_, h7_, fun _ => rfl, h9_, h10_, h11_, h12_, h13_, h14_, h15_, h16_, h17_, h18_, h19_, h20_, h21_, h22_, h23_, h24_, h25_, h26_, h27_, h28_, ⟨k28, hx9, hI⟩⟩
          · intro D hD_ d7_0 d8_1 d1_2 x9 x77 x76 x75 x74 x73 x72 x71 x70 x69 x68 x67 x66 x65 x64 x63 x62 x61 x60 x59 x58 x57 x56 x55 x54 x53 x52 x51 x50 w_
            rintro ⟨h0_, h1_, h2_, h3_, h4_, h5_, h6_, h7_, h8_, h9_, h10_, h11_, h12_, h13_, h14_, h15_, h16_, h17_, h18_, h19_, h20_, h21_, h22_, h23_, h24_, h25_, h26_, h27_, h28_, ⟨k28, hx9, hI⟩⟩
            obtain rfl := h7_ d7_0
            obtain rfl := h8_ d8_1
            obtain rfl := h1_ d1_2
            refine guard_true (b := false) ?_
            refine r_indexAddr sl_SiPred hk' ?_
            exact ⟨h0_, h1_, h2_, h3_, h4_, h5_, h6_, h7_, h8_, fun _ => rfl, h10_, h11_, h12_, h13_, h14_, h15_, h16_, h17_, h18_, h19_, h20_, h21_, h22_, h23_, h24_, h25_, h26_, h27_, h28_, ⟨k28, hx9, hI⟩⟩
          · intro D hD_ d9_0 d1_1 x9 x77 x76 x75 x74 x73 x72 x71 x70 x69 x68 x67 x66 x65 x64 x63 x62 x61 x60 x59 x58 x57 x56 x55 x54 x53 x52 x51 x50 w_
            rintro ⟨h0_, h1_, h2_, h3_, h4_, h5_, h6_, h7_, h8_, h9_, h10_, h11_, h12_, h13_, h14_, h15_, h16_, h17_, h18_, h19_, h20_, h21_, h22_, h23_, h24_, h25_, h26_, h27_, h28_, ⟨k28, hx9, hI⟩⟩
            obtain rfl := h9_ d9_0
            obtain rfl := h1_ d1_1
            refine guard_true (b := false) ?_
            refine r_field fo_iPred_0 ?_
            exact ⟨h0_, h1_, h2_, h3_, h4_, h5_, h6_, h7_, h8_, h9_, fun _ => rfl, h11_, h12_, h13_, h14_, h15_, h16_, h17_, h18_, h19_, h20_, h21_, h22_, h23_, h24_, h25_, h26_, h27_, h28_, ⟨k28, hx9, hI⟩⟩
          · intro D hD_ d10_0 d1_1 x9 x77 x76 x75 x74 x73 x72 x71 x70 x69 x68 x67 x66 x65 x64 x63 x62 x61 x60 x59 x58 x57 x56 x55 x54 x53 x52 x51 x50 w_
            rintro ⟨h0_, h1_, h2_, h3_, h4_, h5_, h6_, h7_, h8_, h9_, h10_, h11_, h12_, h13_, h14_, h15_, h16_, h17_, h18_, h19_, h20_, h21_, h22_, h23_, h24_, h25_, h26_, h27_, h28_, ⟨k28, hx9, hI⟩⟩
            obtain rfl := h10_ d10_0
            obtain rfl := h1_ d1_1
            refine guard_true (b := false) ?_
            refine r_load sc_string (by rw [hI.cellS hS]; exact cellsAt_get hR1 0 _ rfl) ?_
            exact ⟨h0_, h1_, h2_, h3_, h4_, h5_, h6_, h7_, h8_, h9_, h10_, fun _ => rfl, h12_, h13_, h14_, h15_, h16_, h17_, h18_, h19_, h20_, h21_, h22_, h23_, h24_, h25_, h26_, h27_, h28_, ⟨k28, hx9, hI⟩⟩
          · intro D hD_ d6_0 d11_1 d1_2 x9 x77 x76 x75 x74 x73 x72 x71 x70 x69 x68 x67 x66 x65 x64 x63 x62 x61 x60 x59 x58 x57 x56 x55 x54 x53 x52 x51 x50 w_
            rintro ⟨h0_, h1_, h2_, h3_, h4_, h5_, h6_, h7_, h8_, h9_, h10_, h11_, h12_, h13_, h14_, h15_, h16_, h17_, h18_, h19_, h20_, h21_, h22_, h23_, h24_, h25_, h26_, h27_, h28_, ⟨k28, hx9, hI⟩⟩
            obtain rfl := h6_ d6_0
            obtain rfl := h11_ d11_1
            obtain rfl := h1_ d1_2
            refine guard_true (b := false) ?_
            refine r_seql ?_
            rw [hnm]
            exact ⟨h0_, h1_, h2_, h3_, h4_, h5_, h6_, h7_, h8_, h9_, h10_, h11_, fun _ => rfl, h13_, h14_, h15_, h16_, h17_, h18_, h19_, h20_, h21_, h22_, h23_, h24_, h25_, h26_, h27_, h28_, ⟨k28, hx9, hI⟩⟩
          · intro D hD_ d12_0 d1_1 d1_2 x9 x77 x76 x75 x74 x73 x72 x71 x70 x69 x68 x67 x66 x65 x64 x63 x62 x61 x60 x59 x58 x57 x56 x55 x54 x53 x52 x51 x50 w_
            rintro ⟨h0_, h1_, h2_, h3_, h4_, h5_, h6_, h7_, h8_, h9_, h10_, h11_, h12_, h13_, h14_, h15_, h16_, h17_, h18_, h19_, h20_, h21_, h22_, h23_, h24_, h25_, h26_, h27_, h28_, ⟨k28, hx9, hI⟩⟩
            obtain rfl := h12_ d12_0
            obtain rfl := h1_ d1_1
            refine guard_true (b := false) ?_
            exact ⟨h0_, h1_, h2_, h3_, h4_, h5_, h6_, h7_, h8_, h9_, h10_, h11_, h12_, fun _ => rfl, h14_, h15_, h16_, h17_, h18_, h19_, h20_, h21_, h22_, h23_, h24_, h25_, h26_, h27_, h28_, ⟨k28, hx9, hI⟩⟩
          · intro D hD_ d13_0 x9 x77 x76 x75 x74 x73 x72 x71 x70 x69 x68 x67 x66 x65 x64 x63 x62 x61 x60 x59 x58 x57 x56 x55 x54 x53 x52 x51 x50 w_
            rintro ⟨h0_, h1_, h2_, h3_, h4_, h5_, h6_, h7_, h8_, h9_, h10_, h11_, h12_, h13_, h14_, h15_, h16_, h17_, h18_, h19_, h20_, h21_, h22_, h23_, h24_, h25_, h26_, h27_, h28_, ⟨k28, hx9, hI⟩⟩
            obtain rfl := h13_ d13_0
            refine guard_ne (by decide) ?_
            exact ⟨h0_, h1_, h2_, h3_, h4_, h5_, h6_, h7_, h8_, h9_, h10_, h11_, h12_, h13_, fun _ => rfl, h15_, h16_, h17_, h18_, h19_, h20_, h21_, h22_, h23_, h24_, h25_, h26_, h27_, h28_, ⟨k28, hx9, hI⟩⟩
          · intro D hD_ d13_0 x9 x77 x76 x75 x74 x73 x72 x71 x70 x69 x68 x67 x66 x65 x64 x63 x62 x61 x60 x59 x58 x57 x56 x55 x54 x53 x52 x51 x50 w_
            rintro ⟨h0_, h1_, h2_, h3_, h4_, h5_, h6_, h7_, h8_, h9_, h10_, h11_, h12_, h13_, h14_, h15_, h16_, h17_, h18_, h19_, h20_, h21_, h22_, h23_, h24_, h25_, h26_, h27_, h28_, ⟨k28, hx9, hI⟩⟩
            obtain rfl := h13_ d13_0
            refine guard_ne (by decide) ?_
            exact ⟨h0_, h1_, h2_, h3_, h4_, h5_, h6_, h7_, h8_, h9_, h10_, h11_, h12_, h13_, h14_, fun _ => rfl, h16_, h17_, h18_, h19_, h20_, h21_, h22_, h23_, h24_, h25_, h26_, h27_, h28_, ⟨k28, hx9, hI⟩⟩
          · intro D hD_ d14_0 d15_1 d13_2 x9 x77 x76 x75 x74 x73 x72 x71 x70 x69 x68 x67 x66 x65 x64 x63 x62 x61 x60 x59 x58 x57 x56 x55 x54 x53 x52 x51 x50 w_
            rintro ⟨h0_, h1_, h2_, h3_, h4_, h5_, h6_, h7_, h8_, h9_, h10_, h11_, h12_, h13_, h14_, h15_, h16_, h17_, h18_, h19_, h20_, h21_, h22_, h23_, h24_, h25_, h26_, h27_, h28_, ⟨k28, hx9, hI⟩⟩
            obtain rfl := h14_ d14_0
            obtain rfl := h15_ d15_1
            obtain rfl := h13_ d13_2
            refine guard_ne (by decide) ?_
            exact ⟨h0_, h1_, h2_, h3_, h4_, h5_, h6_, h7_, h8_, h9_, h10_, h11_, h12_, h13_, h14_, h15_, fun _ => rfl, h17_, h18_, h19_, h20_, h21_, h22_, h23_, h24_, h25_, h26_, h27_, h28_, ⟨k28, hx9, hI⟩⟩
          · intro D hD_ d16_0 d13_1 x9 x77 x76 x75 x74 x73 x72 x71 x70 x69 x68 x67 x66 x65 x64 x63 x62 x61 x60 x59 x58 x57 x56 x55 x54 x53 x52 x51 x50 w_
            rintro ⟨h0_, h1_, h2_, h3_, h4_, h5_, h6_, h7_, h8_, h9_, h10_, h11_, h12_, h13_, h14_, h15_, h16_, h17_, h18_, h19_, h20_, h21_, h22_, h23_, h24_, h25_, h26_, h27_, h28_, ⟨k28, hx9, hI⟩⟩
            obtain rfl := h16_ d16_0
            obtain rfl := h13_ d13_1
            refine guard_ne (by decide) ?_
            exact ⟨h0_, h1_, h2_, h3_, h4_, h5_, h6_, h7_, h8_, h9_, h10_, h11_, h12_, h13_, h14_, h15_, h16_, fun _ => rfl, h18_, h19_, h20_, h21_, h22_, h23_, h24_, h25_, h26_, h27_, h28_, ⟨k28, hx9, hI⟩⟩
          · intro D hD_ d17_0 d13_1 x9 x77 x76 x75 x74 x73 x72 x71 x70 x69 x68 x67 x66 x65 x64 x63 x62 x61 x60 x59 x58 x57 x56 x55 x54 x53 x52 x51 x50 w_
            rintro ⟨h0_, h1_, h2_, h3_, h4_, h5_, h6_, h7_, h8_, h9_, h10_, h11_, h12_, h13_, h14_, h15_, h16_, h17_, h18_, h19_, h20_, h21_, h22_, h23_, h24_, h25_, h26_, h27_, h28_, ⟨k28, hx9, hI⟩⟩
            obtain rfl := h17_ d17_0
            obtain rfl := h13_ d13_1
            refine guard_ne (by decide) ?_
            exact ⟨h0_, h1_, h2_, h3_, h4_, h5_, h6_, h7_, h8_, h9_, h10_, h11_, h12_, h13_, h14_, h15_, h16_, h17_, fun _ => rfl, h19_, h20_, h21_, h22_, h23_, h24_, h25_, h26_, h27_, h28_, ⟨k28, hx9, hI⟩⟩
          · intro D hD_ d18_0 d13_1 x9 x77 x76 x75 x74 x73 x72 x71 x70 x69 x68 x67 x66 x65 x64 x63 x62 x61 x60 x59 x58 x57 x56 x55 x54 x53 x52 x51 x50 w_
            rintro ⟨h0_, h1_, h2_, h3_, h4_, h5_, h6_, h7_, h8_, h9_, h10_, h11_, h12_, h13_, h14_, h15_, h16_, h17_, h18_, h19_, h20_, h21_, h22_, h23_, h24_, h25_, h26_, h27_, h28_, ⟨k28, hx9, hI⟩⟩
            obtain rfl := h18_ d18_0
            obtain rfl := h13_ d13_1
            refine guard_ne (by decide) ?_
            exact ⟨h0_, h1_, h2_, h3_, h4_, h5_, h6_, h7_, h8_, h9_, h10_, h11_, h12_, h13_, h14_, h15_, h16_, h17_, h18_, fun _ => rfl, h20_, h21_, h22_, h23_, h24_, h25_, h26_, h27_, h28_, ⟨k28, hx9, hI⟩⟩
          · intro D hD_ d13_0 x9 x77 x76 x75 x74 x73 x72 x71 x70 x69 x68 x67 x66 x65 x64 x63 x62 x61 x60 x59 x58 x57 x56 x55 x54 x53 x52 x51 x50 w_
            rintro ⟨h0_, h1_, h2_, h3_, h4_, h5_, h6_, h7_, h8_, h9_, h10_, h11_, h12_, h13_, h14_, h15_, h16_, h17_, h18_, h19_, h20_, h21_, h22_, h23_, h24_, h25_, h26_, h27_, h28_, ⟨k28, hx9, hI⟩⟩
            obtain rfl := h13_ d13_0
            refine guard_ne (by decide) ?_
            exact ⟨h0_, h1_, h2_, h3_, h4_, h5_, h6_, h7_, h8_, h9_, h10_, h11_, h12_, h13_, h14_, h15_, h16_, h17_, h18_, h19_, fun _ => rfl, h21_, h22_, h23_, h24_, h25_, h26_, h27_, h28_, ⟨k28, hx9, hI⟩⟩
          · intro D hD_ d13_0 x9 x77 x76 x75 x74 x73 x72 x71 x70 x69 x68 x67 x66 x65 x64 x63 x62 x61 x60 x59 x58 x57 x56 x55 x54 x53 x52 x51 x50 w_
            rintro ⟨h0_, h1_, h2_, h3_, h4_, h5_, h6_, h7_, h8_, h9_, h10_, h11_, h12_, h13_, h14_, h15_, h16_, h17_, h18_, h19_, h20_, h21_, h22_, h23_, h24_, h25_, h26_, h27_, h28_, ⟨k28, hx9, hI⟩⟩
            obtain rfl := h13_ d13_0
            refine guard_ne (by decide) ?_
            exact ⟨h0_, h1_, h2_, h3_, h4_, h5_, h6_, h7_, h8_, h9_, h10_, h11_, h12_, h13_, h14_, h15_, h16_, h17_, h18_, h19_, h20_, fun _ => rfl, h22_, h23_, h24_, h25_, h26_, h27_, h28_, ⟨k28, hx9, hI⟩⟩
          · intro D hD_ d20_0 d21_1 d13_2 x9 x77 x76 x75 x74 x73 x72 x71 x70 x69 x68 x67 x66 x65 x64 x63 x62 x61 x60 x59 x58 x57 x56 x55 x54 x53 x52 x51 x50 w_
            rintro ⟨h0_, h1_, h2_, h3_, h4_, h5_, h6_, h7_, h8_, h9_, h10_, h11_, h12_, h13_, h14_, h15_, h16_, h17_, h18_, h19_, h20_, h21_, h22_, h23_, h24_, h25_, h26_, h27_, h28_, ⟨k28, hx9, hI⟩⟩
            obtain rfl := h20_ d20_0
            obtain rfl := h21_ d21_1
            obtain rfl := h13_ d13_2
            refine guard_ne (by decide) ?_
            exact ⟨h0_, h1_, h2_, h3_, h4_, h5_, h6_, h7_, h8_, h9_, h10_, h11_, h12_, h13_, h14_, h15_, h16_, h17_, h18_, h19_, h20_, h21_, fun _ => rfl, h23_, h24_, h25_, h26_, h27_, h28_, ⟨k28, hx9, hI⟩⟩
          · intro D hD_ d22_0 d13_1 x9 x77 x76 x75 x74 x73 x72 x71 x70 x69 x68 x67 x66 x65 x64 x63 x62 x61 x60 x59 x58 x57 x56 x55 x54 x53 x52 x51 x50 w_
            rintro ⟨h0_, h1_, h2_, h3_, h4_, h5_, h6_, h7_, h8_, h9_, h10_, h11_, h12_, h13_, h14_, h15_, h16_, h17_, h18_, h19_, h20_, h21_, h22_, h23_, h24_, h25_, h26_, h27_, h28_, ⟨k28, hx9, hI⟩⟩
            obtain rfl := h22_ d22_0
            obtain rfl := h13_ d13_1
            refine guard_ne (by decide) ?_
            exact ⟨h0_, h1_, h2_, h3_, h4_, h5_, h6_, h7_, h8_, h9_, h10_, h11_, h12_, h13_, h14_, h15_, h16_, h17_, h18_, h19_, h20_, h21_, h22_, fun _ => rfl, h24_, h25_, h26_, h27_, h28_, ⟨k28, hx9, hI⟩⟩
          · intro D hD_ d23_0 d13_1 x9 x77 x76 x75 x74 x73 x72 x71 x70 x69 x68 x67 x66 x65 x64 x63 x62 x61 x60 x59 x58 x57 x56 x55 x54 x53 x52 x51 x50 w_
            rintro ⟨h0_, h1_, h2_, h3_, h4_, h5_, h6_, h7_, h8_, h9_, h10_, h11_, h12_, h13_, h14_, h15_, h16_, h17_, h18_, h19_, h20_, h21_, h22_, h23_, h24_, h25_, h26_, h27_, h28_, ⟨k28, hx9, hI⟩⟩
            obtain rfl := h23_ d23_0
            obtain rfl := h13_ d13_1
            refine guard_ne (by decide) ?_
            exact ⟨h0_, h1_, h2_, h3_, h4_, h5_, h6_, h7_, h8_, h9_, h10_, h11_, h12_, h13_, h14_, h15_, h16_, h17_, h18_, h19_, h20_, h21_, h22_, h23_, fun _ => rfl, h25_, h26_, h27_, h28_, ⟨k28, hx9, hI⟩⟩
          · intro D hD_ d19_0 d24_1 d13_2 x9 x77 x76 x75 x74 x73 x72 x71 x70 x69 x68 x67 x66 x65 x64 x63 x62 x61 x60 x59 x58 x57 x56 x55 x54 x53 x52 x51 x50 w_
            rintro ⟨h0_, h1_, h2_, h3_, h4_, h5_, h6_, h7_, h8_, h9_, h10_, h11_, h12_, h13_, h14_, h15_, h16_, h17_, h18_, h19_, h20_, h21_, h22_, h23_, h24_, h25_, h26_, h27_, h28_, ⟨k28, hx9, hI⟩⟩
            obtain rfl := h19_ d19_0
            obtain rfl := h24_ d24_1
            obtain rfl := h13_ d13_2
            refine guard_ne (by decide) ?_
            exact ⟨h0_, h1_, h2_, h3_, h4_, h5_, h6_, h7_, h8_, h9_, h10_, h11_, h12_, h13_, h14_, h15_, h16_, h17_, h18_, h19_, h20_, h21_, h22_, h23_, h24_, fun _ => rfl, h26_, h27_, h28_, ⟨k28, hx9, hI⟩⟩
          · intro D hD_ d13_0 d25_1 d1_2 x9 x77 x76 x75 x74 x73 x72 x71 x70 x69 x68 x67 x66 x65 x64 x63 x62 x61 x60 x59 x58 x57 x56 x55 x54 x53 x52 x51 x50 w_
            rintro ⟨h0_, h1_, h2_, h3_, h4_, h5_, h6_, h7_, h8_, h9_, h10_, h11_, h12_, h13_, h14_, h15_, h16_, h17_, h18_, h19_, h20_, h21_, h22_, h23_, h24_, h25_, h26_, h27_, h28_, ⟨k28, hx9, hI⟩⟩
            obtain rfl := h13_ d13_0
            obtain rfl := h25_ d25_1
            obtain rfl := h1_ d1_2
            refine guard_true (b := false) ?_
            refine r_pickF ?_
            exact ⟨h0_, h1_, h2_, h3_, h4_, h5_, h6_, h7_, h8_, h9_, h10_, h11_, h12_, h13_, h14_, h15_, h16_, h17_, h18_, h19_, h20_, h21_, h22_, h23_, h24_, h25_, fun _ => rfl, h27_, h28_, ⟨k28, hx9, hI⟩⟩
          · intro D hD_ d1_0 d26_1 x9 x77 x76 x75 x74 x73 x72 x71 x70 x69 x68 x67 x66 x65 x64 x63 x62 x61 x60 x59 x58 x57 x56 x55 x54 x53 x52 x51 x50 w_
            rintro ⟨h0_, h1_, h2_, h3_, h4_, h5_, h6_, h7_, h8_, h9_, h10_, h11_, h12_, h13_, h14_, h15_, h16_, h17_, h18_, h19_, h20_, h21_, h22_, h23_, h24_, h25_, h26_, h27_, h28_, ⟨k28, hx9, hI⟩⟩
            obtain rfl := h1_ d1_0
            obtain rfl := h26_ d26_1
            refine r_pickF ?_
            exact ⟨h0_, h1_, h2_, h3_, h4_, h5_, h6_, h7_, h8_, h9_, h10_, h11_, h12_, h13_, h14_, h15_, h16_, h17_, h18_, h19_, h20_, h21_, h22_, h23_, h24_, h25_, h26_, fun _ => rfl, h28_, ⟨k28, hx9, hI⟩⟩
          · intro D hD_ d27_0 d13_1 d0_2 d1_3 d2_4 d3_5 d4_6 d5_7 d6_8 d7_9 d8_10 d9_11 d10_12 d11_13 d12_14 d13_15 d14_16 d15_17 d16_18 d17_19 d18_20 d19_21 d20_22 d21_23 d22_24 d23_25 d24_26 d25_27 d26_28 d27_29 x9 x77 x76 x75 x74 x73 x72 x71 x70 x69 x68 x67 x66 x65 x64 x63 x62 x61 x60 x59 x58 x57 x56 x55 x54 x53 x52 x51 x50 w_
            rintro ⟨h0_, h1_, h2_, h3_, h4_, h5_, h6_, h7_, h8_, h9_, h10_, h11_, h12_, h13_, h14_, h15_, h16_, h17_, h18_, h19_, h20_, h21_, h22_, h23_, h24_, h25_, h26_, h27_, h28_, ⟨k28, hx9, hI⟩⟩
            obtain rfl := h27_ d27_0
            have k28 := fun (_ : setD D 28 28 = true) => d0_2
            have hx9 : setD D 28 28 = false → (.bool false : Value) = .bool false := fun h => Bool.noConfusion h
            exact ⟨h0_, h1_, h2_, h3_, h4_, h5_, h6_, h7_, h8_, h9_, h10_, h11_, h12_, h13_, h14_, h15_, h16_, h17_, h18_, h19_, h20_, h21_, h22_, h23_, h24_, h25_, h26_, h27_, fun _ => rfl, ⟨k28, hx9, hI⟩⟩
          intro D d28_ d27_ d26_ d25_ d24_ d23_ d22_ d21_ d20_ d19_ d18_ d17_ d16_ d15_ d14_ d13_ d12_ d11_ d10_ d9_ d8_ d7_ d6_ d5_ d4_ d3_ d2_ d1_ d0_ x9 x77 x76 x75 x74 x73 x72 x71 x70 x69 x68 x67 x66 x65 x64 x63 x62 x61 x60 x59 x58 x57 x56 x55 x54 x53 x52 x51 x50 w_
          rintro ⟨h0_, h1_, h2_, h3_, h4_, h5_, h6_, h7_, h8_, h9_, h10_, h11_, h12_, h13_, h14_, h15_, h16_, h17_, h18_, h19_, h20_, h21_, h22_, h23_, h24_, h25_, h26_, h27_, h28_, ⟨k28, hx9, hI⟩⟩
          obtain rfl := h28_ d28_
          obtain rfl := h27_ d27_
          obtain rfl := h26_ d26_
          obtain rfl := h25_ d25_
          obtain rfl := h24_ d24_
          obtain rfl := h23_ d23_
          obtain rfl := h22_ d22_
          obtain rfl := h21_ d21_
          obtain rfl := h20_ d20_
          obtain rfl := h19_ d19_
          obtain rfl := h18_ d18_
          obtain rfl := h17_ d17_
          obtain rfl := h16_ d16_
          obtain rfl := h15_ d15_
          obtain rfl := h14_ d14_
          obtain rfl := h13_ d13_
          obtain rfl := h12_ d12_
          obtain rfl := h11_ d11_
          obtain rfl := h10_ d10_
          obtain rfl := h9_ d9_
          obtain rfl := h8_ d8_
          obtain rfl := h7_ d7_
          obtain rfl := h6_ d6_
          obtain rfl := h5_ d5_
          obtain rfl := h4_ d4_
          obtain rfl := h3_ d3_
          obtain rfl := h2_ d2_
          obtain rfl := h1_ d1_
          obtain rfl := h0_ d0_
          clear h0_ h1_ h2_ h3_ h4_ h5_ h6_ h7_ h8_ h9_ h10_ h11_ h12_ h13_ h14_ h15_ h16_ h17_ h18_ h19_ h20_ h21_ h22_ h23_ h24_ h25_ h26_ h27_ h28_
          refine r_add (by omega) ?_
          refine ⟨⟨j + 1, false, hj', rfl, rfl, ?_, hI⟩, by simp [intOf]; omega⟩
          rw [hnext, ← Bool.or_assoc, ← hc, mtB, hnm]
          rfl
        · have hI := hJ
          refine ⟨fun D x9 x77 x76 x75 x74 x73 x72 x71 x70 x69 x68 x67 x66 x65 x64 x63 x62 x61 x60 x59 x58 x57 x56 x55 x54 x53 x52 x51 x50 w_ => (D 0 = true → x50 = .bool false) ∧ (D 1 = true → x51 = .bool false) ∧ (D 2 = true → x52 = .slice (some ⟨b2, o2, none⟩) (unkP q).length cap2) ∧ (D 3 = true → x53 = .int .i64 j) ∧ (D 4 = true → x54 = .pointer (some ⟨b2, o2 + j * 4, none⟩)) ∧ (D 5 = true → x55 = .pointer (some ⟨b2, o2 + j * 4 + 2, none⟩)) ∧ (D 6 = true → x56 = .string (unkP q)[j].name) ∧ (D 7 = true → x57 = .slice (some ⟨b, o, none⟩) (callsOf q x).length cap) ∧ (D 8 = true → x58 = .int .i64 k) ∧ (D 9 = true → x59 = .pointer (some ⟨b, o + k * 2, none⟩)) ∧ (D 10 = true → x60 = .pointer (some ⟨b, o + k * 2 + 0, none⟩)) ∧ (D 11 = true → x61 = .string (callsOf q x)[k].name) ∧ (D 12 = true → x62 = .bool true) ∧ (D 13 = true → x63 = .bool true) ∧ (D 14 = true → x64 = .slice (some ⟨b2, o2, none⟩) (unkP q).length cap2) ∧ (D 15 = true → x65 = .int .i64 j) ∧ (D 16 = true → x66 = .pointer (some ⟨b2, o2 + j * 4, none⟩)) ∧ (D 17 = true → x67 = .pointer (some ⟨b2, o2 + j * 4 + 3, none⟩)) ∧ (D 18 = true → x68 = .slice a2 (unkP q)[j].kids.length m2) ∧ (D 19 = true → x69 = .int .i64 (unkP q)[j].kids.length) ∧ (D 20 = true → x70 = .slice (some ⟨b, o, none⟩) (callsOf q x).length cap) ∧ (D 21 = true → x71 = .int .i64 k) ∧ (D 22 = true → x72 = .pointer (some ⟨b, o + k * 2, none⟩)) ∧ (D 23 = true → x73 = .pointer (some ⟨b, o + k * 2 + 1, none⟩)) ∧ (D 24 = true → x74 = .int .i64 (callsOf q x)[k].arity) ∧ (D 25 = true → x75 = .bool (decide (((unkP q)[j].kids.length : Int) = (callsOf q x)[k].arity))) ∧ (D 26 = true → x76 = .bool (decide (((unkP q)[j].kids.length : Int) = (callsOf q x)[k].arity))) ∧ (D 27 = true → x77 = .bool (decide (((unkP q)[j].kids.length : Int) = (callsOf q x)[k].arity))) ∧ (D 28 = true → x9 = .bool (decide (((unkP q)[j].kids.length : Int) = (callsOf q x)[k].arity))) ∧ (D 28 = true → D 0 = true) ∧ (D 28 = false → x9 = .bool false) ∧ Inv w [] [B4] S5 w_, ⟨fun h => Bool.noConfusion h, fun h => Bool.noConfusion h, fun h => Bool.noConfusion h, fun h => Bool.noConfusion h, fun h => Bool.noConfusion h, fun h => Bool.noConfusion h, fun h => Bool.noConfusion h, fun h => Bool.noConfusion h, fun h => Bool.noConfusion h, fun h => Bool.noConfusion h, fun h => Bool.noConfusion h, fun h => Bool.noConfusion h, fun h => Bool.noConfusion h, fun h => Bool.noConfusion h, fun h => Bool.noConfusion h, fun h => Bool.noConfusion h, fun h => Bool.noConfusion h, fun h => Bool.noConfusion h, fun h => Bool.noConfusion h, fun h => Bool.noConfusion h, fun h => Bool.noConfusion h, fun h => Bool.noConfusion h, fun h => Bool.noConfusion h, fun h => Bool.noConfusion h, fun h => Bool.noConfusion h, fun h => Bool.noConfusion h, fun h => Bool.noConfusion h, fun h => Bool.noConfusion h, fun h => Bool.noConfusion h, ⟨fun h => Bool.noConfusion h, fun _ => rfl, hI.draw⟩⟩, ⟨?_, ?_, ?_, ?_, ?_, ?_, ?_, ?_, ?_, ?_, ?_, ?_, ?_, ?_, ?_, ?_, ?_, ?_, ?_, ?_, ?_, ?_, ?_, ?_, ?_, ?_, ?_, ?_, ?_, trivial⟩, ?_⟩
          · intro D hD_  x9 x77 x76 x75 x74 x73 x72 x71 x70 x69 x68 x67 x66 x65 x64 x63 x62 x61 x60 x59 x58 x57 x56 x55 x54 x53 x52 x51 x50 w_
            rintro ⟨h0_, h1_, h2_, h3_, h4_, h5_, h6_, h7_, h8_, h9_, h10_, h11_, h12_, h13_, h14_, h15_, h16_, h17_, h18_, h19_, h20_, h21_, h22_, h23_, h24_, h25_, h26_, h27_, h28_, ⟨k28, hx9, hI⟩⟩
            have f28 : D 28 = false := Bool.eq_false_iff.2 fun h => by rw [k28 h] at hD_; cases hD_
            obtain rfl := hx9 f28
            have k28 := fun (_ : setD D 0 28 = true) => (rfl : setD D 0 0 = true)
            exact ⟨fun _ => rfl, h1_, h2_, h3_, h4_, h5_, h6_, h7_, h8_, h9_, h10_, h11_, h12_, h13_, h14_, h15_, h16_, h17_, h18_, h19_, h20_, h21_, h22_, h23_, h24_, h25_, h26_, h27_, h28_, ⟨k28, hx9, hI⟩⟩
          · intro D hD_ d0_0 x9 x77 x76 x75 x74 x73 x72 x71 x70 x69 x68 x67 x66 x65 x64 x63 x62 x61 x60 x59 x58 x57 x56 x55 x54 x53 x52 x51 x50 w_
            rintro ⟨h0_, h1_, h2_, h3_, h4_, h5_, h6_, h7_, h8_, h9_, h10_, h11_, h12_, h13_, h14_, h15_, h16_, h17_, h18_, h19_, h20_, h21_, h22_, h23_, h24_, h25_, h26_, h27_, h28_, ⟨k28, hx9, hI⟩⟩
            obtain rfl := h0_ d0_0
            exact ⟨h0_, fun _ => rfl, h2_, h3_, h4_, h5_, h6_, h7_, h8_, h9_, h10_, h11_, h12_, h13_, h14_, h15_, h16_, h17_, h18_, h19_, h20_, h21_, h22_, h23_, h24_, h25_, h26_, h27_, h28_, ⟨k28, hx9, hI⟩⟩
          · intro D hD_ d1_0 x9 x77 x76 x75 x74 x73 x72 x71 x70 x69 x68 x67 x66 x65 x64 x63 x62 x61 x60 x59 x58 x57 x56 x55 x54 x53 x52 x51 x50 w_
            rintro ⟨h0_, h1_, h2_, h3_, h4_, h5_, h6_, h7_, h8_, h9_, h10_, h11_, h12_, h13_, h14_, h15_, h16_, h17_, h18_, h19_, h20_, h21_, h22_, h23_, h24_, h25_, h26_, h27_, h28_, ⟨k28, hx9, hI⟩⟩
            obtain rfl := h1_ d1_0
            refine guard_true (b := false) ?_
            exact ⟨h0_, h1_, fun _ => rfl, h3_, h4_, h5_, h6_, h7_, h8_, h9_, h10_, h11_, h12_, h13_, h14_, h15_, h16_, h17_, h18_, h19_, h20_, h21_, h22_, h23_, h24_, h25_, h26_, h27_, h28_, ⟨k28, hx9, hI⟩⟩
          · intro D hD_ d1_0 x9 x77 x76 x75 x74 x73 x72 x71 x70 x69 x68 x67 x66 x65 x64 x63 x62 x61 x60 x59 x58 x57 x56 x55 x54 x53 x52 x51 x50 w_
            rintro ⟨h0_, h1_, h2_, h3_, h4_, h5_, h6_, h7_, h8_, h9_, h10_, h11_, h12_, h13_, h14_, h15_, h16_, h17_, h18_, h19_, h20_, h21_, h22_, h23_, h24_, h25_, h26_, h27_, h28_, ⟨k28, hx9, hI⟩⟩
            obtain rfl := h1_ d1_0
            refine guard_true (b := false) ?_
            exact ⟨h0_, h1_, h2_, fun _ => rfl, h4_, h5_, h6_, h7_, h8_, h9_, h10_, h11_, h12_, h13_, h14_, h15_, h16_, h17_, h18_, h19_, h20_, h21_, h22_, h23_, h24_, h25_, h26_, h27_, h28_, ⟨k28, hx9, hI⟩⟩
          · intro D hD_ d2_0 d3_1 d1_2 x9 x77 x76 x75 x74 x73 x72 x71 x70 x69 x68 x67 x66 x65 x64 x63 x62 x61 x60 x59 x58 x57 x56 x55 x54 x53 x52 x51 x50 w_
            rintro ⟨h0_, h1_, h2_, h3_, h4_, h5_, h6_, h7_, h8_, h9_, h10_, h11_, h12_, h13_, h14_, h15_, h16_, h17_, h18_, h19_, h20_, h21_, h22_, h23_, h24_, h25_, h26_, h27_, h28_, ⟨k28, hx9, hI⟩⟩
            obtain rfl := h2_ d2_0
            obtain rfl := h3_ d3_1
            obtain rfl := h1_ d1_2
            refine guard_true (b := false) ?_
            refine r_indexAddr sl_SiTerm hj' ?_
            exact ⟨h0_, h1_, h2_, h3_, fun _ => rfl, h5_, h6_, h7_, h8_, h9_, h10_, h11_, h12_, h13_, h14_, h15_, h16_, h17_, h18_, h19_, h20_, h21_, h22_, h23_, h24_, h25_, h26_, h27_, h28_, ⟨k28, hx9, hI⟩⟩
          · intro D hD_ d4_0 d1_1 x9 x77 x76 x75 x74 x73 x72 x71 x70 x69 x68 x67 x66 x65 x64 x63 x62 x61 x60 x59 x58 x57 x56 x55 x54 x53 x52 x51 x50 w_
            rintro ⟨h0_, h1_, h2_, h3_, h4_, h5_, h6_, h7_, h8_, h9_, h10_, h11_, h12_, h13_, h14_, h15_, h16_, h17_, h18_, h19_, h20_, h21_, h22_, h23_, h24_, h25_, h26_, h27_, h28_, ⟨k28, hx9, hI⟩⟩
            obtain rfl := h4_ d4_0
            obtain rfl := h1_ d1_1
            refine guard_true (b := false) ?_
            refine r_field fo_iTerm_2 ?_
            exact ⟨h0_, h1_, h2_, h3_, h4_, fun _ => rfl, h6_, h7_, h8_, h9_, h10_, h11_, h12_, h13_, h14_, h15_, h16_, h17_, h18_, h19_, h20_, h21_, h22_, h23_, h24_, h25_, h26_, h27_, h28_, ⟨k28, hx9, hI⟩⟩
          · intro D hD_ d5_0 d1_1 x9 x77 x76 x75 x74 x73 x72 x71 x70 x69 x68 x67 x66 x65 x64 x63 x62 x61 x60 x59 x58 x57 x56 x55 x54 x53 x52 x51 x50 w_
            rintro ⟨h0_, h1_, h2_, h3_, h4_, h5_, h6_, h7_, h8_, h9_, h10_, h11_, h12_, h13_, h14_, h15_, h16_, h17_, h18_, h19_, h20_, h21_, h22_, h23_, h24_, h25_, h26_, h27_, h28_, ⟨k28, hx9, hI⟩⟩
            obtain rfl := h5_ d5_0
            obtain rfl := h1_ d1_1
            refine guard_true (b := false) ?_
            refine r_load sc_string (by rw [hI.cellS hS2]; exact cellsAt_get he 2 _ rfl) ?_
            exact ⟨h0_, h1_, h2_, h3_, h4_, h5_, fun _ => rfl, h7_, h8_, h9_, h10_, h11_, h12_, h13_, h14_, h15_, h16_, h17_, h18_, h19_, h20_, h21_, h22_, h23_, h24_, h25_, h26_, h27_, h28_, ⟨k28, hx9, hI⟩⟩
          · intro D hD_ d1_0 x9 x77 x76 x75 x74 x73 x72 x71 x70 x69 x68 x67 x66 x65 x64 x63 x62 x61 x60 x59 x58 x57 x56 x55 x54 x53 x52 x51 x50 w_
            rintro ⟨h0_, h1_, h2_, h3_, h4_, h5_, h6_, h7_, h8_, h9_, h10_, h11_, h12_, h13_, h14_, h15_, h16_, h17_, h18_, h19_, h20_, h21_, h22_, h23_, h24_, h25_, h26_, h27_, h28_, ⟨k28, hx9, hI⟩⟩
            obtain rfl := h1_ d1_0
            refine guard_true (b := false) ?_
            exact ⟨h0_, h1_, h2_, h3_, h4_, h5_, h6_, fun _ => rfl, h8_, h9_, h10_, h11_, h12_, h13_, h14_, h15_, h16_, h17_, h18_, h19_, h20_, h21_, h22_, h23_, h24_, h25_, h26_, h27_, h28_, ⟨k28, hx9, hI⟩⟩
          · intro D hD_ d1_0 x9 x77 x76 x75 x74 x73 x72 x71 x70 x69 x68 x67 x66 x65 x64 x63 x62 x61 x60 x59 x58 x57 x56 x55 x54 x53 x52 x51 x50 w_
            rintro ⟨h0_, h1_, h2_, h3_, h4_, h5_, h6_, h7_, h8_, h9_, h10_, h11_, h12_, h13_, h14_, h15_, h16_, h17_, h18_, h19_, h20_, h21_, h22_, h23_, h24_, h25_, h26_, h27_, h28_, ⟨k28, hx9, hI⟩⟩
            obtain rfl := h1_ d1_0
            refine guard_true (b := false) ?_
            exact ⟨h0_, h1_, h2_, h3_, h4_, h5_, h6_, h7_, fun _ => rfl, h9_, h10_, h11_, h12_, h13_, h14_, h15_, h16_, h17_, h18_, h19_, h20_, h21_, h22_, h23_, h24_, h25_, h26_, h27_, h28_, ⟨k28, hx9, hI⟩⟩
          · intro D hD_ d7_0 d8_1 d1_2 x9 x77 x76 x75 x74 x73 x72 x71 x70 x69 x68 x67 x66 x65 x64 x63 x62 x61 x60 x59 x58 x57 x56 x55 x54 x53 x52 x51 x50 w_
            rintro ⟨h0_, h1_, h2_, h3_, h4_, h5_, h6_, h7_, h8_, h9_, h10_, h11_, h12_, h13_, h14_, h15_, h16_, h17_, h18_, h19_, h20_, h21_, h22_, h23_, h24_, h25_, h26_, h27_, h28_, ⟨k28, hx9, hI⟩⟩
            obtain rfl := h7_ d7_0
            obtain rfl := h8_ d8_1
            obtain rfl := h1_ d1_2
            refine guard_true (b := false) ?_
            refine r_indexAddr sl_SiPred hk' ?_
            exact ⟨h0_, h1_, h2_, h3_, h4_, h5_, h6_, h7_, h8_, fun _ => rfl, h10_, h11_, h12_, h13_, h14_, h15_, h16_, h17_, h18_, h19_, h20_, h21_, h22_, h23_, h24_, h25_, h26_, h27_, h28_, ⟨k28, hx9, hI⟩⟩
          · intro D hD_ d9_0 d1_1 x9 x77 x76 x75 x74 x73 x72 x71 x70 x69 x68 x67 x66 x65 x64 x63 x62 x61 x60 x59 x58 x57 x56 x55 x54 x53 x52 x51 x50 w_
            rintro ⟨h0_, h1_, h2_, h3_, h4_, h5_, h6_, h7_, h8_, h9_, h10_, h11_, h12_, h13_, h14_, h15_, h16_, h17_, h18_, h19_, h20_, h21_, h22_, h23_, h24_, h25_, h26_, h27_, h28_, ⟨k28, hx9, hI⟩⟩
            obtain rfl := h9_ d9_0
            obtain rfl := h1_ d1_1
            refine guard_true (b := false) ?_
            refine r_field fo_iPred_0 ?_
            exact ⟨h0_, h1_, h2_, h3_, h4_, h5_, h6_, h7_, h8_, h9_, fun _ => rfl, h11_, h12_, h13_, h14_, h15_, h16_, h17_, h18_, h19_, h20_, h21_, h22_, h23_, h24_, h25_, h26_, h27_, h28_, ⟨k28, hx9, hI⟩⟩
          · intro D hD_ d10_0 d1_1 x9 x77 x76 x75 x74 x73 x72 x71 x70 x69 x68 x67 x66 x65 x64 x63 x62 x61 x60 x59 x58 x57 x56 x55 x54 x53 x52 x51 x50 w_
            rintro ⟨h0_, h1_, h2_, h3_, h4_, h5_, h6_, h7_, h8_, h9_, h10_, h11_, h12_, h13_, h14_, h15_, h16_, h17_, h18_, h19_, h20_, h21_, h22_, h23_, h24_, h25_, h26_, h27_, h28_, ⟨k28, hx9, hI⟩⟩
            obtain rfl := h10_ d10_0
            obtain rfl := h1_ d1_1
            refine guard_true (b := false) ?_
            refine r_load sc_string (by rw [hI.cellS hS]; exact cellsAt_get hR1 0 _ rfl) ?_
            exact ⟨h0_, h1_, h2_, h3_, h4_, h5_, h6_, h7_, h8_, h9_, h10_, fun _ => rfl, h12_, h13_, h14_, h15_, h16_, h17_, h18_, h19_, h20_, h21_, h22_, h23_, h24_, h25_, h26_, h27_, h28_, ⟨k28, hx9, hI⟩⟩
          · intro D hD_ d6_0 d11_1 d1_2 x9 x77 x76 x75 x74 x73 x72 x71 x70 x69 x68 x67 x66 x65 x64 x63 x62 x61 x60 x59 x58 x57 x56 x55 x54 x53 x52 x51 x50 w_
            rintro ⟨h0_, h1_, h2_, h3_, h4_, h5_, h6_, h7_, h8_, h9_, h10_, h11_, h12_, h13_, h14_, h15_, h16_, h17_, h18_, h19_, h20_, h21_, h22_, h23_, h24_, h25_, h26_, h27_, h28_, ⟨k28, hx9, hI⟩⟩
            obtain rfl := h6_ d6_0
            obtain rfl := h11_ d11_1
            obtain rfl := h1_ d1_2
            refine guard_true (b := false) ?_
            refine r_seql ?_
            rw [hnm]
            exact ⟨h0_, h1_, h2_, h3_, h4_, h5_, h6_, h7_, h8_, h9_, h10_, h11_, fun _ => rfl, h13_, h14_, h15_, h16_, h17_, h18_, h19_, h20_, h21_, h22_, h23_, h24_, h25_, h26_, h27_, h28_, ⟨k28, hx9, hI⟩⟩
          · intro D hD_ d12_0 d1_1 d1_2 x9 x77 x76 x75 x74 x73 x72 x71 x70 x69 x68 x67 x66 x65 x64 x63 x62 x61 x60 x59 x58 x57 x56 x55 x54 x53 x52 x51 x50 w_
            rintro ⟨h0_, h1_, h2_, h3_, h4_, h5_, h6_, h7_, h8_, h9_, h10_, h11_, h12_, h13_, h14_, h15_, h16_, h17_, h18_, h19_, h20_, h21_, h22_, h23_, h24_, h25_, h26_, h27_, h28_, ⟨k28, hx9, hI⟩⟩
            obtain rfl := h12_ d12_0
            obtain rfl := h1_ d1_1
            refine guard_true (b := false) ?_
            exact ⟨h0_, h1_, h2_, h3_, h4_, h5_, h6_, h7_, h8_, h9_, h10_, h11_, h12_, fun _ => rfl, h14_, h15_, h16_, h17_, h18_, h19_, h20_, h21_, h22_, h23_, h24_, h25_, h26_, h27_, h28_, ⟨k28, hx9, hI⟩⟩
          · intro D hD_ d13_0 x9 x77 x76 x75 x74 x73 x72 x71 x70 x69 x68 x67 x66 x65 x64 x63 x62 x61 x60 x59 x58 x57 x56 x55 x54 x53 x52 x51 x50 w_
            rintro ⟨h0_, h1_, h2_, h3_, h4_, h5_, h6_, h7_, h8_, h9_, h10_, h11_, h12_, h13_, h14_, h15_, h16_, h17_, h18_, h19_, h20_, h21_, h22_, h23_, h24_, h25_, h26_, h27_, h28_, ⟨k28, hx9, hI⟩⟩
            obtain rfl := h13_ d13_0
            refine guard_true (b := true) ?_
            exact ⟨h0_, h1_, h2_, h3_, h4_, h5_, h6_, h7_, h8_, h9_, h10_, h11_, h12_, h13_, fun _ => rfl, h15_, h16_, h17_, h18_, h19_, h20_, h21_, h22_, h23_, h24_, h25_, h26_, h27_, h28_, ⟨k28, hx9, hI⟩⟩
          · intro D hD_ d13_0 x9 x77 x76 x75 x74 x73 x72 x71 x70 x69 x68 x67 x66 x65 x64 x63 x62 x61 x60 x59 x58 x57 x56 x55 x54 x53 x52 x51 x50 w_
            rintro ⟨h0_, h1_, h2_, h3_, h4_, h5_, h6_, h7_, h8_, h9_, h10_, h11_, h12_, h13_, h14_, h15_, h16_, h17_, h18_, h19_, h20_, h21_, h22_, h23_, h24_, h25_, h26_, h27_, h28_, ⟨k28, hx9, hI⟩⟩
            obtain rfl := h13_ d13_0
            refine guard_true (b := true) ?_
            exact ⟨h0_, h1_, h2_, h3_, h4_, h5_, h6_, h7_, h8_, h9_, h10_, h11_, h12_, h13_, h14_, fun _ => rfl, h16_, h17_, h18_, h19_, h20_, h21_, h22_, h23_, h24_, h25_, h26_, h27_, h28_, ⟨k28, hx9, hI⟩⟩
          · intro D hD_ d14_0 d15_1 d13_2 x9 x77 x76 x75 x74 x73 x72 x71 x70 x69 x68 x67 x66 x65 x64 x63 x62 x61 x60 x59 x58 x57 x56 x55 x54 x53 x52 x51 x50 w_
            rintro ⟨h0_, h1_, h2_, h3_, h4_, h5_, h6_, h7_, h8_, h9_, h10_, h11_, h12_, h13_, h14_, h15_, h16_, h17_, h18_, h19_, h20_, h21_, h22_, h23_, h24_, h25_, h26_, h27_, h28_, ⟨k28, hx9, hI⟩⟩
            obtain rfl := h14_ d14_0
            obtain rfl := h15_ d15_1
            obtain rfl := h13_ d13_2
            refine guard_true (b := true) ?_
            refine r_indexAddr sl_SiTerm hj' ?_
            exact ⟨h0_, h1_, h2_, h3_, h4_, h5_, h6_, h7_, h8_, h9_, h10_, h11_, h12_, h13_, h14_, h15_, fun _ => rfl, h17_, h18_, h19_, h20_, h21_, h22_, h23_, h24_, h25_, h26_, h27_, h28_, ⟨k28, hx9, hI⟩⟩
          · intro D hD_ d16_0 d13_1 x9 x77 x76 x75 x74 x73 x72 x71 x70 x69 x68 x67 x66 x65 x64 x63 x62 x61 x60 x59 x58 x57 x56 x55 x54 x53 x52 x51 x50 w_
            rintro ⟨h0_, h1_, h2_, h3_, h4_, h5_, h6_, h7_, h8_, h9_, h10_, h11_, h12_, h13_, h14_, h15_, h16_, h17_, h18_, h19_, h20_, h21_, h22_, h23_, h24_, h25_, h26_, h27_, h28_, ⟨k28, hx9, hI⟩⟩
            obtain rfl := h16_ d16_0
            obtain rfl := h13_ d13_1
            refine guard_true (b := true) ?_
            refine r_field fo_iTerm_3 ?_
            exact ⟨h0_, h1_, h2_, h3_, h4_, h5_, h6_, h7_, h8_, h9_, h10_, h11_, h12_, h13_, h14_, h15_, h16_, fun _ => rfl, h18_, h19_, h20_, h21_, h22_, h23_, h24_, h25_, h26_, h27_, h28_, ⟨k28, hx9, hI⟩⟩
          · intro D hD_ d17_0 d13_1 x9 x77 x76 x75 x74 x73 x72 x71 x70 x69 x68 x67 x66 x65 x64 x63 x62 x61 x60 x59 x58 x57 x56 x55 x54 x53 x52 x51 x50 w_
            rintro ⟨h0_, h1_, h2_, h3_, h4_, h5_, h6_, h7_, h8_, h9_, h10_, h11_, h12_, h13_, h14_, h15_, h16_, h17_, h18_, h19_, h20_, h21_, h22_, h23_, h24_, h25_, h26_, h27_, h28_, ⟨k28, hx9, hI⟩⟩
            obtain rfl := h17_ d17_0
            obtain rfl := h13_ d13_1
            refine guard_true (b := true) ?_
            refine r_load sc_SiTerm (by rw [hI.cellS hS2]; exact cellsAt_get he 3 _ rfl) ?_
            exact ⟨h0_, h1_, h2_, h3_, h4_, h5_, h6_, h7_, h8_, h9_, h10_, h11_, h12_, h13_, h14_, h15_, h16_, h17_, fun _ => rfl, h19_, h20_, h21_, h22_, h23_, h24_, h25_, h26_, h27_, h28_, ⟨k28, hx9, hI⟩⟩
          · intro D hD_ d18_0 d13_1 x9 x77 x76 x75 x74 x73 x72 x71 x70 x69 x68 x67 x66 x65 x64 x63 x62 x61 x60 x59 x58 x57 x56 x55 x54 x53 x52 x51 x50 w_
            rintro ⟨h0_, h1_, h2_, h3_, h4_, h5_, h6_, h7_, h8_, h9_, h10_, h11_, h12_, h13_, h14_, h15_, h16_, h17_, h18_, h19_, h20_, h21_, h22_, h23_, h24_, h25_, h26_, h27_, h28_, ⟨k28, hx9, hI⟩⟩
            obtain rfl := h18_ d18_0
            obtain rfl := h13_ d13_1
            refine guard_true (b := true) ?_
            refine r_len sl_SiTerm ?_
            exact ⟨h0_, h1_, h2_, h3_, h4_, h5_, h6_, h7_, h8_, h9_, h10_, h11_, h12_, h13_, h14_, h15_, h16_, h17_, h18_, fun _ => rfl, h20_, h21_, h22_, h23_, h24_, h25_, h26_, h27_, h28_, ⟨k28, hx9, hI⟩⟩
          · intro D hD_ d13_0 x9 x77 x76 x75 x74 x73 x72 x71 x70 x69 x68 x67 x66 x65 x64 x63 x62 x61 x60 x59 x58 x57 x56 x55 x54 x53 x52 x51 x50 w_
            rintro ⟨h0_, h1_, h2_, h3_, h4_, h5_, h6_, h7_, h8_, h9_, h10_, h11_, h12_, h13_, h14_, h15_, h16_, h17_, h18_, h19_, h20_, h21_, h22_, h23_, h24_, h25_, h26_, h27_, h28_, ⟨k28, hx9, hI⟩⟩
            obtain rfl := h13_ d13_0
            refine guard_true (b := true) ?_
            exact ⟨h0_, h1_, h2_, h3_, h4_, h5_, h6_, h7_, h8_, h9_, h10_, h11_, h12_, h13_, h14_, h15_, h16_, h17_, h18_, h19_, fun _ => rfl, h21_, h22_, h23_, h24_, h25_, h26_, h27_, h28_, ⟨k28, hx9, hI⟩⟩
          · intro D hD_ d13_0 x9 x77 x76 x75 x74 x73 x72 x71 x70 x69 x68 x67 x66 x65 x64 x63 x62 x61 x60 x59 x58 x57 x56 x55 x54 x53 x52 x51 x50 w_
            rintro ⟨h0_, h1_, h2_, h3_, h4_, h5_, h6_, h7_, h8_, h9_, h10_, h11_, h12_, h13_, h14_, h15_, h16_, h17_, h18_, h19_, h20_, h21_, h22_, h23_, h24_, h25_, h26_, h27_, h28_, ⟨k28, hx9, hI⟩⟩
            obtain rfl := h13_ d13_0
            refine guard_true (b := true) ?_
            exact ⟨h0_, h1_, h2_, h3_, h4_, h5_, h6_, h7_, h8_, h9_, h10_, h11_, h12_, h13_, h14_, h15_, h16_, h17_, h18_, h19_, h20_, fun _ => rfl, h22_, h23_, h24_, h25_, h26_, h27_, h28_, ⟨k28, hx9, hI⟩⟩
          · intro D hD_ d20_0 d21_1 d13_2 x9 x77 x76 x75 x74 x73 x72 x71 x70 x69 x68 x67 x66 x65 x64 x63 x62 x61 x60 x59 x58 x57 x56 x55 x54 x53 x52 x51 x50 w_
            rintro ⟨h0_, h1_, h2_, h3_, h4_, h5_, h6_, h7_, h8_, h9_, h10_, h11_, h12_, h13_, h14_, h15_, h16_, h17_, h18_, h19_, h20_, h21_, h22_, h23_, h24_, h25_, h26_, h27_, h28_, ⟨k28, hx9, hI⟩⟩
            obtain rfl := h20_ d20_0
            obtain rfl := h21_ d21_1
            obtain rfl := h13_ d13_2
            refine guard_true (b := true) ?_
            refine r_indexAddr sl_SiPred hk' ?_
            exact ⟨h0_, h1_, h2_, h3_, h4_, h5_, h6_, h7_, h8_, h9_, h10_, h11_, h12_, h13_, h14_, h15_, h16_, h17_, h18_, h19_, h20_, h21_, fun _ => rfl, h23_, h24_, h25_, h26_, h27_, h28_, ⟨k28, hx9, hI⟩⟩
          · intro D hD_ d22_0 d13_1 x9 x77 x76 x75 x74 x73 x72 x71 x70 x69 x68 x67 x66 x65 x64 x63 x62 x61 x60 x59 x58 x57 x56 x55 x54 x53 x52 x51 x50 w_
            rintro ⟨h0_, h1_, h2_, h3_, h4_, h5_, h6_, h7_, h8_, h9_, h10_, h11_, h12_, h13_, h14_, h15_, h16_, h17_, h18_, h19_, h20_, h21_, h22_, h23_, h24_, h25_, h26_, h27_, h28_, ⟨k28, hx9, hI⟩⟩
            obtain rfl := h22_ d22_0
            obtain rfl := h13_ d13_1
            refine guard_true (b := true) ?_
            refine r_field fo_iPred_1 ?_
            exact ⟨h0_, h1_, h2_, h3_, h4_, h5_, h6_, h7_, h8_, h9_, h10_, h11_, h12_, h13_, h14_, h15_, h16_, h17_, h18_, h19_, h20_, h21_, h22_, fun _ => rfl, h24_, h25_, h26_, h27_, h28_, ⟨k28, hx9, hI⟩⟩
          · intro D hD_ d23_0 d13_1 x9 x77 x76 x75 x74 x73 x72 x71 x70 x69 x68 x67 x66 x65 x64 x63 x62 x61 x60 x59 x58 x57 x56 x55 x54 x53 x52 x51 x50 w_
            rintro ⟨h0_, h1_, h2_, h3_, h4_, h5_, h6_, h7_, h8_, h9_, h10_, h11_, h12_, h13_, h14_, h15_, h16_, h17_, h18_, h19_, h20_, h21_, h22_, h23_, h24_, h25_, h26_, h27_, h28_, ⟨k28, hx9, hI⟩⟩
            obtain rfl := h23_ d23_0
            obtain rfl := h13_ d13_1
            refine guard_true (b := true) ?_
            refine r_load sc_int (by rw [hI.cellS hS]; exact cellsAt_get hR1 1 _ rfl) ?_
            exact ⟨h0_, h1_, h2_, h3_, h4_, h5_, h6_, h7_, h8_, h9_, h10_, h11_, h12_, h13_, h14_, h15_, h16_, h17_, h18_, h19_, h20_, h21_, h22_, h23_, fun _ => rfl, h25_, h26_, h27_, h28_, ⟨k28, hx9, hI⟩⟩
          · intro D hD_ d19_0 d24_1 d13_2 x9 x77 x76 x75 x74 x73 x72 x71 x70 x69 x68 x67 x66 x65 x64 x63 x62 x61 x60 x59 x58 x57 x56 x55 x54 x53 x52 x51 x50 w_
            rintro ⟨h0_, h1_, h2_, h3_, h4_, h5_, h6_, h7_, h8_, h9_, h10_, h11_, h12_, h13_, h14_, h15_, h16_, h17_, h18_, h19_, h20_, h21_, h22_, h23_, h24_, h25_, h26_, h27_, h28_, ⟨k28, hx9, hI⟩⟩
            obtain rfl := h19_ d19_0
            obtain rfl := h24_ d24_1
            obtain rfl := h13_ d13_2
            refine guard_true (b := true) ?_
            refine r_eql ?_
            exact ⟨h0_, h1_, h2_, h3_, h4_, h5_, h6_, h7_, h8_, h9_, h10_, h11_, h12_, h13_, h14_, h15_, h16_, h17_, h18_, h19_, h20_, h21_, h22_, h23_, h24_, fun _ => rfl, h26_, h27_, h28_, ⟨k28, hx9, hI⟩⟩
          · intro D hD_ d13_0 d25_1 d1_2 x9 x77 x76 x75 x74 x73 x72 x71 x70 x69 x68 x67 x66 x65 x64 x63 x62 x61 x60 x59 x58 x57 x56 x55 x54 x53 x52 x51 x50 w_
            rintro ⟨h0_, h1_, h2_, h3_, h4_, h5_, h6_, h7_, h8_, h9_, h10_, h11_, h12_, h13_, h14_, h15_, h16_, h17_, h18_, h19_, h20_, h21_, h22_, h23_, h24_, h25_, h26_, h27_, h28_, ⟨k28, hx9, hI⟩⟩
            obtain rfl := h13_ d13_0
            obtain rfl := h25_ d25_1
            obtain rfl := h1_ d1_2
            refine guard_true (b := false) ?_
            refine r_pickT ?_
            exact ⟨h0_, h1_, h2_, h3_, h4_, h5_, h6_, h7_, h8_, h9_, h10_, h11_, h12_, h13_, h14_, h15_, h16_, h17_, h18_, h19_, h20_, h21_, h22_, h23_, h24_, h25_, fun _ => rfl, h27_, h28_, ⟨k28, hx9, hI⟩⟩
          · intro D hD_ d1_0 d26_1 x9 x77 x76 x75 x74 x73 x72 x71 x70 x69 x68 x67 x66 x65 x64 x63 x62 x61 x60 x59 x58 x57 x56 x55 x54 x53 x52 x51 x50 w_
            rintro ⟨h0_, h1_, h2_, h3_, h4_, h5_, h6_, h7_, h8_, h9_, h10_, h11_, h12_, h13_, h14_, h15_, h16_, h17_, h18_, h19_, h20_, h21_, h22_, h23_, h24_, h25_, h26_, h27_, h28_, ⟨k28, hx9, hI⟩⟩
            obtain rfl := h1_ d1_0
            obtain rfl := h26_ d26_1
            refine r_pickF ?_
            exact ⟨h0_, h1_, h2_, h3_, h4_, h5_, h6_, h7_, h8_, h9_, h10_, h11_, h12_, h13_, h14_, h15_, h16_, h17_, h18_, h19_, h20_, h21_, h22_, h23_, h24_, h25_, h26_, fun _ => rfl, h28_, ⟨k28, hx9, hI⟩⟩
          · intro D hD_ d27_0 d13_1 d0_2 d1_3 d2_4 d3_5 d4_6 d5_7 d6_8 d7_9 d8_10 d9_11 d10_12 d11_13 d12_14 d13_15 d14_16 d15_17 d16_18 d17_19 d18_20 d19_21 d20_22 d21_23 d22_24 d23_25 d24_26 d25_27 d26_28 d27_29 x9 x77 x76 x75 x74 x73 x72 x71 x70 x69 x68 x67 x66 x65 x64 x63 x62 x61 x60 x59 x58 x57 x56 x55 x54 x53 x52 x51 x50 w_
            rintro ⟨h0_, h1_, h2_, h3_, h4_, h5_, h6_, h7_, h8_, h9_, h10_, h11_, h12_, h13_, h14_, h15_, h16_, h17_, h18_, h19_, h20_, h21_, h22_, h23_, h24_, h25_, h26_, h27_, h28_, ⟨k28, hx9, hI⟩⟩
            obtain rfl := h27_ d27_0
            have k28 := fun (_ : setD D 28 28 = true) => d0_2
            have hx9 : setD D 28 28 = false → (.bool (decide (((unkP q)[j].kids.length : Int) = (callsOf q x)[k].arity)) : Value) = .bool false := fun h => Bool.noConfusion h
            exact ⟨h0_, h1_, h2_, h3_, h4_, h5_, h6_, h7_, h8_, h9_, h10_, h11_, h12_, h13_, h14_, h15_, h16_, h17_, h18_, h19_, h20_, h21_, h22_, h23_, h24_, h25_, h26_, h27_, fun _ => rfl, ⟨k28, hx9, hI⟩⟩
          intro D d28_ d27_ d26_ d25_ d24_ d23_ d22_ d21_ d20_ d19_ d18_ d17_ d16_ d15_ d14_ d13_ d12_ d11_ d10_ d9_ d8_ d7_ d6_ d5_ d4_ d3_ d2_ d1_ d0_ x9 x77 x76 x75 x74 x73 x72 x71 x70 x69 x68 x67 x66 x65 x64 x63 x62 x61 x60 x59 x58 x57 x56 x55 x54 x53 x52 x51 x50 w_
          rintro ⟨h0_, h1_, h2_, h3_, h4_, h5_, h6_, h7_, h8_, h9_, h10_, h11_, h12_, h13_, h14_, h15_, h16_, h17_, h18_, h19_, h20_, h21_, h22_, h23_, h24_, h25_, h26_, h27_, h28_, ⟨k28, hx9, hI⟩⟩
          obtain rfl := h28_ d28_
          obtain rfl := h27_ d27_
          obtain rfl := h26_ d26_
          obtain rfl := h25_ d25_
          obtain rfl := h24_ d24_
          obtain rfl := h23_ d23_
          obtain rfl := h22_ d22_
          obtain rfl := h21_ d21_
          obtain rfl := h20_ d20_
          obtain rfl := h19_ d19_
          obtain rfl := h18_ d18_
          obtain rfl := h17_ d17_
          obtain rfl := h16_ d16_
          obtain rfl := h15_ d15_
          obtain rfl := h14_ d14_
          obtain rfl := h13_ d13_
          obtain rfl := h12_ d12_
          obtain rfl := h11_ d11_
          obtain rfl := h10_ d10_
          obtain rfl := h9_ d9_
          obtain rfl := h8_ d8_
          obtain rfl := h7_ d7_
          obtain rfl := h6_ d6_
          obtain rfl := h5_ d5_
          obtain rfl := h4_ d4_
          obtain rfl := h3_ d3_
          obtain rfl := h2_ d2_
          obtain rfl := h1_ d1_
          obtain rfl := h0_ d0_
          clear h0_ h1_ h2_ h3_ h4_ h5_ h6_ h7_ h8_ h9_ h10_ h11_ h12_ h13_ h14_ h15_ h16_ h17_ h18_ h19_ h20_ h21_ h22_ h23_ h24_ h25_ h26_ h27_ h28_
          refine r_add (by omega) ?_
          refine ⟨⟨j + 1, _, hj', rfl, rfl, ?_, hI⟩, by simp [intOf]; omega⟩
          rw [hnext, ← Bool.or_assoc, ← hc, mtB, hnm]
          rfl
      · have hI := hJ
        refine ⟨fun D x9 x77 x76 x75 x74 x73 x72 x71 x70 x69 x68 x67 x66 x65 x64 x63 x62 x61 x60 x59 x58 x57 x56 x55 x54 x53 x52 x51 x50 w_ => (D 0 = true → x50 = .bool true) ∧ (D 1 = true → x51 = .bool true) ∧ (D 2 = true → x52 = undef) ∧ (D 3 = true → x53 = undef) ∧ (D 4 = true → x54 = undef) ∧ (D 5 = true → x55 = undef) ∧ (D 6 = true → x56 = undef) ∧ (D 7 = true → x57 = undef) ∧ (D 8 = true → x58 = undef) ∧ (D 9 = true → x59 = undef) ∧ (D 10 = true → x60 = undef) ∧ (D 11 = true → x61 = undef) ∧ (D 12 = true → x62 = undef) ∧ (D 13 = true → x63 = undef) ∧ (D 14 = true → x64 = undef) ∧ (D 15 = true → x65 = undef) ∧ (D 16 = true → x66 = undef) ∧ (D 17 = true → x67 = undef) ∧ (D 18 = true → x68 = undef) ∧ (D 19 = true → x69 = undef) ∧ (D 20 = true → x70 = undef) ∧ (D 21 = true → x71 = undef) ∧ (D 22 = true → x72 = undef) ∧ (D 23 = true → x73 = undef) ∧ (D 24 = true → x74 = undef) ∧ (D 25 = true → x75 = undef) ∧ (D 26 = true → x76 = undef) ∧ (D 27 = true → x77 = .bool true) ∧ (D 28 = true → x9 = .bool true) ∧ (D 28 = true → D 0 = true) ∧ (D 28 = false → x9 = .bool true) ∧ Inv w [] [B4] S5 w_, ⟨fun h => Bool.noConfusion h, fun h => Bool.noConfusion h, fun h => Bool.noConfusion h, fun h => Bool.noConfusion h, fun h => Bool.noConfusion h, fun h => Bool.noConfusion h, fun h => Bool.noConfusion h, fun h => Bool.noConfusion h, fun h => Bool.noConfusion h, fun h => Bool.noConfusion h, fun h => Bool.noConfusion h, fun h => Bool.noConfusion h, fun h => Bool.noConfusion h, fun h => Bool.noConfusion h, fun h => Bool.noConfusion h, fun h => Bool.noConfusion h, fun h => Bool.noConfusion h, fun h => Bool.noConfusion h, fun h => Bool.noConfusion h, fun h => Bool.noConfusion h, fun h => Bool.noConfusion h, fun h => Bool.noConfusion h, fun h => Bool.noConfusion h, fun h => Bool.noConfusion h, fun h => Bool.noConfusion h, fun h => Bool.noConfusion h, fun h => Bool.noConfusion h, fun h => Bool.noConfusion h, fun h => Bool.noConfusion h, ⟨fun h => Bool.noConfusion h, fun _ => rfl, hI.draw⟩⟩, ⟨?_, ?_, ?_, ?_, ?_, ?_, ?_, ?_, ?_, ?_, ?_, ?_, ?_, ?_, ?_, ?_, ?_, ?_, ?_, ?_, ?_, ?_, ?_, ?_, ?_, ?_, ?_, ?_, ?_, trivial⟩, ?_⟩
        · intro D hD_  x9 x77 x76 x75 x74 x73 x72 x71 x70 x69 x68 x67 x66 x65 x64 x63 x62 x61 x60 x59 x58 x57 x56 x55 x54 x53 x52 x51 x50 w_
          rintro ⟨h0_, h1_, h2_, h3_, h4_, h5_, h6_, h7_, h8_, h9_, h10_, h11_, h12_, h13_, h14_, h15_, h16_, h17_, h18_, h19_, h20_, h21_, h22_, h23_, h24_, h25_, h26_, h27_, h28_, ⟨k28, hx9, hI⟩⟩
          have f28 : D 28 = false := Bool.eq_false_iff.2 fun h => by rw [k28 h] at hD_; cases hD_
          obtain rfl := hx9 f28
          have k28 := fun (_ : setD D 0 28 = true) => (rfl : setD D 0 0 = true)
          exact ⟨fun _ => rfl, h1_, h2_, h3_, h4_, h5_, h6_, h7_, h8_, h9_, h10_, h11_, h12_, h13_, h14_, h15_, h16_, h17_, h18_, h19_, h20_, h21_, h22_, h23_, h24_, h25_, h26_, h27_, h28_, ⟨k28, hx9, hI⟩⟩
        · intro D hD_ d0_0 x9 x77 x76 x75 x74 x73 x72 x71 x70 x69 x68 x67 x66 x65 x64 x63 x62 x61 x60 x59 x58 x57 x56 x55 x54 x53 x52 x51 x50 w_
          rintro ⟨h0_, h1_, h2_, h3_, h4_, h5_, h6_, h7_, h8_, h9_, h10_, h11_, h12_, h13_, h14_, h15_, h16_, h17_, h18_, h19_, h20_, h21_, h22_, h23_, h24_, h25_, h26_, h27_, h28_, ⟨k28, hx9, hI⟩⟩
          obtain rfl := h0_ d0_0
          exact ⟨h0_, fun _ => rfl, h2_, h3_, h4_, h5_, h6_, h7_, h8_, h9_, h10_, h11_, h12_, h13_, h14_, h15_, h16_, h17_, h18_, h19_, h20_, h21_, h22_, h23_, h24_, h25_, h26_, h27_, h28_, ⟨k28, hx9, hI⟩⟩
        · intro D hD_ d1_0 x9 x77 x76 x75 x74 x73 x72 x71 x70 x69 x68 x67 x66 x65 x64 x63 x62 x61 x60 x59 x58 x57 x56 x55 x54 x53 x52 x51 x50 w_
          rintro ⟨h0_, h1_, h2_, h3_, h4_, h5_, h6_, h7_, h8_, h9_, h10_, h11_, h12_, h13_, h14_, h15_, h16_, h17_, h18_, h19_, h20_, h21_, h22_, h23_, h24_, h25_, h26_, h27_, h28_, ⟨k28, hx9, hI⟩⟩
          obtain rfl := h1_ d1_0
          refine guard_ne (by decide) ?_
          exact ⟨h0_, h1_, fun _ => rfl, h3_, h4_, h5_, h6_, h7_, h8_, h9_, h10_, h11_, h12_, h13_, h14_, h15_, h16_, h17_, h18_, h19_, h20_, h21_, h22_, h23_, h24_, h25_, h26_, h27_, h28_, ⟨k28, hx9, hI⟩⟩
        · intro D hD_ d1_0 x9 x77 x76 x75 x74 x73 x72 x71 x70 x69 x68 x67 x66 x65 x64 x63 x62 x61 x60 x59 x58 x57 x56 x55 x54 x53 x52 x51 x50 w_
          rintro ⟨h0_, h1_, h2_, h3_, h4_, h5_, h6_, h7_, h8_, h9_, h10_, h11_, h12_, h13_, h14_, h15_, h16_, h17_, h18_, h19_, h20_, h21_, h22_, h23_, h24_, h25_, h26_, h27_, h28_, ⟨k28, hx9, hI⟩⟩
          obtain rfl := h1_ d1_0
          refine guard_ne (by decide) ?_
          exact ⟨h0_, h1_, h2_, fun _ => rfl, h4_, h5_, h6_, h7_, h8_, h9_, h10_, h11_, h12_, h13_, h14_, h15_, h16_, h17_, h18_, h19_, h20_, h21_, h22_, h23_, h24_, h25_, h26_, h27_, h28_, ⟨k28, hx9, hI⟩⟩
        · intro D hD_ d2_0 d3_1 d1_2 x9 x77 x76 x75 x74 x73 x72 x71 x70 x69 x68 x67 x66 x65 x64 x63 x62 x61 x60 x59 x58 x57 x56 x55 x54 x53 x52 x51 x50 w_
          rintro ⟨h0_, h1_, h2_, h3_, h4_, h5_, h6_, h7_, h8_, h9_, h10_, h11_, h12_, h13_, h14_, h15_, h16_, h17_, h18_, h19_, h20_, h21_, h22_, h23_, h24_, h25_, h26_, h27_, h28_, ⟨k28, hx9, hI⟩⟩
          obtain rfl := h2_ d2_0
          obtain rfl := h3_ d3_1
          obtain rfl := h1_ d1_2
          refine guard_ne (by decide) ?_
          exact ⟨h0_, h1_, h2_, h3_, fun _ => rfl, h5_, h6_, h7_, h8_, h9_, h10_, h11_, h12_, h13_, h14_, h15_, h16_, h17_, h18_, h19_, h20_, h21_, h22_, h23_, h24_, h25_, h26_, h27_, h28_, ⟨k28, hx9, hI⟩⟩
        · intro D hD_ d4_0 d1_1 x9 x77 x76 x75 x74 x73 x72 x71 x70 x69 x68 x67 x66 x65 x64 x63 x62 x61 x60 x59 x58 x57 x56 x55 x54 x53 x52 x51 x50 w_
          rintro ⟨h0_, h1_, h2_, h3_, h4_, h5_, h6_, h7_, h8_, h9_, h10_, h11_, h12_, h13_, h14_, h15_, h16_, h17_, h18_, h19_, h20_, h21_, h22_, h23_, h24_, h25_, h26_, h27_, h28_, ⟨k28, hx9, hI⟩⟩
          obtain rfl := h4_ d4_0
          obtain rfl := h1_ d1_1
          refine guard_ne (by decide) ?_
          exact ⟨h0_, h1_, h2_, h3_, h4_, fun _ => rfl, h6_, h7_, h8_, h9_, h10_, h11_, h12_, h13_, h14_, h15_, h16_, h17_, h18_, h19_, h20_, h21_, h22_, h23_, h24_, h25_, h26_, h27_, h28_, ⟨k28, hx9, hI⟩⟩
        · intro D hD_ d5_0 d1_1 x9 x77 x76 x75 x74 x73 x72 x71 x70 x69 x68 x67 x66 x65 x64 x63 x62 x61 x60 x59 x58 x57 x56 x55 x54 x53 x52 x51 x50 w_
          rintro ⟨h0_, h1_, h2_, h3_, h4_, h5_, h6_, h7_, h8_, h9_, h10_, h11_, h12_, h13_, h14_, h15_, h16_, h17_, h18_, h19_, h20_, h21_, h22_, h23_, h24_, h25_, h26_, h27_, h28_, ⟨k28, hx9, hI⟩⟩
          obtain rfl := h5_ d5_0
          obtain rfl := h1_ d1_1
          refine guard_ne (by decide) ?_
          exact ⟨h0_, h1_, h2_, h3_, h4_, h5_, fun _ => rfl, h7_, h8_, h9_, h10_, h11_, h12_, h13_, h14_, h15_, h16_, h17_, h18_, h19_, h20_, h21_, h22_, h23_, h24_, h25_, h26_, h27_, h28_, ⟨k28, hx9, hI⟩⟩
        · intro D hD_ d1_0 x9 x77 x76 x75 x74 x73 x72 x71 x70 x69 x68 x67 x66 x65 x64 x63 x62 x61 x60 x59 x58 x57 x56 x55 x54 x53 x52 x51 x50 w_
          rintro ⟨h0_, h1_, h2_, h3_, h4_, h5_, h6_, h7_, h8_, h9_, h10_, h11_, h12_, h13_, h14_, h15_, h16_, h17_, h18_, h19_, h20_, h21_, h22_, h23_, h24_, h25_, h26_, h27_, h28_, ⟨k28, hx9, hI⟩⟩
          obtain rfl := h1_ d1_0
          refine guard_ne (by decide) ?_
          exact ⟨h0_, h1_, h2_, h3_, h4_, h5_, h6_, fun _ => rfl, h8_, h9_, h10_, h11_, h12_, h13_, h14_, h15_, h16_, h17_, h18_, h19_, h20_, h21_, h22_, h23_, h24_, h25_, h26_, h27_, h28_, ⟨k28, hx9, hI⟩⟩
        · intro D hD_ d1_0 x9 x77 x76 x75 x74 x73 x72 x71 x70 x69 x68 x67 x66 x65 x64 x63 x62 x61 x60 x59 x58 x57 x56 x55 x54 x53 x52 x51 x50 w_
          rintro ⟨h0_, h1_, h2_, h3_, h4_, h5_, h6_, h7_, h8_, h9_, h10_, h11_, h12_, h13_, h14_, h15_, h16_, h17_, h18_, h19_, h20_, h21_, h22_, h23_, h24_, h25_, h26_, h27_, h28_, ⟨k28, hx9, hI⟩⟩
          obtain rfl := h1_ d1_0
          refine guard_ne (by decide) ?_
          exact ⟨h0_, h1_, h2_, h3_, h4_, h5_, h6_, h7_, fun _ => rfl, h9_, h10_, h11_, h12_, h13_, h14_, h15_, h16_, h17_, h18_, h19_, h20_, h21_, h22_, h23_, h24_, h25_, h26_, h27_, h28_, ⟨k28, hx9, hI⟩⟩
        · intro D hD_ d7_0 d8_1 d1_2 x9 x77 x76 x75 x74 x73 x72 x71 x70 x69 x68 x67 x66 x65 x64 x63 x62 x61 x60 x59 x58 x57 x56 x55 x54 x53 x52 x51 x50 w_
          rintro ⟨h0_, h1_, h2_, h3_, h4_, h5_, h6_, h7_, h8_, h9_, h10_, h11_, h12_, h13_, h14_, h15_, h16_, h17_, h18_, h19_, h20_, h21_, h22_, h23_, h24_, h25_, h26_, h27_, h28_, ⟨k28, hx9, hI⟩⟩
          obtain rfl := h7_ d7_0
          obtain rfl := h8_ d8_1
          obtain rfl := h1_ d1_2
          refine guard_ne (by decide) ?_
          exact ⟨h0_, h1_, h2_, h3_, h4_, h5_, h6_, h7_, h8_, fun _ => rfl, h10_, h11_, h12_, h13_, h14_, h15_, h16_, h17_, h18_, h19_, h20_, h21_, h22_, h23_, h24_, h25_, h26_, h27_, h28_, ⟨k28, hx9, hI⟩⟩
        · intro D hD_ d9_0 d1_1 x9 x77 x76 x75 x74 x73 x72 x71 x70 x69 x68 x67 x66 x65 x64 x63 x62 x61 x60 x59 x58 x57 x56 x55 x54 x53 x52 x51 x50 w_
          rintro ⟨h0_, h1_, h2_, h3_, h4_, h5_, h6_, h7_, h8_, h9_, h10_, h11_, h12_, h13_, h14_, h15_, h16_, h17_, h18_, h19_, h20_, h21_, h22_, h23_, h24_, h25_, h26_, h27_, h28_, ⟨k28, hx9, hI⟩⟩
          obtain rfl := h9_ d9_0
          obtain rfl := h1_ d1_1
          refine guard_ne (by decide) ?_
          exact ⟨h0_, h1_, h2_, h3_, h4_, h5_, h6_, h7_, h8_, h9_, fun _ => rfl, h11_, h12_, h13_, h14_, h15_, h16_, h17_, h18_, h19_, h20_, h21_, h22_, h23_, h24_, h25_, h26_, h27_, h28_, ⟨k28, hx9, hI⟩⟩
        · intro D hD_ d10_0 d1_1 x9 x77 x76 x75 x74 x73 x72 x71 x70 x69 x68 x67 x66 x65 x64 x63 x62 x61 x60 x59 x58 x57 x56 x55 x54 x53 x52 x51 x50 w_
          rintro ⟨h0_, h1_, h2_, h3_, h4_, h5_, h6_, h7_, h8_, h9_, h10_, h11_, h12_, h13_, h14_, h15_, h16_, h17_, h18_, h19_, h20_, h21_, h22_, h23_, h24_, h25_, h26_, h27_, h28_, ⟨k28, hx9, hI⟩⟩
          obtain rfl := h10_ d10_0
          obtain rfl := h1_ d1_1
          refine guard_ne (by decide) ?_
          exact ⟨h0_, h1_, h2_, h3_, h4_, h5_, h6_, h7_, h8_, h9_, h10_, fun _ => rfl, h12_, h13_, h14_, h15_, h16_, h17_, h18_, h19_, h20_, h21_, h22_, h23_, h24_, h25_, h26_, h27_, h28_, ⟨k28, hx9, hI⟩⟩
        · intro D hD_ d6_0 d11_1 d1_2 x9 x77 x76 x75 x74 x73 x72 x71 x70 x69 x68 x67 x66 x65 x64 x63 x62 x61 x60 x59 x58 x57 x56 x55 x54 x53 x52 x51 x50 w_
          rintro ⟨h0_, h1_, h2_, h3_, h4_, h5_, h6_, h7_, h8_, h9_, h10_, h11_, h12_, h13_, h14_, h15_, h16_, h17_, h18_, h19_, h20_, h21_, h22_, h23_, h24_, h25_, h26_, h27_, h28_, ⟨k28, hx9, hI⟩⟩
          obtain rfl := h6_ d6_0
          obtain rfl := h11_ d11_1
          obtain rfl := h1_ d1_2
          refine guard_ne (by decide) ?_
          exact ⟨h0_, h1_, h2_, h3_, h4_, h5_, h6_, h7_, h8_, h9_, h10_, h11_, fun _ => rfl, h13_, h14_, h15_, h16_, h17_, h18_, h19_, h20_, h21_, h22_, h23_, h24_, h25_, h26_, h27_, h28_, ⟨k28, hx9, hI⟩⟩
        · intro D hD_ d12_0 d1_1 d1_2 x9 x77 x76 x75 x74 x73 x72 x71 x70 x69 x68 x67 x66 x65 x64 x63 x62 x61 x60 x59 x58 x57 x56 x55 x54 x53 x52 x51 x50 w_
          rintro ⟨h0_, h1_, h2_, h3_, h4_, h5_, h6_, h7_, h8_, h9_, h10_, h11_, h12_, h13_, h14_, h15_, h16_, h17_, h18_, h19_, h20_, h21_, h22_, h23_, h24_, h25_, h26_, h27_, h28_, ⟨k28, hx9, hI⟩⟩
          obtain rfl := h12_ d12_0
          obtain rfl := h1_ d1_1
          refine guard_ne (by decide) ?_
          exact ⟨h0_, h1_, h2_, h3_, h4_, h5_, h6_, h7_, h8_, h9_, h10_, h11_, h12_, fun _ => rfl, h14_, h15_, h16_, h17_, h18_, h19_, h20_, h21_, h22_, h23_, h24_, h25_, h26_, h27_, h28_, ⟨k28, hx9, hI⟩⟩
        · intro D hD_ d13_0 x9 x77 x76 x75 x74 x73 x72 x71 x70 x69 x68 x67 x66 x65 x64 x63 x62 x61 x60 x59 x58 x57 x56 x55 x54 x53 x52 x51 x50 w_
          rintro ⟨h0_, h1_, h2_, h3_, h4_, h5_, h6_, h7_, h8_, h9_, h10_, h11_, h12_, h13_, h14_, h15_, h16_, h17_, h18_, h19_, h20_, h21_, h22_, h23_, h24_, h25_, h26_, h27_, h28_, ⟨k28, hx9, hI⟩⟩
          obtain rfl := h13_ d13_0
          refine guard_undef ?_
          exact ⟨h0_, h1_, h2_, h3_, h4_, h5_, h6_, h7_, h8_, h9_, h10_, h11_, h12_, h13_, fun _ => rfl, h15_, h16_, h17_, h18_, h19_, h20_, h21_, h22_, h23_, h24_, h25_, h26_, h27_, h28_, ⟨k28, hx9, hI⟩⟩
        · intro D hD_ d13_0 x9 x77 x76 x75 x74 x73 x72 x71 x70 x69 x68 x67 x66 x65 x64 x63 x62 x61 x60 x59 x58 x57 x56 x55 x54 x53 x52 x51 x50 w_
          rintro ⟨h0_, h1_, h2_, h3_, h4_, h5_, h6_, h7_, h8_, h9_, h10_, h11_, h12_, h13_, h14_, h15_, h16_, h17_, h18_, h19_, h20_, h21_, h22_, h23_, h24_, h25_, h26_, h27_, h28_, ⟨k28, hx9, hI⟩⟩
          obtain rfl := h13_ d13_0
          refine guard_undef ?_
          exact ⟨h0_, h1_, h2_, h3_, h4_, h5_, h6_, h7_, h8_, h9_, h10_, h11_, h12_, h13_, h14_, fun _ => rfl, h16_, h17_, h18_, h19_, h20_, h21_, h22_, h23_, h24_, h25_, h26_, h27_, h28_, ⟨k28, hx9, hI⟩⟩
        · intro D hD_ d14_0 d15_1 d13_2 x9 x77 x76 x75 x74 x73 x72 x71 x70 x69 x68 x67 x66 x65 x64 x63 x62 x61 x60 x59 x58 x57 x56 x55 x54 x53 x52 x51 x50 w_
          rintro ⟨h0_, h1_, h2_, h3_, h4_, h5_, h6_, h7_, h8_, h9_, h10_, h11_, h12_, h13_, h14_, h15_, h16_, h17_, h18_, h19_, h20_, h21_, h22_, h23_, h24_, h25_, h26_, h27_, h28_, ⟨k28, hx9, hI⟩⟩
          obtain rfl := h14_ d14_0
          obtain rfl := h15_ d15_1
          obtain rfl := h13_ d13_2
          refine guard_undef ?_
          exact ⟨h0_, h1_, h2_, h3_, h4_, h5_, h6_, h7_, h8_, h9_, h10_, h11_, h12_, h13_, h14_, h15_, fun _ => rfl, h17_, h18_, h19_, h20_, h21_, h22_, h23_, h24_, h25_, h26_, h27_, h28_, ⟨k28, hx9, hI⟩⟩
        · intro D hD_ d16_0 d13_1 x9 x77 x76 x75 x74 x73 x72 x71 x70 x69 x68 x67 x66 x65 x64 x63 x62 x61 x60 x59 x58 x57 x56 x55 x54 x53 x52 x51 x50 w_
          rintro ⟨h0_, h1_, h2_, h3_, h4_, h5_, h6_, h7_, h8_, h9_, h10_, h11_, h12_, h13_, h14_, h15_, h16_, h17_, h18_, h19_, h20_, h21_, h22_, h23_, h24_, h25_, h26_, h27_, h28_, ⟨k28, hx9, hI⟩⟩
          obtain rfl := h16_ d16_0
          obtain rfl := h13_ d13_1
          refine guard_undef ?_
          exact ⟨h0_, h1_, h2_, h3_, h4_, h5_, h6_, h7_, h8_, h9_, h10_, h11_, h12_, h13_, h14_, h15_, h16_, fun _ => rfl, h18_, h19_, h20_, h21_, h22_, h23_, h24_, h25_, h26_, h27_, h28_, ⟨k28, hx9, hI⟩⟩
        · intro D hD_ d17_0 d13_1 x9 x77 x76 x75 x74 x73 x72 x71 x70 x69 x68 x67 x66 x65 x64 x63 x62 x61 x60 x59 x58 x57 x56 x55 x54 x53 x52 x51 x50 w_
          rintro ⟨h0_, h1_, h2_, h3_, h4_, h5_, h6_, h7_, h8_, h9_, h10_, h11_, h12_, h13_, h14_, h15_, h16_, h17_, h18_, h19_, h20_, h21_, h22_, h23_, h24_, h25_, h26_, h27_, h28_, ⟨k28, hx9, hI⟩⟩
          obtain rfl := h17_ d17_0
          obtain rfl := h13_ d13_1
          refine guard_undef ?_
          exact ⟨h0_, h1_, h2_, h3_, h4_, h5_, h6_, h7_, h8_, h9_, h10_, h11_, h12_, h13_, h14_, h15_, h16_, h17_, fun _ => rfl, h19_, h20_, h21_, h22_, h23_, h24_, h25_, h26_, h27_, h28_, ⟨k28, hx9, hI⟩⟩
        · intro D hD_ d18_0 d13_1 x9 x77 x76 x75 x74 x73 x72 x71 x70 x69 x68 x67 x66 x65 x64 x63 x62 x61 x60 x59 x58 x57 x56 x55 x54 x53 x52 x51 x50 w_
          rintro ⟨h0_, h1_, h2_, h3_, h4_, h5_, h6_, h7_, h8_, h9_, h10_, h11_, h12_, h13_, h14_, h15_, h16_, h17_, h18_, h19_, h20_, h21_, h22_, h23_, h24_, h25_, h26_, h27_, h28_, ⟨k28, hx9, hI⟩⟩
          obtain rfl := h18_ d18_0
          obtain rfl := h13_ d13_1
          refine guard_undef ?_
          exact ⟨h0_, h1_, h2_, h3_, h4_, h5_, h6_, h7_, h8_, h9_, h10_, h11_, h12_, h13_, h14_, h15_, h16_, h17_, h18_, fun _ => rfl, h20_, h21_, h22_, h23_, h24_, h25_, h26_, h27_, h28_, ⟨k28, hx9, hI⟩⟩
        · intro D hD_ d13_0 x9 x77 x76 x75 x74 x73 x72 x71 x70 x69 x68 x67 x66 x65 x64 x63 x62 x61 x60 x59 x58 x57 x56 x55 x54 x53 x52 x51 x50 w_
          rintro ⟨h0_, h1_, h2_, h3_, h4_, h5_, h6_, h7_, h8_, h9_, h10_, h11_, h12_, h13_, h14_, h15_, h16_, h17_, h18_, h19_, h20_, h21_, h22_, h23_, h24_, h25_, h26_, h27_, h28_, ⟨k28, hx9, hI⟩⟩
          obtain rfl := h13_ d13_0
          refine guard_undef ?_
          exact ⟨h0_, h1_, h2_, h3_, h4_, h5_, h6_, h7_, h8_, h9_, h10_, h11_, h12_, h13_, h14_, h15_, h16_, h17_, h18_, h19_, fun _ => rfl, h21_, h22_, h23_, h24_, h25_, h26_, h27_, h28_, ⟨k28, hx9, hI⟩⟩
        · intro D hD_ d13_0 x9 x77 x76 x75 x74 x73 x72 x71 x70 x69 x68 x67 x66 x65 x64 x63 x62 x61 x60 x59 x58 x57 x56 x55 x54 x53 x52 x51 x50 w_
          rintro ⟨h0_, h1_, h2_, h3_, h4_, h5_, h6_, h7_, h8_, h9_, h10_, h11_, h12_, h13_, h14_, h15_, h16_, h17_, h18_, h19_, h20_, h21_, h22_, h23_, h24_, h25_, h26_, h27_, h28_, ⟨k28, hx9, hI⟩⟩
          obtain rfl := h13_ d13_0
          refine guard_undef ?_
          exact ⟨h0_, h1_, h2_, h3_, h4_, h5_, h6_, h7_, h8_, h9_, h10_, h11_, h12_, h13_, h14_, h15_, h16_, h17_, h18_, h19_, h20_, fun _ => rfl, h22_, h23_, h24_, h25_, h26_, h27_, h28_, ⟨k28, hx9, hI⟩⟩
        · intro D hD_ d20_0 d21_1 d13_2 x9 x77 x76 x75 x74 x73 x72 x71 x70 x69 x68 x67 x66 x65 x64 x63 x62 x61 x60 x59 x58 x57 x56 x55 x54 x53 x52 x51 x50 w_
          rintro ⟨h0_, h1_, h2_, h3_, h4_, h5_, h6_, h7_, h8_, h9_, h10_, h11_, h12_, h13_, h14_, h15_, h16_, h17_, h18_, h19_, h20_, h21_, h22_, h23_, h24_, h25_, h26_, h27_, h28_, ⟨k28, hx9, hI⟩⟩
          obtain rfl := h20_ d20_0
          obtain rfl := h21_ d21_1
          obtain rfl := h13_ d13_2
          refine guard_undef ?_
          exact ⟨h0_, h1_, h2_, h3_, h4_, h5_, h6_, h7_, h8_, h9_, h10_, h11_, h12_, h13_, h14_, h15_, h16_, h17_, h18_, h19_, h20_, h21_, fun _ => rfl, h23_, h24_, h25_, h26_, h27_, h28_, ⟨k28, hx9, hI⟩⟩
        · intro D hD_ d22_0 d13_1 x9 x77 x76 x75 x74 x73 x72 x71 x70 x69 x68 x67 x66 x65 x64 x63 x62 x61 x60 x59 x58 x57 x56 x55 x54 x53 x52 x51 x50 w_
          rintro ⟨h0_, h1_, h2_, h3_, h4_, h5_, h6_, h7_, h8_, h9_, h10_, h11_, h12_, h13_, h14_, h15_, h16_, h17_, h18_, h19_, h20_, h21_, h22_, h23_, h24_, h25_, h26_, h27_, h28_, ⟨k28, hx9, hI⟩⟩
          obtain rfl := h22_ d22_0
          obtain rfl := h13_ d13_1
          refine guard_undef ?_
          exact ⟨h0_, h1_, h2_, h3_, h4_, h5_, h6_, h7_, h8_, h9_, h10_, h11_, h12_, h13_, h14_, h15_, h16_, h17_, h18_, h19_, h20_, h21_, h22_, fun _ => rfl, h24_, h25_, h26_, h27_, h28_, ⟨k28, hx9, hI⟩⟩
        · intro D hD_ d23_0 d13_1 x9 x77 x76 x75 x74 x73 x72 x71 x70 x69 x68 x67 x66 x65 x64 x63 x62 x61 x60 x59 x58 x57 x56 x55 x54 x53 x52 x51 x50 w_
          rintro ⟨h0_, h1_, h2_, h3_, h4_, h5_, h6_, h7_, h8_, h9_, h10_, h11_, h12_, h13_, h14_, h15_, h16_, h17_, h18_, h19_, h20_, h21_, h22_, h23_, h24_, h25_, h26_, h27_, h28_, ⟨k28, hx9, hI⟩⟩
          obtain rfl := h23_ d23_0
          obtain rfl := h13_ d13_1
          refine guard_undef ?_
          exact ⟨h0_, h1_, h2_, h3_, h4_, h5_, h6_, h7_, h8_, h9_, h10_, h11_, h12_, h13_, h14_, h15_, h16_, h17_, h18_, h19_, h20_, h21_, h22_, h23_, fun _ => rfl, h25_, h26_, h27_, h28_, ⟨k28, hx9, hI⟩⟩
        · intro D hD_ d19_0 d24_1 d13_2 x9 x77 x76 x75 x74 x73 x72 x71 x70 x69 x68 x67 x66 x65 x64 x63 x62 x61 x60 x59 x58 x57 x56 x55 x54 x53 x52 x51 x50 w_
          rintro ⟨h0_, h1_, h2_, h3_, h4_, h5_, h6_, h7_, h8_, h9_, h10_, h11_, h12_, h13_, h14_, h15_, h16_, h17_, h18_, h19_, h20_, h21_, h22_, h23_, h24_, h25_, h26_, h27_, h28_, ⟨k28, hx9, hI⟩⟩
          obtain rfl := h19_ d19_0
          obtain rfl := h24_ d24_1
          obtain rfl := h13_ d13_2
          refine guard_undef ?_
          exact ⟨h0_, h1_, h2_, h3_, h4_, h5_, h6_, h7_, h8_, h9_, h10_, h11_, h12_, h13_, h14_, h15_, h16_, h17_, h18_, h19_, h20_, h21_, h22_, h23_, h24_, fun _ => rfl, h26_, h27_, h28_, ⟨k28, hx9, hI⟩⟩
        · intro D hD_ d13_0 d25_1 d1_2 x9 x77 x76 x75 x74 x73 x72 x71 x70 x69 x68 x67 x66 x65 x64 x63 x62 x61 x60 x59 x58 x57 x56 x55 x54 x53 x52 x51 x50 w_
          rintro ⟨h0_, h1_, h2_, h3_, h4_, h5_, h6_, h7_, h8_, h9_, h10_, h11_, h12_, h13_, h14_, h15_, h16_, h17_, h18_, h19_, h20_, h21_, h22_, h23_, h24_, h25_, h26_, h27_, h28_, ⟨k28, hx9, hI⟩⟩
          obtain rfl := h13_ d13_0
          obtain rfl := h25_ d25_1
          obtain rfl := h1_ d1_2
          refine guard_ne (by decide) ?_
          exact ⟨h0_, h1_, h2_, h3_, h4_, h5_, h6_, h7_, h8_, h9_, h10_, h11_, h12_, h13_, h14_, h15_, h16_, h17_, h18_, h19_, h20_, h21_, h22_, h23_, h24_, h25_, fun _ => rfl, h27_, h28_, ⟨k28, hx9, hI⟩⟩
        · intro D hD_ d1_0 d26_1 x9 x77 x76 x75 x74 x73 x72 x71 x70 x69 x68 x67 x66 x65 x64 x63 x62 x61 x60 x59 x58 x57 x56 x55 x54 x53 x52 x51 x50 w_
          rintro ⟨h0_, h1_, h2_, h3_, h4_, h5_, h6_, h7_, h8_, h9_, h10_, h11_, h12_, h13_, h14_, h15_, h16_, h17_, h18_, h19_, h20_, h21_, h22_, h23_, h24_, h25_, h26_, h27_, h28_, ⟨k28, hx9, hI⟩⟩
          obtain rfl := h1_ d1_0
          obtain rfl := h26_ d26_1
          refine r_pickT ?_
          exact ⟨h0_, h1_, h2_, h3_, h4_, h5_, h6_, h7_, h8_, h9_, h10_, h11_, h12_, h13_, h14_, h15_, h16_, h17_, h18_, h19_, h20_, h21_, h22_, h23_, h24_, h25_, h26_, fun _ => rfl, h28_, ⟨k28, hx9, hI⟩⟩
        · intro D hD_ d27_0 d13_1 d0_2 d1_3 d2_4 d3_5 d4_6 d5_7 d6_8 d7_9 d8_10 d9_11 d10_12 d11_13 d12_14 d13_15 d14_16 d15_17 d16_18 d17_19 d18_20 d19_21 d20_22 d21_23 d22_24 d23_25 d24_26 d25_27 d26_28 d27_29 x9 x77 x76 x75 x74 x73 x72 x71 x70 x69 x68 x67 x66 x65 x64 x63 x62 x61 x60 x59 x58 x57 x56 x55 x54 x53 x52 x51 x50 w_
          rintro ⟨h0_, h1_, h2_, h3_, h4_, h5_, h6_, h7_, h8_, h9_, h10_, h11_, h12_, h13_, h14_, h15_, h16_, h17_, h18_, h19_, h20_, h21_, h22_, h23_, h24_, h25_, h26_, h27_, h28_, ⟨k28, hx9, hI⟩⟩
          obtain rfl := h27_ d27_0
          have k28 := fun (_ : setD D 28 28 = true) => d0_2
          have hx9 : setD D 28 28 = false → (.bool true : Value) = .bool true := fun h => Bool.noConfusion h
          exact ⟨h0_, h1_, h2_, h3_, h4_, h5_, h6_, h7_, h8_, h9_, h10_, h11_, h12_, h13_, h14_, h15_, h16_, h17_, h18_, h19_, h20_, h21_, h22_, h23_, h24_, h25_, h26_, h27_, fun _ => rfl, ⟨k28, hx9, hI⟩⟩
        intro D d28_ d27_ d26_ d25_ d24_ d23_ d22_ d21_ d20_ d19_ d18_ d17_ d16_ d15_ d14_ d13_ d12_ d11_ d10_ d9_ d8_ d7_ d6_ d5_ d4_ d3_ d2_ d1_ d0_ x9 x77 x76 x75 x74 x73 x72 x71 x70 x69 x68 x67 x66 x65 x64 x63 x62 x61 x60 x59 x58 x57 x56 x55 x54 x53 x52 x51 x50 w_
        rintro ⟨h0_, h1_, h2_, h3_, h4_, h5_, h6_, h7_, h8_, h9_, h10_, h11_, h12_, h13_, h14_, h15_, h16_, h17_, h18_, h19_, h20_, h21_, h22_, h23_, h24_, h25_, h26_, h27_, h28_, ⟨k28, hx9, hI⟩⟩
        obtain rfl := h28_ d28_
        obtain rfl := h27_ d27_
        obtain rfl := h26_ d26_
        obtain rfl := h25_ d25_
        obtain rfl := h24_ d24_
        obtain rfl := h23_ d23_
        obtain rfl := h22_ d22_
        obtain rfl := h21_ d21_
        obtain rfl := h20_ d20_
        obtain rfl := h19_ d19_
        obtain rfl := h18_ d18_
        obtain rfl := h17_ d17_
        obtain rfl := h16_ d16_
        obtain rfl := h15_ d15_
        obtain rfl := h14_ d14_
        obtain rfl := h13_ d13_
        obtain rfl := h12_ d12_
        obtain rfl := h11_ d11_
        obtain rfl := h10_ d10_
        obtain rfl := h9_ d9_
        obtain rfl := h8_ d8_
        obtain rfl := h7_ d7_
        obtain rfl := h6_ d6_
        obtain rfl := h5_ d5_
        obtain rfl := h4_ d4_
        obtain rfl := h3_ d3_
        obtain rfl := h2_ d2_
        obtain rfl := h1_ d1_
        obtain rfl := h0_ d0_
        clear h0_ h1_ h2_ h3_ h4_ h5_ h6_ h7_ h8_ h9_ h10_ h11_ h12_ h13_ h14_ h15_ h16_ h17_ h18_ h19_ h20_ h21_ h22_ h23_ h24_ h25_ h26_ h27_ h28_
        refine r_add (by omega) ?_
        refine ⟨⟨j + 1, true, hj', rfl, rfl, ?_, hI⟩, by simp [intOf]; omega⟩
        rw [hnext, ← Bool.or_assoc, ← hc]
        rfl
    · have : j = (unkP q).length := by omega
      subst this
      rw [List.take_length, hfound] at hc
      subst hc
      refine r_not ?_
      refine condV (fun hb => by cases hb) (fun _ => ?_)
      refine r_add (by omega) ?_
      exact ⟨⟨k + 1, hk', rfl, hI⟩, by simp [intOf]; omega⟩
  · exact doneS hI hle rfl
end
end Go.Proofs.YtmnnpgdeecnfpaaGreat

/- What every row of this seat owes beside its walk: the arguments read again as they did, and nothing that was there has turned. -/
namespace Go.Proofs.YtmnnpgdeecnfpaaGreat
open Go Go.ChangeShapes Go.WideShapes Go.ChangeAt Go.RowKit

theorem Tryz.own : ownKnob Tryz.prog.godebug = none := by kernel_rfl
theorem Tryz.kids : Kids Tryz.prog (· < Tryz.prog.types.size) := kids_rows (by kernel_rfl) (by kernel_rfl)
theorem Tryz.full : ∀ t e, t < Tryz.prog.types.size → Tryz.prog.underlying t = some (.slice e) → 0 < Tryz.prog.cellsOf e := slices_full_of Tryz.prog (by kernel_rfl)
section
variable {H : Type} {enc : TypeId × Value → H} {W W' : World}
theorem carryAll {P : Program} : ∀ {ts : List TypeId} {vs : List Value} {ds : List (DataW H)} {ps : List MemPlace}, DataW.TrodAll enc P W 0 (fun _ => true) true ts vs ds ps → (∀ p ∈ ps, W.sameAt W' p) →
    DataW.TrodAll enc P W' 0 (fun _ => true) true ts vs ds ps
  | [], [], [], _, h, _ => h
  | _ :: _, _ :: _, _ :: _, _, ⟨p, q, ⟨n, h1⟩, h2, e⟩, hs =>
    ⟨p, q, ⟨n, DataW.trod_carry n _ _ _ h1 fun x hx => hs x (by rw [e]; exact List.mem_append_left _ hx)⟩, carryAll h2 fun x hx => hs x (by rw [e]; exact List.mem_append_right _ hx), e⟩
theorem same_at {p : MemPlace} (h : ∀ b, b < W.heap.size → W'.heap[b]? = W.heap[b]?) (hp : p.block < W.heap.size) : W.sameAt W' p := by
  cases p with
  | cell b off => simp only [World.sameAt, World.cell?]; rw [h b hp]
  | map b => exact h b hp
/- a function of the program whose walk ends with 'true' and with all that was there as it was: the row's 'post' -/
theorem post_true {f : Func} {s : ChangeSpec} {args : Array Value} {ds gs : List (DataW H)} {before p q : List MemPlace}
    (hW : DataW.Whole enc Tryz.prog f.params.toList s.vars false W args.toList ds gs before) (hA : DataW.TrodAll enc Tryz.prog W 0 (fun _ => true) true f.params.toList args.toList ds p)
    (hV : DataW.TrodVars enc Tryz.prog W (fun _ => true) s.vars gs q) (hb : before = p ++ q) (hv : s.vars = []) (hts : ∀ t ∈ f.params.toList, t < Tryz.prog.types.size) (hr : f.resultTypes = #[t_bool])
    (hs : (s.fn H (ds ++ gs)).results = [.lit (.bool true)]) (ha : (s.fn H (ds ++ gs)).args = ds) (hsv : (s.fn H (ds ++ gs)).vars = []) (hI : Inv W [] [] (heapS W) W') :
    s.post enc Tryz.prog f false true false false W args (.bool true) W' := by
  have hsame : ∀ b, b < W.heap.size → W'.heap[b]? = W.heap[b]? := fun b hb => hI.same b hb
  have hlt := hW.lt
  rw [hv] at hV
  obtain ⟨hg, hq⟩ := trodVars_none hV
  subst hq
  rw [List.append_nil] at hb
  subst hb
  have hA' := carryAll (W' := W') hA fun x hx => same_at hsame (hlt x hx)
  refine ⟨ds, gs, before, [], before, [], hW, ?_, ?_, ?_, same_kept hI.os hI.output hsame, fun h => by cases h⟩
  · rw [hs, hr]
    exact trodAll_mk1 (shut_bool un_bool true)
  · rw [ha]
    exact DataW.TrodAll.respare Tryz.kids Tryz.full hts hA' fun x hx => by simpa using hlt x hx
  · rw [hv, hsv]
    rfl
end

end Go.Proofs.YtmnnpgdeecnfpaaGreat

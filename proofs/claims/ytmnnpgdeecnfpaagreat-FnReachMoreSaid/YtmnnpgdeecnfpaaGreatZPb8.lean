/- FnReachOf and FnReachMore return true, whatever bytes come in: the walks. -/
import Derived.Test.YtmnnpgdeecnfpaaGreatZPb7
import Derived.Test.YtmnnpgdeecnfpaaGreatZPb1
namespace Go.Proofs.YtmnnpgdeecnfpaaGreat
open Go Go.RowKit
theorem nodup_take {l : List Pd} (h : l.Nodup) (k : Nat) (hk : k < l.length) : hasP (l.take k) l[k] = false := by
  cases he : hasP (l.take k) l[k]
  · rfl
  · rw [hasP_mem] at he
    have h2 : (l.take k ++ l.drop k).Nodup := by rw [List.take_append_drop]; exact h
    rw [List.nodup_append] at h2
    exact absurd rfl (h2.2.2 _ he _ (by rw [List.drop_eq_getElem_cons hk]; exact List.mem_cons_self ..))
theorem LightT.fit {q : List T} (h : LightT 10 400 q) : q.length + wL q ≤ 1048576 := by
  have := h.le; omega
theorem sum_take (f : T → Nat) (l : List T) (k : Nat) (h : k < l.length) : ((l.take (k + 1)).map f).sum = ((l.take k).map f).sum + f l[k] := by
  rw [List.take_succ_eq_append_getElem h, List.map_append, List.sum_append]
  simp
section
variable {S : Store} {ys : List Nat} {v : Value} {w : World} {K : Value → World → Prop}
attribute [local irreducible] Run CondV GuardV LoadV
theorem r_sliceMid {α : Type} {R : List Value → α → Prop} {xs : List α} {u : Value} {T ty e : TypeId} {k l h : Nat} {P : Program} (hT : sliceOf P T = some (e, k)) (hx : RdSl S k R u xs) (hl : l ≤ h) (hh : h ≤ xs.length)
    (hk : ∀ v', RdSl S k R v' ((xs.take h).drop l) → K v' w) : Run P (sOp (.slice T (.const u) (some (.const (.int .i64 l))) (some (.const (.int .i64 h))) none) ty) w K := by
  obtain ⟨a, cap, rfl, hlc, hc, hx'⟩ := id hx
  have h1 := hx.to hh
  have e : (if cap = 0 then a else a.map (·.add (0 * k))) = a := by
    split
    · rfl
    · cases a <;> simp [Addr.add]
  rw [e] at h1
  have hlt : (xs.take h).length = h := by rw [List.length_take]; omega
  have h2 := h1.from (l := l) (by omega)
  exact r_slMid hT hl (by omega) (hk _ h2)
theorem lawPReach_calls (h : RdSl S 1 RdU8 v ys) : Pure Tryz.prog n_l_FnReachOf [v] S (.bool true) := by
  intro w hI
  refine calls_l_FnReachOf ?_
  unfold sh_l_FnReachOf
  refine r_lenSl h sl_Suint8 ?_
  refine r_gtr ?_
  refine condP (fun _ => done hI rfl) (fun _ => ?_)
  refine Run.call0E fn_s_DrawReachOf nm_s_DrawReachOf hI (DrawReachOf_calls h) fun t10 I' S1 w' => ?_
  rintro ⟨rfl, p, g, ps, q, rfl, hps, hlp, hq, hlq⟩ hE1 hI
  have hw := hlp.fit
  have hw2 := hlq.fit
  have hI : Inv w [] [] S1 w' := hI
  refine r_extract (v := p) rfl ?_
  refine r_extract (v := g) rfl ?_
  refine Run.pubRow (l := reachOf ps q) fn_i_ReachOf nm_i_ReachOf hI (i_ReachOf_calls hps hq hw hw2) fun t19 S2 w' hle2 h2 hI => ?_
  refine Run.pubRow (l := reachOf ps q) fn_s_ReachOf nm_s_ReachOf hI (s_ReachOf_calls (hps.monoC hle2) (hq.monoT hle2) hw hw2) fun t23 S3 w' hle3 h3 hI => ?_
  have h2 := h2.monoP hle3
  have hps := hps.monoC (hle2.trans hle3)
  have hle := (hE1.1.trans hle2).trans hle3
  refine Run.callPure fn_l_pgPreds nm_l_pgPreds hI (pgPreds_calls h2 h3) fun w' hI => ?_
  refine r_not ?_
  refine condV (fun hb => by cases hb) (fun _ => ?_)
  have hll := h2.le
  simp only [maxLen] at hll
  refine ⟨fun i w' => ∃ (k : Nat) (S4 : Store), k ≤ (reachOf ps q).length ∧ i = .int .i64 k ∧ Sle S3 S4 ∧ Inv w [] [] S4 w', fun i _ => (reachOf ps q).length - (intOf i).toNat, ⟨0, S3, Nat.zero_le _, rfl, Sle.refl _, hI⟩, ?_⟩
  intro t6 _ _ _ _ _ _ _ _ _ _ _ _ _ _ _ _ _ _ _ _ _ _ _ _ _ _ _ _ _ _ _ _ _ _ _ _ w'
  rintro ⟨k, S4, hk, rfl, hle4, hI⟩
  have h2 := h2.monoP hle4
  have hps := hps.monoC hle4
  have hle := hle.trans hle4
  refine r_lenSl h2 sl_SiPred ?_
  refine r_lss ?_
  refine condP (fun hki => ?_) (fun hki => doneS hI hle rfl)
  have hk' : k < (reachOf ps q).length := by omega
  have hmem := List.getElem_mem hk'
  refine r_elem hI h2 sl_SiPred ag_iPred hk' (fun cs x hx => by rw [hx]; rfl) fun cs hcs => ?_
  have hcs : cs = Pd.cells _ := hcs
  subst hcs
  refine Run.pubRow (l := callsOf ps (reachOf ps q)[k]) fn_i_CallsOf nm_i_CallsOf hI (i_CallsOf_calls _ hps hw) fun t37 S5 w' hle5 h5 hI => ?_
  have h2 := h2.monoP hle5
  have hcl := h5.le
  simp only [maxLen] at hcl
  refine ⟨fun i w' => ∃ j : Nat, j ≤ (callsOf ps (reachOf ps q)[k]).length ∧ i = .int .i64 j ∧ Inv w [] [] S5 w', fun i _ => (callsOf ps (reachOf ps q)[k]).length - (intOf i).toNat, ⟨0, Nat.zero_le _, rfl, hI⟩, ?_⟩
  intro t8 _ _ _ _ _ _ _ _ _ _ _ _ _ _ w'
  rintro ⟨j, hj, rfl, hI⟩
  refine r_lenSl h5 sl_SiPred ?_
  refine r_lss ?_
  refine condP (fun hji => ?_) (fun hji => ?_)
  · have hj' : j < (callsOf ps (reachOf ps q)[k]).length := by omega
    refine r_elem hI h5 sl_SiPred ag_iPred hj' (fun cs x hx => by rw [hx]; rfl) fun cs hcs => ?_
    have hcs : cs = Pd.cells _ := hcs
    subst hcs
    refine Run.callPure fn_l_pgPred nm_l_pgPred hI (pgPred_calls _ h2) fun w' hI => ?_
    rw [hasP_mem.2 (reachOf_closed hmem (List.getElem_mem hj'))]
    refine r_not ?_
    refine condV (fun hb => by cases hb) (fun _ => ?_)
    refine r_add (by omega) ?_
    exact ⟨⟨j + 1, hj', rfl, hI⟩, by simp [intOf]; omega⟩
  · have hJ := hI
    obtain ⟨b, o, cap, c, E, fz, rfl, hS, hR⟩ := h2.at_ hk'
    have hI := hJ
    have hR1 : cellsAt c (o + k * 2) 2 = [.string (reachOf ps q)[k].name, .int .i64 (reachOf ps q)[k].arity] := hR
    refine ⟨fun D x58 x57 x56 x55 x54 x53 x52 x51 w_ => (D 0 = true → x51 = .slice (some ⟨b, o, none⟩) (reachOf ps q).length cap) ∧ (D 1 = true → x52 = .int .i64 k) ∧ (D 2 = true → RdSl S5 2 RdPd x53 ((reachOf ps q).take k)) ∧ (D 3 = true → x54 = .slice (some ⟨b, o, none⟩) (reachOf ps q).length cap) ∧ (D 4 = true → x55 = .int .i64 k) ∧ (D 5 = true → x56 = .pointer (some ⟨b, o + k * 2, none⟩)) ∧ (D 6 = true → x57 = .agg #[.string (reachOf ps q)[k].name, .int .i64 (reachOf ps q)[k].arity]) ∧ (D 7 = true → x58 = .bool false) ∧ Inv w [] [] S5 w_, ⟨fun h => Bool.noConfusion h, fun h => Bool.noConfusion h, fun h => Bool.noConfusion h, fun h => Bool.noConfusion h, fun h => Bool.noConfusion h, fun h => Bool.noConfusion h, fun h => Bool.noConfusion h, fun h => Bool.noConfusion h, hI.draw⟩, ⟨?_, ?_, ?_, ?_, ?_, ?_, ?_, ?_, trivial⟩, ?_⟩
    · intro D hD_  x58 x57 x56 x55 x54 x53 x52 x51 w_
      rintro ⟨h0_, h1_, h2_, h3_, h4_, h5_, h6_, h7_, hI⟩
      exact ⟨fun _ => rfl, h1_, h2_, h3_, h4_, h5_, h6_, h7_, hI⟩
    · intro D hD_  x58 x57 x56 x55 x54 x53 x52 x51 w_
      rintro ⟨h0_, h1_, h2_, h3_, h4_, h5_, h6_, h7_, hI⟩
      exact ⟨h0_, fun _ => rfl, h2_, h3_, h4_, h5_, h6_, h7_, hI⟩
    · intro D hD_ d0_0 d1_1 x58 x57 x56 x55 x54 x53 x52 x51 w_
      rintro ⟨h0_, h1_, h2_, h3_, h4_, h5_, h6_, h7_, hI⟩
      obtain rfl := h0_ d0_0
      obtain rfl := h1_ d1_1
      refine r_sliceTo sl_SiPred h2 (by omega) fun v' hv' => ?_
      exact ⟨h0_, h1_, fun _ => by first | assumption | trivial, h3_, h4_, h5_, h6_, h7_, hI⟩
    · intro D hD_  x58 x57 x56 x55 x54 x53 x52 x51 w_
      rintro ⟨h0_, h1_, h2_, h3_, h4_, h5_, h6_, h7_, hI⟩
      exact ⟨h0_, h1_, h2_, fun _ => rfl, h4_, h5_, h6_, h7_, hI⟩
    · intro D hD_  x58 x57 x56 x55 x54 x53 x52 x51 w_
      rintro ⟨h0_, h1_, h2_, h3_, h4_, h5_, h6_, h7_, hI⟩
      exact ⟨h0_, h1_, h2_, h3_, fun _ => rfl, h5_, h6_, h7_, hI⟩
    · intro D hD_ d3_0 d4_1 x58 x57 x56 x55 x54 x53 x52 x51 w_
      rintro ⟨h0_, h1_, h2_, h3_, h4_, h5_, h6_, h7_, hI⟩
      obtain rfl := h3_ d3_0
      obtain rfl := h4_ d4_1
      refine r_indexAddr sl_SiPred hk' ?_
      exact ⟨h0_, h1_, h2_, h3_, h4_, fun _ => rfl, h6_, h7_, hI⟩
    · intro D hD_ d5_0 x58 x57 x56 x55 x54 x53 x52 x51 w_
      rintro ⟨h0_, h1_, h2_, h3_, h4_, h5_, h6_, h7_, hI⟩
      obtain rfl := h5_ d5_0
      refine r_loadA (cs := [.string (reachOf ps q)[k].name, .int .i64 (reachOf ps q)[k].arity]) ag_iPred rfl (fun j v hj => by rw [hI.cellS hS]; exact cellsAt_get hR1 j v hj) ?_
      exact ⟨h0_, h1_, h2_, h3_, h4_, h5_, fun _ => rfl, h7_, hI⟩
    · intro D hD_ d2_0 d6_1 x58 x57 x56 x55 x54 x53 x52 x51 w_
      rintro ⟨h0_, h1_, h2_, h3_, h4_, h5_, h6_, h7_, hI⟩
      have g2_ := h2_ d2_0
      obtain rfl := h6_ d6_1
      refine Run.callPure fn_l_pgPred nm_l_pgPred hI (pgPred_calls (reachOf ps q)[k] g2_) fun w_ hI => ?_
      rw [nodup_take (reachOf_nodup ps q) k hk']
      exact ⟨h0_, h1_, h2_, h3_, h4_, h5_, h6_, fun _ => rfl, hI⟩
    intro D d7_ d6_ d5_ d4_ d3_ d2_ d1_ d0_ x58 x57 x56 x55 x54 x53 x52 x51 w_
    rintro ⟨h0_, h1_, h2_, h3_, h4_, h5_, h6_, h7_, hI⟩
    obtain rfl := h7_ d7_
    obtain rfl := h6_ d6_
    obtain rfl := h5_ d5_
    obtain rfl := h4_ d4_
    obtain rfl := h3_ d3_
    have g2_ := h2_ d2_
    obtain rfl := h1_ d1_
    obtain rfl := h0_ d0_
    clear h0_ h1_ h2_ h3_ h4_ h5_ h6_ h7_
    refine condV (fun hb => by cases hb) (fun _ => ?_)
    refine r_add (by omega) ?_
    exact ⟨⟨k + 1, S5, hk', rfl, hle4.trans hle5, hI⟩, by simp [intOf]; omega⟩
theorem lawPMore_calls (h : RdSl S 1 RdU8 v ys) : Pure Tryz.prog n_l_FnReachMore [v] S (.bool true) := by
  intro w hI
  refine calls_l_FnReachMore ?_
  unfold sh_l_FnReachMore
  refine r_lenSl h sl_Suint8 ?_
  refine r_gtr ?_
  refine condP (fun _ => done hI rfl) (fun _ => ?_)
  refine Run.call0E fn_s_DrawReachOf nm_s_DrawReachOf hI (DrawReachOf_calls h) fun t10 I' S1 w' => ?_
  rintro ⟨rfl, p, g, ps, q, rfl, hps, hlp, hq, hlq⟩ hE1 hI
  have hw := hlp.fit
  have hw2 := hlq.fit
  have hI : Inv w [] [] S1 w' := hI
  refine r_extract (v := p) rfl ?_
  refine r_extract (v := g) rfl ?_
  refine Run.pubRow (l := reachOf ps q) fn_i_ReachOf nm_i_ReachOf hI (i_ReachOf_calls hps hq hw hw2) fun t20 S2 w' hle2 h2 hI => ?_
  have hps := hps.monoC hle2
  have hq := hq.monoT hle2
  have hle := hE1.1.trans hle2
  refine ⟨fun t w' => ∃ S3, t = .bool (!queryB q) ∧ Sle S2 S3 ∧ Inv w [] [] S3 w', ?_, ?_⟩
  · refine Run.pubRow (l := reachOf ps q) fn_s_ReachOf nm_s_ReachOf hI (s_ReachOf_calls hps hq hw hw2) fun t23 S3 w' hle3 h3 hI => ?_
    refine Run.callPure fn_l_pgPreds nm_l_pgPreds hI (pgPreds_calls (h2.monoP hle3) h3) fun w' hI => ?_
    refine r_not ?_
    repeat (first | refine guard_true ?_ | refine guard_ne (by decide) ?_ | refine guard_undef ?_ | refine r_pickT ?_ | refine r_pickF ?_)
    refine Run.callPure fn_i_QueryValid nm_i_QueryValid hI (iQueryValid_calls (hq.monoT hle3)) fun w' hI => ?_
    refine r_not ?_
    repeat (first | refine guard_true ?_ | refine guard_ne (by decide) ?_ | refine guard_undef ?_ | refine r_pickT ?_ | refine r_pickF ?_)
    exact ⟨S3, rfl, hle3, hI⟩
  intro t31 _ _ _ _ _ _ _ _ _ _ w'
  rintro ⟨S3, rfl, hle3, hI⟩
  have hps := hps.monoC hle3
  have hq := hq.monoT hle3
  have hle := hle.trans hle3
  have h2 := h2.monoP hle3
  refine condV (fun _ => ?_) (fun hb => ?_)
  · refine Run.pubRow (l := reachOf ps q) fn_s_ReachOf nm_s_ReachOf hI (s_ReachOf_calls hps hq hw hw2) fun t23 S4 w' hle4 h4 hI => ?_
    refine Run.callPure fn_l_pgPreds nm_l_pgPreds hI (pgPreds_calls (h2.monoP hle4) h4) fun w' hI => ?_
    exact doneS hI (hle.trans hle4) rfl
  have hqv : queryB q = true := by simpa using hb
  have hq10 := hlq.1
  have hrl : ∀ t : T, (reachOf ps [t]).length ≤ 1000000000 := fun t => by
    have := reachOf_len ps [t]
    simp only [List.length_cons, List.length_nil] at this
    omega
  refine ⟨fun i n w' => ∃ (k : Nat) (S4 : Store), k ≤ q.length ∧ i = .int .i64 k ∧ n = .int .i64 ((((q.take k).map fun t => (reachOf ps [t]).length).sum : Nat) : Int) ∧ ((q.take k).map fun t => (reachOf ps [t]).length).sum ≤ k * 1000000000 ∧ Sle S3 S4 ∧ Inv w [] [] S4 w', fun i _ _ => q.length - (intOf i).toNat,
    ⟨0, S3, Nat.zero_le _, rfl, by simp, by simp, Sle.refl _, hI⟩, ?_⟩
  intro t7 _ _ t6 _ _ _ _ _ _ _ _ _ _ _ _ _ _ _ _ _ _ _ _ _ _ _ _ _ _ _ _ _ _ _ w'
  rintro ⟨k, S4, hk, rfl, rfl, hsum, hle4, hI⟩
  have h2 := h2.monoP hle4
  have hps := hps.monoC hle4
  have hq := hq.monoT hle4
  have hle := hle.trans hle4
  refine r_lenSl hq sl_SiTerm ?_
  refine r_lss ?_
  refine condP (fun hki => ?_) (fun hki => ?_)
  · have hk' : k < q.length := by omega
    have hmem := List.getElem_mem hk'
    refine r_addN (a := k) (b := 1) rfl rfl (by omega) ?_
    refine r_sliceMid sl_SiTerm hq (by omega) (by omega) fun v' hv' => ?_
    have e1 : (q.take (k + 1)).drop k = [q[k]] := by
      rw [List.take_succ_eq_append_getElem hk', List.drop_append_of_le_length (by rw [List.length_take]; omega), List.drop_eq_nil_of_le (by rw [List.length_take]; omega)]
      rfl
    rw [e1] at hv'
    have hw1 : 1 + (wT q[k] + 0) ≤ 1048576 := by have := hlq.2 _ hmem; omega
    refine Run.pubRow (l := reachOf ps [q[k]]) fn_i_ReachOf nm_i_ReachOf hI (i_ReachOf_calls hps hv' hw hw1) fun t49 S5 w' hle5 h5 hI => ?_
    have h2 := h2.monoP hle5
    have hcl := hrl q[k]
    refine ⟨fun i w' => ∃ j : Nat, j ≤ (reachOf ps [q[k]]).length ∧ i = .int .i64 j ∧ Inv w [] [] S5 w', fun i _ => (reachOf ps [q[k]]).length - (intOf i).toNat, ⟨0, Nat.zero_le _, rfl, hI⟩, ?_⟩
    intro t9 _ _ _ _ _ _ _ _ _ _ _ _ _ _ w'
    rintro ⟨j, hj, rfl, hI⟩
    refine r_lenSl h5 sl_SiPred ?_
    refine r_lss ?_
    refine condP (fun hji => ?_) (fun hji => ?_)
    · have hj' : j < (reachOf ps [q[k]]).length := by omega
      refine r_elem hI h5 sl_SiPred ag_iPred hj' (fun cs x hx => by rw [hx]; rfl) fun cs hcs => ?_
      have hcs : cs = Pd.cells _ := hcs
      subst hcs
      refine Run.callPure fn_l_pgPred nm_l_pgPred hI (pgPred_calls _ h2) fun w' hI => ?_
      rw [hasP_mem.2 (reachOf_inner hqv hmem (List.getElem_mem hj'))]
      refine r_not ?_
      refine condV (fun hb => by cases hb) (fun _ => ?_)
      refine r_add (by omega) ?_
      exact ⟨⟨j + 1, hj', rfl, hI⟩, by simp [intOf]; omega⟩
    · have hst := sum_take (fun t => (reachOf ps [t]).length) q k hk'
      refine r_lenSl h5 sl_SiPred ?_
      have hkb : k * 1000000000 ≤ 10000000000 := by omega
      refine r_addN (a := ((q.take k).map fun t => (reachOf ps [t]).length).sum) (b := (reachOf ps [q[k]]).length) rfl rfl (by omega) ?_
      refine r_addN (a := k) (b := 1) rfl rfl (by omega) ?_
      refine ⟨⟨k + 1, S5, hk', rfl, by rw [hst], by rw [hst, Nat.add_mul]; omega, hle4.trans hle5, hI⟩, by simp only [intOf, Int.toNat_natCast]; omega⟩
  · have : k = q.length := by omega
    subst this
    rw [List.take_length]
    refine r_lenSl h2 sl_SiPred ?_
    refine r_geqT (by have := reachOf_sum (p := ps) hqv; omega) ?_
    exact doneS hI hle rfl
end
end Go.Proofs.YtmnnpgdeecnfpaaGreat

/- What every row of this seat owes beside its walk: the arguments read again as they did, and nothing that was there has turned. -/
namespace Go.Proofs.YtmnnpgdeecnfpaaGreat
open Go Go.ChangeShapes Go.WideShapes Go.ChangeAt Go.RowKit

theorem Tryz.own : ownKnob Tryz.prog.godebug = none := by kernel_rfl
theorem Tryz.kids : Kids Tryz.prog (· < Tryz.prog.types.size) := kids_rows (by kernel_rfl) (by kernel_rfl)
theorem Tryz.full : ∀ t e, t < Tryz.prog.types.size → Tryz.prog.underlying t = some (.slice e) → 0 < Tryz.prog.cellsOf e := slices_full_of Tryz.prog (by kernel_rfl)
section
variable {H : Type} {enc : TypeId × Value → H} {W W' : World}
theorem carryAll {P : Program} : ∀ {ts : List TypeId} {vs : List Value} {ds : List (DataW H)} {ps : List MemPlace}, DataW.TrodAll enc P W 0 (fun _ => true) true ts vs ds ps → (∀ p ∈ ps, W.sameAt W' p) →
    DataW.TrodAll enc P W' 0 (fun _ => true) true ts vs ds ps
  | [], [], [], _, h, _ => h
  | _ :: _, _ :: _, _ :: _, _, ⟨p, q, ⟨n, h1⟩, h2, e⟩, hs =>
    ⟨p, q, ⟨n, DataW.trod_carry n _ _ _ h1 fun x hx => hs x (by rw [e]; exact List.mem_append_left _ hx)⟩, carryAll h2 fun x hx => hs x (by rw [e]; exact List.mem_append_right _ hx), e⟩
theorem same_at {p : MemPlace} (h : ∀ b, b < W.heap.size → W'.heap[b]? = W.heap[b]?) (hp : p.block < W.heap.size) : W.sameAt W' p := by
  cases p with
  | cell b off => simp only [World.sameAt, World.cell?]; rw [h b hp]
  | map b => exact h b hp
/- a function of the program whose walk ends with 'true' and with all that was there as it was: the row's 'post' -/
theorem post_true {f : Func} {s : ChangeSpec} {args : Array Value} {ds gs : List (DataW H)} {before p q : List MemPlace}
    (hW : DataW.Whole enc Tryz.prog f.params.toList s.vars false W args.toList ds gs before) (hA : DataW.TrodAll enc Tryz.prog W 0 (fun _ => true) true f.params.toList args.toList ds p)
    (hV : DataW.TrodVars enc Tryz.prog W (fun _ => true) s.vars gs q) (hb : before = p ++ q) (hv : s.vars = []) (hts : ∀ t ∈ f.params.toList, t < Tryz.prog.types.size) (hr : f.resultTypes = #[t_bool])
    (hs : (s.fn H (ds ++ gs)).results = [.lit (.bool true)]) (ha : (s.fn H (ds ++ gs)).args = ds) (hsv : (s.fn H (ds ++ gs)).vars = []) (hI : Inv W [] [] (heapS W) W') :
    s.post enc Tryz.prog f false true false false W args (.bool true) W' := by
  have hsame : ∀ b, b < W.heap.size → W'.heap[b]? = W.heap[b]? := fun b hb => hI.same b hb
  have hlt := hW.lt
  rw [hv] at hV
  obtain ⟨hg, hq⟩ := trodVars_none hV
  subst hq
  rw [List.append_nil] at hb
  subst hb
  have hA' := carryAll (W' := W') hA fun x hx => same_at hsame (hlt x hx)
  refine ⟨ds, gs, before, [], before, [], hW, ?_, ?_, ?_, same_kept hI.os hI.output hsame, fun h => by cases h⟩
  · rw [hs, hr]
    exact trodAll_mk1 (shut_bool un_bool true)
  · rw [ha]
    exact DataW.TrodAll.respare Tryz.kids Tryz.full hts hA' fun x hx => by simpa using hlt x hx
  · rw [hv, hsv]
    rfl
end

end Go.Proofs.YtmnnpgdeecnfpaaGreat

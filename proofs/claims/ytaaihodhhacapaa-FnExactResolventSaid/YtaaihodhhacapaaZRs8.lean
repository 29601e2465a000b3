/- impl.resolvent. -/
import Derived.Test.YtaaihodhhacapaaZRs6
import Derived.Test.YtaaihodhhacapaaZRs7
import Derived.Test.YtaaihodhhacapaaZRs2
import Derived.Test.YtaaihodhhacapaaZRs1
import Derived.Test.YtaaihodhhacapaaZRs5
import Derived.Test.YtaaihodhhacapaaZRs3
namespace Go.Proofs.Ytaaihodhhacapaa
open Go Go.RowKit
def phi26 (n : Int) : T := .mk 1 (n + 26) ⟨#[]⟩ []
mutual
theorem mapR_shift {N : Nat} : ∀ t : T, okU N t → mapR phi26 t = shiftT 26 t
  | .mk k n s ks, h => by
    rw [okU] at h
    rw [mapR, shiftT]
    by_cases hk : k = 1
    · have h1 := h.2.1 hk
      rw [if_pos hk, if_pos hk, h1.2.2.2, shiftL, h1.2.2.1, hk]
      rfl
    · rw [if_neg hk, if_neg hk, mapRL_shift ks h.2.2.1]
theorem mapRL_shift {N : Nat} : ∀ ts : List T, okUL N ts → mapRL phi26 ts = shiftL 26 ts
  | [], _ => rfl
  | t :: ts, h => by
    rw [okUL] at h
    rw [mapRL, shiftL, mapR_shift t h.1, mapRL_shift ts h.2]
end
mutual
theorem okU_okV : ∀ t : T, okU 26 t → okV t
  | .mk k n s ks, h => by
    rw [okU] at h
    rw [okV]
    exact ⟨fun hk => by have := h.2.1 hk; omega, okUL_okV ks h.2.2.1⟩
theorem okUL_okV : ∀ ts : List T, okUL 26 ts → okVL ts
  | [], _ => by rw [okVL]; trivial
  | t :: ts, h => by
    rw [okUL] at h
    rw [okVL]
    exact ⟨okU_okV t h.1, okUL_okV ts h.2⟩
end
def PostOI (o : Option (Option C)) : Value → List Item → Store → Prop := fun q I' _ => ∃ (cs : List Value) (L : Heaplet), q = .tuple #[.agg cs.toArray, .bool (fitsO o), .bool (okIO o)] ∧ I' = blks L ∧ TrC L cs (clO o)
section
attribute [local irreducible] Run CondV GuardV LoadV
theorem resolvent_1_fun (S : Store) : Fun n_i_resolvent_1 [] S phi26 := by
  intro S' _ n hn0 hn25
  refine ⟨[.int .i64 1, .int .i64 (n + 26), .string ⟨#[]⟩, .slice none 0 0], RdT.nil (by simp [inI]) (by simp only [inI]; omega) (show 0 ≤ maxLen from Nat.zero_le _) (by simp [maxLen]), fun w hI => ?_⟩
  refine calls_i_resolvent_1 ?_
  unfold sh_i_resolvent_1
  refine r_alloc hI zo_iTerm fun b2 w' hI => ?_
  refine r_add (by omega) ?_
  refine r_add (by omega) ?_
  refine Run.callPure fn_i_variable nm_i_variable hI (variable_calls _ S') fun w' hI => ?_
  rw [show n + 25 + 1 = n + 26 by omega]
  refine r_storeW hI 0 rfl ag_iTerm rfl rfl (by simp [Value.oneCell']) fun w' hI => ?_
  refine loadV_W hI 0 ag_iTerm rfl rfl ?_
  exact done hI rfl
theorem r_buildStore {K : Value → World → Prop} {w : World} {mb : Nat} (hk : K (.agg #[.map (some mb), .slice none 0 0]) w) : Run Try.prog (sBuild t_istore [(0, .map (some mb))]) w K := by
  refine Run.of (v := .agg #[.map (some mb), .slice none 0 0]) (w' := w) ?_ hk
  unfold sBuild
  rw [Sem.run_bind, run_build w t_istore _ #[.map (some mb), .slice none 0 0] (by kernel_rfl), Result.andThen_ok]
  rfl
theorem newStore_calls (S : Store) : Tri Try.prog n_i_newStore [] [] S fun r I' S' => S' = S ∧ ∃ sb mb, r = .pointer (some ⟨sb, 0, none⟩) ∧ I' = stItems sb mb #[] 0 (.slice none 0 0) [] := by
  intro w hI
  have hI : Inv w [] [] S w := hI
  refine calls_i_newStore ?_
  unfold sh_i_newStore
  refine r_makeMap hI fun mb w' hI => ?_
  refine r_buildStore ?_
  refine r_box hI fun sb w' hI => ?_
  have hI := hI.rowNil t_int 1
  have hI : Inv w [] (stItems sb mb #[] 0 (.slice none 0 0) []) S w' := hI.perm (List.Perm.swap ..)
  exact ⟨_, _, _, rfl, hI, Ext.refl _ _ _, rfl, sb, mb, rfl, rfl⟩
theorem KnownM.none (S : Store) (N : Nat) : KnownM S #[] (List.replicate N Option.none) := by
  refine ⟨fun e he => by simp at he, fun n t h => ?_⟩
  have := List.mem_of_getElem? h
  simp at this
set_option maxHeartbeats 2000000 in
theorem i_resolvent_calls {c0 d0 : C} {o : Option (Option C)} (hc : clauseB c0 = true) (hd : clauseB d0 = true) (hwc : wC c0 ≤ 1048576) (hwd : wC d0 ≤ 1048576) (hb : c0.body ≠ []) (ho : RO c0 d0 o) {S : Store} {cs ds : List Value} (h : RdC S cs c0) (h' : RdC S ds d0) :
    Tri Try.prog n_i_resolvent [.agg cs.toArray, .agg ds.toArray] [] S (PostOI o) := by
  intro w hI
  have hI : Inv w [] [] S w := hI
  obtain ⟨d1, d2, d3⟩ := clause_okU hd
  have hrl := rlist_len hc hd
  have hrok := rlist_ok hc hd
  have hj0 := first_okJ hc hd hwc hwd hb
  obtain ⟨r, st, hu, hcase⟩ := ho
  obtain ⟨hg, _⟩ := hu.good stU_good hj0
  obtain ⟨hd0, ks, rfl, h1, h2⟩ := h
  have h1' := h1
  obtain ⟨kc0, rfl, g1, g2, g3, g4⟩ := RdT.iff.1 h1
  have hb0 : 0 < c0.body.length := List.length_pos_iff.2 hb
  obtain ⟨bb, bo, bcap, bc, bE, bfz, rfl, hbS, hbR⟩ := h2.at_ hb0
  have hfirst : c0.body.headD ⟨0, 0, ⟨#[]⟩, []⟩ = c0.body[0] := headD_get _ hb0 _
  rw [hfirst] at hu hj0
  obtain ⟨hdd, dks, rfl, k1, k2⟩ := h'
  have k1' := k1
  obtain ⟨kd0, rfl, _⟩ := RdT.iff.1 k1
  obtain ⟨da, dcap, rfl, _⟩ := id k2
  have hwdh : wT d0.head ≤ 1048576 := by unfold wC at hwd; omega
  refine calls_i_resolvent ?_
  unfold sh_i_resolvent
  refine r_box hI fun b2 w' hI => ?_
  refine r_box hI fun b3 w' hI => ?_
  refine r_alloc hI zo_iClause fun b4 w' hI => ?_
  refine Run.call0 fn_i_newStore nm_i_newStore hI (newStore_calls S) fun v' I' S' w' => ?_
  rintro ⟨eS, sb, mb, rfl, rfl⟩ _ hI
  rw [eS] at hI
  clear eS
  have hI : Inv w [] ([.blk b2 (.cells #[.int .i64 c0.head.kind, .int .i64 c0.head.n, .string c0.head.name, kc0, .slice (some ⟨bb, bo, none⟩) c0.body.length bcap] t_iClause), .blk b3 (.cells #[.int .i64 d0.head.kind, .int .i64 d0.head.n, .string d0.head.name, kd0, .slice da d0.body.length dcap] t_iClause), .blk b4 (.cells #[.int .i64 0, .int .i64 0, .string ⟨#[]⟩, .slice none 0 0, .slice none 0 0] t_iClause)] ++ stItems sb mb #[] 0 (.slice none 0 0) []) S w' := hI
  refine ⟨fun D x27 x26 x25 x24 x23 x22 x21 x20 x19 x18 x17 w_ => (D 0 = true → x17 = .pointer (some ⟨sb, 0, none⟩)) ∧ (D 1 = true → x18 = .pointer (some ⟨b2, 4, none⟩)) ∧ (D 2 = true → x19 = .slice (some ⟨bb, bo, none⟩) c0.body.length bcap) ∧ (D 3 = true → x20 = .pointer (some ⟨bb, bo + 0 * 4, none⟩)) ∧ (D 4 = true → x21 = .agg (cellsAt bc (bo + 0 * 4) 4).toArray) ∧ (D 5 = true → x22 = .pointer (some ⟨b3, 0, none⟩)) ∧ (D 6 = true → x23 = .agg #[.int .i64 d0.head.kind, .int .i64 d0.head.n, .string d0.head.name, kd0]) ∧ (D 7 = true → x24 = Value.func (.func n_i_resolvent_1) #[] #[]) ∧ (D 8 = true → True) ∧ (D 9 = true → x26 = .bool r) ∧ (D 10 = true → x27 = .bool (!r)) ∧ ∃ SN cs8, Ext w.heap.size [] S SN ∧ (D 8 = true → x25 = .agg (List.toArray cs8) ∧ RdT SN cs8 (shiftT 26 d0.head)) ∧ (D 9 = true → D 8 = true) ∧ (D 9 = false → Inv w [] ([.blk b2 (.cells #[.int .i64 c0.head.kind, .int .i64 c0.head.n, .string c0.head.name, kc0, .slice (some ⟨bb, bo, none⟩) c0.body.length bcap] t_iClause), .blk b3 (.cells #[.int .i64 d0.head.kind, .int .i64 d0.head.n, .string d0.head.name, kd0, .slice da d0.body.length dcap] t_iClause), .blk b4 (.cells #[.int .i64 0, .int .i64 0, .string ⟨#[]⟩, .slice none 0 0, .slice none 0 0] t_iClause)] ++ stItems sb mb #[] 0 (.slice none 0 0) []) SN w_) ∧ (D 9 = true → ∃ es ck tv tr, KnownM SN es st ∧ Inv w [] ([.blk b2 (.cells #[.int .i64 c0.head.kind, .int .i64 c0.head.n, .string c0.head.name, kc0, .slice (some ⟨bb, bo, none⟩) c0.body.length bcap] t_iClause), .blk b3 (.cells #[.int .i64 d0.head.kind, .int .i64 d0.head.n, .string d0.head.name, kd0, .slice da d0.body.length dcap] t_iClause), .blk b4 (.cells #[.int .i64 0, .int .i64 0, .string ⟨#[]⟩, .slice none 0 0, .slice none 0 0] t_iClause)] ++ stItems sb mb es ck tv tr) SN w_) ∧ ∃ es3 ck3 tv3 tr3, Inv w [] ([.blk b2 (.cells #[.int .i64 c0.head.kind, .int .i64 c0.head.n, .string c0.head.name, kc0, .slice (some ⟨bb, bo, none⟩) c0.body.length bcap] t_iClause), .blk b3 (.cells #[.int .i64 d0.head.kind, .int .i64 d0.head.n, .string d0.head.name, kd0, .slice da d0.body.length dcap] t_iClause), .blk b4 (.cells #[.int .i64 0, .int .i64 0, .string ⟨#[]⟩, .slice none 0 0, .slice none 0 0] t_iClause)] ++ stItems sb mb es3 ck3 tv3 tr3) SN w_, ⟨fun h => Bool.noConfusion h, fun h => Bool.noConfusion h, fun h => Bool.noConfusion h, fun h => Bool.noConfusion h, fun h => Bool.noConfusion h, fun h => Bool.noConfusion h, fun h => Bool.noConfusion h, fun h => Bool.noConfusion h, fun h => Bool.noConfusion h, fun h => Bool.noConfusion h, fun h => Bool.noConfusion h, ⟨S, [], Ext.refl _ _ _, fun h => Bool.noConfusion h, fun h => Bool.noConfusion h, fun _ => hI.draw, fun h => Bool.noConfusion h, _, _, _, _, hI.draw⟩⟩, ⟨?_, ?_, ?_, ?_, ?_, ?_, ?_, ?_, ?_, ?_, ?_, trivial⟩, ?_⟩
  · intro D hD_  x27 x26 x25 x24 x23 x22 x21 x20 x19 x18 x17 w_
    rintro ⟨h0_, h1_, h2_, h3_, h4_, h5_, h6_, h7_, h8_, h9_, h10_, ⟨SN, cs8, hN, e8, k98, hI0, hI1, es3, ck3, tv3, tr3, hI⟩⟩
    exact ⟨fun _ => rfl, h1_, h2_, h3_, h4_, h5_, h6_, h7_, h8_, h9_, h10_, ⟨SN, cs8, hN, e8, k98, hI0, hI1, es3, ck3, tv3, tr3, hI⟩⟩
  · intro D hD_  x27 x26 x25 x24 x23 x22 x21 x20 x19 x18 x17 w_
    rintro ⟨h0_, h1_, h2_, h3_, h4_, h5_, h6_, h7_, h8_, h9_, h10_, ⟨SN, cs8, hN, e8, k98, hI0, hI1, es3, ck3, tv3, tr3, hI⟩⟩
    refine r_field fo_iClause_1 ?_
    exact ⟨h0_, fun _ => rfl, h2_, h3_, h4_, h5_, h6_, h7_, h8_, h9_, h10_, ⟨SN, cs8, hN, e8, k98, hI0, hI1, es3, ck3, tv3, tr3, hI⟩⟩
  · intro D hD_ d1_0 x27 x26 x25 x24 x23 x22 x21 x20 x19 x18 x17 w_
    rintro ⟨h0_, h1_, h2_, h3_, h4_, h5_, h6_, h7_, h8_, h9_, h10_, ⟨SN, cs8, hN, e8, k98, hI0, hI1, es3, ck3, tv3, tr3, hI⟩⟩
    obtain rfl := h1_ d1_0
    refine r_loadL hI 0 sc_SiTerm rfl rfl ?_
    exact ⟨h0_, h1_, fun _ => rfl, h3_, h4_, h5_, h6_, h7_, h8_, h9_, h10_, ⟨SN, cs8, hN, e8, k98, hI0, hI1, es3, ck3, tv3, tr3, hI⟩⟩
  · intro D hD_ d2_0 x27 x26 x25 x24 x23 x22 x21 x20 x19 x18 x17 w_
    rintro ⟨h0_, h1_, h2_, h3_, h4_, h5_, h6_, h7_, h8_, h9_, h10_, ⟨SN, cs8, hN, e8, k98, hI0, hI1, es3, ck3, tv3, tr3, hI⟩⟩
    obtain rfl := h2_ d2_0
    refine r_indexAddr (i := 0) sl_SiTerm hb0 ?_
    exact ⟨h0_, h1_, h2_, fun _ => rfl, h4_, h5_, h6_, h7_, h8_, h9_, h10_, ⟨SN, cs8, hN, e8, k98, hI0, hI1, es3, ck3, tv3, tr3, hI⟩⟩
  · intro D hD_ d3_0 x27 x26 x25 x24 x23 x22 x21 x20 x19 x18 x17 w_
    rintro ⟨h0_, h1_, h2_, h3_, h4_, h5_, h6_, h7_, h8_, h9_, h10_, ⟨SN, cs8, hN, e8, k98, hI0, hI1, es3, ck3, tv3, tr3, hI⟩⟩
    obtain rfl := h3_ d3_0
    refine r_loadA ag_iTerm hbR.length (fun j v hj => by rw [hI.cellS (hN.1 _ _ hbS)]; exact cellsAt_get rfl j v hj) ?_
    exact ⟨h0_, h1_, h2_, h3_, fun _ => rfl, h5_, h6_, h7_, h8_, h9_, h10_, ⟨SN, cs8, hN, e8, k98, hI0, hI1, es3, ck3, tv3, tr3, hI⟩⟩
  · intro D hD_  x27 x26 x25 x24 x23 x22 x21 x20 x19 x18 x17 w_
    rintro ⟨h0_, h1_, h2_, h3_, h4_, h5_, h6_, h7_, h8_, h9_, h10_, ⟨SN, cs8, hN, e8, k98, hI0, hI1, es3, ck3, tv3, tr3, hI⟩⟩
    refine r_field fo_iClause_0 ?_
    exact ⟨h0_, h1_, h2_, h3_, h4_, fun _ => rfl, h6_, h7_, h8_, h9_, h10_, ⟨SN, cs8, hN, e8, k98, hI0, hI1, es3, ck3, tv3, tr3, hI⟩⟩
  · intro D hD_ d5_0 x27 x26 x25 x24 x23 x22 x21 x20 x19 x18 x17 w_
    rintro ⟨h0_, h1_, h2_, h3_, h4_, h5_, h6_, h7_, h8_, h9_, h10_, ⟨SN, cs8, hN, e8, k98, hI0, hI1, es3, ck3, tv3, tr3, hI⟩⟩
    obtain rfl := h5_ d5_0
    refine r_loadLA hI 1 [.int .i64 d0.head.kind, .int .i64 d0.head.n, .string d0.head.name, kd0] ag_iTerm rfl rfl sub4 ?_
    exact ⟨h0_, h1_, h2_, h3_, h4_, h5_, fun _ => rfl, h7_, h8_, h9_, h10_, ⟨SN, cs8, hN, e8, k98, hI0, hI1, es3, ck3, tv3, tr3, hI⟩⟩
  · intro D hD_  x27 x26 x25 x24 x23 x22 x21 x20 x19 x18 x17 w_
    rintro ⟨h0_, h1_, h2_, h3_, h4_, h5_, h6_, h7_, h8_, h9_, h10_, ⟨SN, cs8, hN, e8, k98, hI0, hI1, es3, ck3, tv3, tr3, hI⟩⟩
    exact ⟨h0_, h1_, h2_, h3_, h4_, h5_, h6_, fun _ => rfl, h8_, h9_, h10_, ⟨SN, cs8, hN, e8, k98, hI0, hI1, es3, ck3, tv3, tr3, hI⟩⟩
  · intro D hD_ d6_0 d7_1 x27 x26 x25 x24 x23 x22 x21 x20 x19 x18 x17 w_
    rintro ⟨h0_, h1_, h2_, h3_, h4_, h5_, h6_, h7_, h8_, h9_, h10_, ⟨SN, cs8, hN, e8, k98, hI0, hI1, es3, ck3, tv3, tr3, hI⟩⟩
    obtain rfl := h6_ d6_0
    obtain rfl := h7_ d7_1
    have f9 : D 9 = false := Bool.eq_false_iff.2 fun h => by rw [k98 h] at hD_; cases hD_
    have hI := hI0 f9
    refine Run.call0E fn_i_mapVars nm_i_mapVars hI (mapR_calls [] phi26 fn_i_resolvent_1 nm_i_resolvent_1 _ SN _ (k1'.mono hN.1) (okU_okV _ d1) hwdh (resolvent_1_fun SN)) fun v' I' SN w_ => ?_
    rintro ⟨rfl, cs8, rfl, hR8⟩ hE8 hI
    rw [mapR_shift _ d1] at hR8
    have hN := hN.trans hE8
    have hI : Inv w [] ([.blk b2 (.cells #[.int .i64 c0.head.kind, .int .i64 c0.head.n, .string c0.head.name, kc0, .slice (some ⟨bb, bo, none⟩) c0.body.length bcap] t_iClause), .blk b3 (.cells #[.int .i64 d0.head.kind, .int .i64 d0.head.n, .string d0.head.name, kd0, .slice da d0.body.length dcap] t_iClause), .blk b4 (.cells #[.int .i64 0, .int .i64 0, .string ⟨#[]⟩, .slice none 0 0, .slice none 0 0] t_iClause)] ++ stItems sb mb #[] 0 (.slice none 0 0) []) SN w_ := by simpa using hI
    have e8 := fun (_ : setD D 8 8 = true) => (⟨rfl, hR8⟩ : Value.agg (List.toArray cs8) = Value.agg (List.toArray cs8) ∧ RdT SN cs8 (shiftT 26 d0.head))
    have k98 := fun (_ : setD D 8 9 = true) => (rfl : setD D 8 8 = true)
    have hI0 := fun (_ : setD D 8 9 = false) => hI
    have hI1 := fun (h : setD D 8 9 = true) => (Bool.noConfusion (f9.symm.trans h) : ∃ es ck tv tr, KnownM SN es st ∧ Inv w [] ([.blk b2 (.cells #[.int .i64 c0.head.kind, .int .i64 c0.head.n, .string c0.head.name, kc0, .slice (some ⟨bb, bo, none⟩) c0.body.length bcap] t_iClause), .blk b3 (.cells #[.int .i64 d0.head.kind, .int .i64 d0.head.n, .string d0.head.name, kd0, .slice da d0.body.length dcap] t_iClause), .blk b4 (.cells #[.int .i64 0, .int .i64 0, .string ⟨#[]⟩, .slice none 0 0, .slice none 0 0] t_iClause)] ++ stItems sb mb es ck tv tr) SN w_)
    obtain ⟨es3, ck3, tv3, tr3, hI⟩ : ∃ es3 ck3 tv3 tr3, Inv w [] ([.blk b2 (.cells #[.int .i64 c0.head.kind, .int .i64 c0.head.n, .string c0.head.name, kc0, .slice (some ⟨bb, bo, none⟩) c0.body.length bcap] t_iClause), .blk b3 (.cells #[.int .i64 d0.head.kind, .int .i64 d0.head.n, .string d0.head.name, kd0, .slice da d0.body.length dcap] t_iClause), .blk b4 (.cells #[.int .i64 0, .int .i64 0, .string ⟨#[]⟩, .slice none 0 0, .slice none 0 0] t_iClause)] ++ stItems sb mb es3 ck3 tv3 tr3) SN w_ := ⟨_, _, _, _, hI⟩
    exact ⟨h0_, h1_, h2_, h3_, h4_, h5_, h6_, h7_, fun _ => by first | assumption | trivial, h9_, h10_, ⟨SN, cs8, hN, e8, k98, hI0, hI1, es3, ck3, tv3, tr3, hI⟩⟩
  · intro D hD_ d0_0 d4_1 d8_2 d8_3 x27 x26 x25 x24 x23 x22 x21 x20 x19 x18 x17 w_
    rintro ⟨h0_, h1_, h2_, h3_, h4_, h5_, h6_, h7_, h8_, h9_, h10_, ⟨SN, cs8, hN, e8, k98, hI0, hI1, es3, ck3, tv3, tr3, hI⟩⟩
    obtain rfl := h0_ d0_0
    obtain rfl := h4_ d4_1
    have g8_ := h8_ d8_2
    obtain ⟨q8, hR8⟩ := e8 d8_2
    subst q8
    have hcall := i_unify_calls (by omega) stU_good hj0 hu SN _ _ sb mb 0 #[] (.slice none 0 0) [] (hbR.mono hN.1) hR8 (KnownM.none SN 52) (by rw [stU, unbAll]; simp)
    refine Run.callE (A := [_, _, _]) fn_i_store_unify nm_i_store_unify (hI0 hD_) hcall fun v' I' S' w_ => ?_
    rintro ⟨eS, rfl, es2, ck2, tv2, tr2, rfl, hm2, _⟩ _ hI
    rw [eS] at hI
    have k98 := fun (_ : setD D 9 9 = true) => d8_2
    have hI0 := fun (h : setD D 9 9 = false) => (Bool.noConfusion h : Inv w [] ([.blk b2 (.cells #[.int .i64 c0.head.kind, .int .i64 c0.head.n, .string c0.head.name, kc0, .slice (some ⟨bb, bo, none⟩) c0.body.length bcap] t_iClause), .blk b3 (.cells #[.int .i64 d0.head.kind, .int .i64 d0.head.n, .string d0.head.name, kd0, .slice da d0.body.length dcap] t_iClause), .blk b4 (.cells #[.int .i64 0, .int .i64 0, .string ⟨#[]⟩, .slice none 0 0, .slice none 0 0] t_iClause)] ++ stItems sb mb #[] 0 (.slice none 0 0) []) SN w_)
    have hI1 := fun (_ : setD D 9 9 = true) => (⟨es2, ck2, tv2, tr2, hm2, hI⟩ : ∃ es ck tv tr, KnownM SN es st ∧ Inv w [] ([.blk b2 (.cells #[.int .i64 c0.head.kind, .int .i64 c0.head.n, .string c0.head.name, kc0, .slice (some ⟨bb, bo, none⟩) c0.body.length bcap] t_iClause), .blk b3 (.cells #[.int .i64 d0.head.kind, .int .i64 d0.head.n, .string d0.head.name, kd0, .slice da d0.body.length dcap] t_iClause), .blk b4 (.cells #[.int .i64 0, .int .i64 0, .string ⟨#[]⟩, .slice none 0 0, .slice none 0 0] t_iClause)] ++ stItems sb mb es ck tv tr) SN w_)
    obtain ⟨es3, ck3, tv3, tr3, hI⟩ : ∃ es3 ck3 tv3 tr3, Inv w [] ([.blk b2 (.cells #[.int .i64 c0.head.kind, .int .i64 c0.head.n, .string c0.head.name, kc0, .slice (some ⟨bb, bo, none⟩) c0.body.length bcap] t_iClause), .blk b3 (.cells #[.int .i64 d0.head.kind, .int .i64 d0.head.n, .string d0.head.name, kd0, .slice da d0.body.length dcap] t_iClause), .blk b4 (.cells #[.int .i64 0, .int .i64 0, .string ⟨#[]⟩, .slice none 0 0, .slice none 0 0] t_iClause)] ++ stItems sb mb es3 ck3 tv3 tr3) SN w_ := ⟨_, _, _, _, hI⟩
    exact ⟨h0_, h1_, h2_, h3_, h4_, h5_, h6_, h7_, h8_, fun _ => rfl, h10_, ⟨SN, cs8, hN, e8, k98, hI0, hI1, es3, ck3, tv3, tr3, hI⟩⟩
  · intro D hD_ d9_0 x27 x26 x25 x24 x23 x22 x21 x20 x19 x18 x17 w_
    rintro ⟨h0_, h1_, h2_, h3_, h4_, h5_, h6_, h7_, h8_, h9_, h10_, ⟨SN, cs8, hN, e8, k98, hI0, hI1, es3, ck3, tv3, tr3, hI⟩⟩
    obtain rfl := h9_ d9_0
    refine r_not ?_
    exact ⟨h0_, h1_, h2_, h3_, h4_, h5_, h6_, h7_, h8_, h9_, fun _ => rfl, ⟨SN, cs8, hN, e8, k98, hI0, hI1, es3, ck3, tv3, tr3, hI⟩⟩
  intro D d10_ d9_ d8_ d7_ d6_ d5_ d4_ d3_ d2_ d1_ d0_ x27 x26 x25 x24 x23 x22 x21 x20 x19 x18 x17 w_
  rintro ⟨h0_, h1_, h2_, h3_, h4_, h5_, h6_, h7_, h8_, h9_, h10_, ⟨SN, cs8, hN, e8, k98, hI0, hI1, es3, ck3, tv3, tr3, hI⟩⟩
  obtain rfl := h10_ d10_
  obtain rfl := h9_ d9_
  have g8_ := h8_ d8_
  obtain rfl := h7_ d7_
  obtain rfl := h6_ d6_
  obtain rfl := h5_ d5_
  obtain rfl := h4_ d4_
  obtain rfl := h3_ d3_
  obtain rfl := h2_ d2_
  obtain rfl := h1_ d1_
  obtain rfl := h0_ d0_
  clear h0_ h1_ h2_ h3_ h4_ h5_ h6_ h7_ h8_ h9_ h10_
  obtain ⟨es, ck, tv, tr, hkm, hI⟩ := hI1 d9_
  clear hI0 hI1 e8 k98
  have hzo : ∀ x ∈ ([.int .i64 0, .int .i64 0, .string ⟨#[]⟩, .slice none 0 0, .slice none 0 0] : List Value), x.oneCell' = true := zeroC_one
  refine condV (fun hbr => ?_) (fun hbr => ?_)
  · have hr : r = false := by simpa using hbr
    have hoN : o = none := by
      rcases hcase with ⟨_, h⟩ | ⟨h, _⟩
      · exact h
      · rw [hr] at h; cases h
    subst hoN
    refine r_buildClause0 ?_
    refine r_storeW hI 2 rfl ag_iClause rfl rfl hzo fun w' hI => ?_
    refine loadV_W hI 2 ag_iClause rfl rfl ?_
    exact ⟨_, _, _, rfl, hI.nil, hN, [.int .i64 0, .int .i64 0, .string ⟨#[]⟩, .slice none 0 0, .slice none 0 0], [], rfl, rfl, TrC.zero⟩
  have hr : r = true := by simpa using hbr
  obtain ⟨us, hus, hsm⟩ : ∃ us, Res st (.list (rlist c0 d0) us) ∧ ((us.all smallB = false ∧ o = some none) ∨ (us.all smallB = true ∧ o = some (some (numC (cvars (ofL us)) (ofL us))))) := by
    rcases hcase with ⟨h, _⟩ | ⟨_, h⟩
    · rw [hr] at h; cases h
    · exact h
  clear hcase
  have hI : Inv w [] (([.blk b2 (.cells #[.int .i64 c0.head.kind, .int .i64 c0.head.n, .string c0.head.name, kc0, .slice (some ⟨bb, bo, none⟩) c0.body.length bcap] t_iClause), .blk b3 (.cells #[.int .i64 d0.head.kind, .int .i64 d0.head.n, .string d0.head.name, kd0, .slice da d0.body.length dcap] t_iClause), .blk b4 (.cells #[.int .i64 0, .int .i64 0, .string ⟨#[]⟩, .slice none 0 0, .slice none 0 0] t_iClause)] ++ [rowI tv tr]) ++ blks [(sb, .cells #[.map (some mb), tv] t_istore), (mb, .map es ck)]) SN w_ := hI.perm (List.Perm.cons _ (List.Perm.cons _ (List.Perm.cons _ (List.perm_append_comm (l₁ := [rowI tv tr]) (l₂ := blks [(sb, .cells #[.map (some mb), tv] t_istore), (mb, .map es ck)])))))
  obtain ⟨S1, hI, hE1, hins1⟩ := Inv.pubExt hI
  have hst1 : StS S1 S1 sb st := ⟨mb, tv, es, ck, t_istore, hins1 _ (List.mem_cons_self ..), hins1 _ (List.mem_cons_of_mem _ (List.mem_cons_self ..)), hkm.up hE1.1⟩
  have hE := hN.trans hE1
  have hI : Inv w [] [.blk b2 (.cells #[.int .i64 c0.head.kind, .int .i64 c0.head.n, .string c0.head.name, kc0, .slice (some ⟨bb, bo, none⟩) c0.body.length bcap] t_iClause), .blk b3 (.cells #[.int .i64 d0.head.kind, .int .i64 d0.head.n, .string d0.head.name, kd0, .slice da d0.body.length dcap] t_iClause), .blk b4 (.cells #[.int .i64 0, .int .i64 0, .string ⟨#[]⟩, .slice none 0 0, .slice none 0 0] t_iClause)] S1 w_ := hI.pick [true, true, true, false]
  refine r_field fo_iClause_0 ?_
  refine r_loadLA hI 0 [.int .i64 c0.head.kind, .int .i64 c0.head.n, .string c0.head.name, kc0] ag_iTerm rfl rfl sub4 ?_
  refine r_slice1 hI mk_SiTerm (by simp [Value.cells]) (by omega) (by omega) fun b31 w' hI => ?_
  have hI := Inv.closeRow (A := [_, _, _]) (cap := 1) (k := 4) (n := 1) hI (by omega) (by simp [maxLen]) (by simp [Value.cells])
  have h1S := h1'.mono hE.1
  have hR0 : Rows 4 (RdT S1) [[.int .i64 c0.head.kind, .int .i64 c0.head.n, .string c0.head.name, kc0]] (c0.head :: shiftL 26 (d0.body.take 0)) := Rows.one h1S h1S.length
  refine r_fieldL hI 1 rfl fo_iClause_1 sc_SiTerm rfl ?_
  refine r_lenSl (k2.monoT hE.1) sl_SiTerm ?_
  refine ⟨fun i t w' => ∃ (j : Nat) (css : List (List Value)) (S' : Store), j ≤ d0.body.length ∧ i = .int .i64 j ∧ Ext w.heap.size [] S1 S' ∧ Rows 4 (RdT S') css (c0.head :: shiftL 26 (d0.body.take j)) ∧ Inv w [] [.blk b2 (.cells #[.int .i64 c0.head.kind, .int .i64 c0.head.n, .string c0.head.name, kc0, .slice (some ⟨bb, bo, none⟩) c0.body.length bcap] t_iClause), .blk b3 (.cells #[.int .i64 d0.head.kind, .int .i64 d0.head.n, .string d0.head.name, kd0, .slice da d0.body.length dcap] t_iClause), .blk b4 (.cells #[.int .i64 0, .int .i64 0, .string ⟨#[]⟩, .slice none 0 0, .slice none 0 0] t_iClause), rowG t t_iTerm 4 css] S' w',
    fun i _ _ => d0.body.length - (intOf i).toNat, ⟨0, _, S1, Nat.zero_le _, rfl, Ext.refl _ _ _, hR0, hI⟩, ?_⟩
  intro t35 _ t9 _ _ _ _ _ _ _ _ _ _ w'
  rintro ⟨j, css, S2, hj, rfl, hE2, hR, hI⟩
  have hclr := hR.hc
  rw [List.length_cons, shiftL_map, List.length_map, List.length_take] at hclr
  refine r_lss ?_
  refine condP (fun hji => ?_) (fun hji => ?_)
  · have hj' : j < d0.body.length := by omega
    have hm := List.getElem_mem hj'
    have hwm := wL_mem' hm
    refine r_elem hI (k2.monoT (hE.1.trans hE2.1)) sl_SiTerm ag_iTerm hj' (fun _ _ => RdT.length) fun cs1 hcs1 => ?_
    have hlc1 := hcs1.length
    refine r_alloc hI zo_iTerm fun b11 w' hI => ?_
    have hI := hI.perm (M := .blk b11 _ :: [.blk b2 (.cells #[.int .i64 c0.head.kind, .int .i64 c0.head.n, .string c0.head.name, kc0, .slice (some ⟨bb, bo, none⟩) c0.body.length bcap] t_iClause), .blk b3 (.cells #[.int .i64 d0.head.kind, .int .i64 d0.head.n, .string d0.head.name, kd0, .slice da d0.body.length dcap] t_iClause), .blk b4 (.cells #[.int .i64 0, .int .i64 0, .string ⟨#[]⟩, .slice none 0 0, .slice none 0 0] t_iClause), rowG t9 t_iTerm 4 css]) (List.perm_append_comm (l₁ := [_]))
    refine r_storeW hI 0 rfl ag_iTerm (by simpa using hlc1) rfl (by simpa using hcs1.one) fun w' hI => ?_
    refine r_loadW hI 0 ag_iTerm rfl (by simpa using hlc1) ?_
    refine Run.call0E fn_i_mapVars nm_i_mapVars hI (mapR_calls [] phi26 fn_i_resolvent_1 nm_i_resolvent_1 _ S2 _ hcs1 (okU_okV _ (d2 _ hm)) (by unfold wC at hwd; omega) (resolvent_1_fun S2)) fun v' I' S3 w' => ?_
    rintro ⟨rfl, cs2, rfl, hR2⟩ hE3 hI
    rw [mapR_shift _ (d2 _ hm)] at hR2
    have hI : Inv w [] (.blk b11 (.cells cs1.toArray t_iTerm) :: [.blk b2 (.cells #[.int .i64 c0.head.kind, .int .i64 c0.head.n, .string c0.head.name, kc0, .slice (some ⟨bb, bo, none⟩) c0.body.length bcap] t_iClause), .blk b3 (.cells #[.int .i64 d0.head.kind, .int .i64 d0.head.n, .string d0.head.name, kd0, .slice da d0.body.length dcap] t_iClause), .blk b4 (.cells #[.int .i64 0, .int .i64 0, .string ⟨#[]⟩, .slice none 0 0, .slice none 0 0] t_iClause), rowG t9 t_iTerm 4 css]) S3 w' := by simpa using hI
    refine r_append1 hI 4 cs2 mk_SiTerm (by omega) (by omega) rfl hR2.length hR2.one (by omega) (by omega) fun t44 w' hI => ?_
    have hI : Inv w [] [.blk b2 (.cells #[.int .i64 c0.head.kind, .int .i64 c0.head.n, .string c0.head.name, kc0, .slice (some ⟨bb, bo, none⟩) c0.body.length bcap] t_iClause), .blk b3 (.cells #[.int .i64 d0.head.kind, .int .i64 d0.head.n, .string d0.head.name, kd0, .slice da d0.body.length dcap] t_iClause), .blk b4 (.cells #[.int .i64 0, .int .i64 0, .string ⟨#[]⟩, .slice none 0 0, .slice none 0 0] t_iClause), rowG t44 t_iTerm 4 (css ++ [cs2])] S3 w' := hI.sub (List.sublist_cons_self _ _)
    refine r_add (by omega) ?_
    refine ⟨⟨j + 1, css ++ [cs2], S3, hj', rfl, hE2.trans hE3, ?_, hI⟩, by simp [intOf]; omega⟩
    rw [shiftL_take 26 d0.body j hj', ← List.cons_append]
    exact (hR.monoR fun _ _ h => RdT.mono hE3.1 h).snoc hR2 hR2.length
  have hjd : j = d0.body.length := by omega
  subst hjd
  rw [List.take_length] at hR
  have hEa := hE.trans hE2
  refine r_fieldL hI 0 rfl fo_iClause_1 sc_SiTerm rfl ?_
  refine r_sliceFrom (l := 1) sl_SiTerm (h2.monoT hEa.1) (by omega) fun v49 hv49 => ?_
  refine r_appendRd hI 3 mk_SiTerm (by omega) rfl hv49 (fun _ _ => RdT.length) (fun _ _ => RdT.one) (by rw [rlist, List.length_cons, List.length_append, shiftL_map, List.length_map] at hrl; omega) (by omega) fun v50 w' css2 hR2 hI => ?_
  have hR := hR.append hR2
  have hR : Rows 4 (RdT S2) (css ++ css2) (rlist c0 d0) := hR
  obtain ⟨hlu, hlen⟩ := res_okU hg hus hrok
  have hlen' : us.length = (rlist c0 d0).length := hlen
  have hne : 0 < (rlist c0 d0).length := by rw [rlist]; simp
  have hwxs : ∀ x ∈ rlist c0 d0, wT x ≤ 1048576 := by
    intro x hx
    rw [rlist] at hx
    unfold wC at hwc hwd
    rcases List.mem_cons.1 hx with rfl | hx
    · omega
    · rcases List.mem_append.1 hx with hx | hx
      · have := wL_mem' hx
        rw [wL_shift] at this
        omega
      · have := wL_mem' (List.mem_of_mem_drop hx)
        omega
  generalize rlist c0 d0 = xs at hus hrl hrok hR hlen' hne hwxs
  clear hlen
  have hcl := hR.hc
  have hI : Inv w [] ([.blk b2 (.cells #[.int .i64 c0.head.kind, .int .i64 c0.head.n, .string c0.head.name, kc0, .slice (some ⟨bb, bo, none⟩) c0.body.length bcap] t_iClause), .blk b3 (.cells #[.int .i64 d0.head.kind, .int .i64 d0.head.n, .string d0.head.name, kd0, .slice da d0.body.length dcap] t_iClause), .blk b4 (.cells #[.int .i64 0, .int .i64 0, .string ⟨#[]⟩, .slice none 0 0, .slice none 0 0] t_iClause)] ++ [rowG v50 t_iTerm 4 (css ++ css2)]) S2 w' := hI
  obtain ⟨hfl, hopen⟩ := hI.openRow
  rcases hopen with ⟨_, hn0⟩ | ⟨g, cap, cur, rfl, hncap, hcapm, hcurs, htake, hI⟩
  · omega
  have hcell : ∀ i (h : i < xs.length), RdT S2 (cellsAt cur (i * 4) 4) xs[i] := by
    intro i hi
    have h1 := flatten_at 4 (css ++ css2) i hR.hk (by omega)
    have hik : i * 4 + 4 ≤ (css ++ css2).length * 4 := by omega
    rw [← htake, List.drop_take, List.take_take, Nat.min_eq_left (by omega)] at h1
    rw [cellsAt, h1]
    exact hR.hR i hi (by omega)
  rw [hcl] at hncap
  rw [hcl]
  refine r_len sl_SiTerm ?_
  refine ⟨fun i w' => ∃ (j : Nat) (c' : Array Value) (S' : Store), j ≤ us.length ∧ i = .int .i64 j ∧ Ext w.heap.size [] S2 S' ∧ c'.size = cap * 4 ∧ (∀ k (_ : k < us.length), k < j → smallB us[k] = true) ∧ (∀ k (_ : k < us.length), k < j → RdT S' (cellsAt c' (k * 4) 4) us[k]) ∧ (∀ k (_ : k < xs.length), j ≤ k → RdT S' (cellsAt c' (k * 4) 4) xs[k]) ∧ Inv w [] [.blk b2 (.cells #[.int .i64 c0.head.kind, .int .i64 c0.head.n, .string c0.head.name, kc0, .slice (some ⟨bb, bo, none⟩) c0.body.length bcap] t_iClause), .blk b3 (.cells #[.int .i64 d0.head.kind, .int .i64 d0.head.n, .string d0.head.name, kd0, .slice da d0.body.length dcap] t_iClause), .blk b4 (.cells #[.int .i64 0, .int .i64 0, .string ⟨#[]⟩, .slice none 0 0, .slice none 0 0] t_iClause), .blk g (.cells c' t_iTerm)] S' w',
    fun i _ => us.length - (intOf i).toNat, ⟨0, cur, S2, Nat.zero_le _, rfl, Ext.refl _ _ _, hcurs, fun k _ h => by omega, fun k _ h => by omega, fun k hk _ => hcell k hk, hI⟩, ?_⟩
  intro t53 _ _ _ _ _ t6 t5 _ _ _ _ _ _ _ _ _ _ _ _ _ _ _ _ _ w'
  rintro ⟨j, c', S3, hj, rfl, hE3, hcs', hdone, hA, hB, hI⟩
  refine r_lss ?_
  refine condP (fun hji => ?_) (fun hji => ?_)
  · have hj2 : j < xs.length := by omega
    have hj1 : j < us.length := by omega
    have hm2 := List.getElem_mem hj2
    have hRj := hB j hj2 (Nat.le_refl _)
    refine r_indexAddr sl_SiTerm (by omega) ?_
    rw [Nat.zero_add]
    refine r_loadLA hI 3 (cellsAt c' (j * 4) 4) ag_iTerm rfl hRj.length (fun i v hi => cellsAt_get rfl i v hi) ?_
    have hlj := hRj.length
    refine r_alloc hI zo_iTerm fun b13 w' hI => ?_
    have hI := hI.perm (M := .blk b13 _ :: [.blk b2 (.cells #[.int .i64 c0.head.kind, .int .i64 c0.head.n, .string c0.head.name, kc0, .slice (some ⟨bb, bo, none⟩) c0.body.length bcap] t_iClause), .blk b3 (.cells #[.int .i64 d0.head.kind, .int .i64 d0.head.n, .string d0.head.name, kd0, .slice da d0.body.length dcap] t_iClause), .blk b4 (.cells #[.int .i64 0, .int .i64 0, .string ⟨#[]⟩, .slice none 0 0, .slice none 0 0] t_iClause), .blk g (.cells c' t_iTerm)]) (List.perm_append_comm (l₁ := [_]))
    refine r_storeW hI 0 rfl ag_iTerm (by simpa using hlj) rfl (by simpa using hRj.one) fun w' hI => ?_
    refine r_loadW hI 0 ag_iTerm rfl (by simpa using hlj) ?_
    refine Run.call0E fn_i_store_resolve nm_i_store_resolve hI (resolve_calls hg (res_at hus j hj2 hj1) ⟨okUL_mem hrok _ hm2, hwxs _ hm2⟩ hRj ((hst1.up hE2.1).up hE3.1)) fun v' I' S4 w' => ?_
    rintro ⟨rfl, cs4, hl4, ho4, rfl, hrd4⟩ hE4 hI
    refine r_extract rfl ?_
    refine r_extract rfl ?_
    rw [List.append_nil] at hI
    refine r_alloc hI zo_iTerm fun b14 w' hI => ?_
    have hI := hI.perm (M := .blk b14 _ :: .blk b13 (.cells (cellsAt c' (j * 4) 4).toArray t_iTerm) :: [.blk b2 (.cells #[.int .i64 c0.head.kind, .int .i64 c0.head.n, .string c0.head.name, kc0, .slice (some ⟨bb, bo, none⟩) c0.body.length bcap] t_iClause), .blk b3 (.cells #[.int .i64 d0.head.kind, .int .i64 d0.head.n, .string d0.head.name, kd0, .slice da d0.body.length dcap] t_iClause), .blk b4 (.cells #[.int .i64 0, .int .i64 0, .string ⟨#[]⟩, .slice none 0 0, .slice none 0 0] t_iClause), .blk g (.cells c' t_iTerm)]) (List.perm_append_comm (l₁ := [_]))
    refine r_storeW hI 0 rfl ag_iTerm (by simpa using hl4) rfl (by simpa using ho4) fun w' hI => ?_
    have hI : Inv w [] (.blk b14 (.cells cs4.toArray t_iTerm) :: .blk b13 (.cells (cellsAt c' (j * 4) 4).toArray t_iTerm) :: [.blk b2 (.cells #[.int .i64 c0.head.kind, .int .i64 c0.head.n, .string c0.head.name, kc0, .slice (some ⟨bb, bo, none⟩) c0.body.length bcap] t_iClause), .blk b3 (.cells #[.int .i64 d0.head.kind, .int .i64 d0.head.n, .string d0.head.name, kd0, .slice da d0.body.length dcap] t_iClause), .blk b4 (.cells #[.int .i64 0, .int .i64 0, .string ⟨#[]⟩, .slice none 0 0, .slice none 0 0] t_iClause), .blk g (.cells c' t_iTerm)]) S4 w' := hI
    refine r_not ?_
    refine condV (fun hsb => ?_) (fun hsb => ?_)
    · have hsf : smallB us[j] = false := by simpa using hsb
      have hoS : o = some none := by
        rcases hsm with ⟨_, h⟩ | ⟨h, _⟩
        · exact h
        · rw [List.all_eq_true] at h
          rw [h _ (List.getElem_mem hj1)] at hsf
          cases hsf
      subst hoS
      refine r_buildClause0 ?_
      refine r_storeW hI 4 rfl ag_iClause rfl rfl hzo fun w' hI => ?_
      refine loadV_W hI 4 ag_iClause rfl rfl ?_
      exact ⟨_, _, _, rfl, hI.nil, (hEa.trans hE3).trans hE4, [.int .i64 0, .int .i64 0, .string ⟨#[]⟩, .slice none 0 0, .slice none 0 0], [], rfl, rfl, TrC.zero⟩
    · have hstt : smallB us[j] = true := by simpa using hsb
      have hR4 := hrd4 hstt
      refine r_loadW hI 0 ag_iTerm rfl (by simpa using hl4) ?_
      refine r_indexAddr sl_SiTerm (by omega) ?_
      rw [Nat.zero_add]
      refine r_storeB hI 5 rfl ag_iTerm (by simpa [Value.cells] using hl4) (Nat.ble_eq_true_of_le (by omega)) (by simpa [Value.cells] using ho4) fun w' hI => ?_
      have hI : Inv w [] [.blk b2 (.cells #[.int .i64 c0.head.kind, .int .i64 c0.head.n, .string c0.head.name, kc0, .slice (some ⟨bb, bo, none⟩) c0.body.length bcap] t_iClause), .blk b3 (.cells #[.int .i64 d0.head.kind, .int .i64 d0.head.n, .string d0.head.name, kd0, .slice da d0.body.length dcap] t_iClause), .blk b4 (.cells #[.int .i64 0, .int .i64 0, .string ⟨#[]⟩, .slice none 0 0, .slice none 0 0] t_iClause), .blk g (.cells (putCells c' (j * 4) cs4) t_iTerm)] S4 w' := hI.pick [false, false, true, true, true, true]
      refine r_add (by omega) ?_
      refine ⟨⟨j + 1, putCells c' (j * 4) cs4, S4, hj1, rfl, hE3.trans hE4, by rw [putCells_size _ _ _ (by omega)]; exact hcs', fun k hk hkj => ?_, fun k hk hkj => ?_, fun k hk hkj => ?_, hI⟩, by simp [intOf]; omega⟩
      · by_cases e : k = j
        · subst e; exact hstt
        · exact hdone k hk (by omega)
      · by_cases e : k = j
        · subst e
          have := cellsAt_put_self (c := c') (o := k * 4) (vs := cs4) (by omega)
          rw [hl4] at this
          rw [this]
          exact hR4
        · rw [cellsAt_put_ne (by omega) (by omega)]
          exact (hA k hk (by omega)).mono hE4.1
      · rw [cellsAt_put_ne (by omega) (by omega)]
        exact (hB k hk (by omega)).mono hE4.1
  have hje : j = us.length := by omega
  subst hje
  have hall : us.all smallB = true := by
    rw [List.all_eq_true]
    intro x hx
    obtain ⟨k, hk, rfl⟩ := List.mem_iff_getElem.1 hx
    exact hdone k hk hk
  have hoY : o = some (some (numC (cvars (ofL us)) (ofL us))) := by
    rcases hsm with ⟨h, _⟩ | ⟨_, h⟩
    · rw [hall] at h; cases h
    · exact h
  have hwu := smalls_w hall hlu
  have hI : Inv w [] ([.blk b2 (.cells #[.int .i64 c0.head.kind, .int .i64 c0.head.n, .string c0.head.name, kc0, .slice (some ⟨bb, bo, none⟩) c0.body.length bcap] t_iClause), .blk b3 (.cells #[.int .i64 d0.head.kind, .int .i64 d0.head.n, .string d0.head.name, kd0, .slice da d0.body.length dcap] t_iClause), .blk b4 (.cells #[.int .i64 0, .int .i64 0, .string ⟨#[]⟩, .slice none 0 0, .slice none 0 0] t_iClause)] ++ [.blk g (.cells c' t_iTerm)]) S3 w' := hI
  obtain ⟨S5, hI, hE5, hgS⟩ := hI.pub1
  have hEb := (hEa.trans hE3).trans hE5
  have hrn : RdSl S5 4 (RdT S5) (.slice (some ⟨g, 0, none⟩) xs.length cap) us := by
    rw [← hlen']
    exact ⟨_, cap, rfl, by omega, by simpa only [maxLen] using hcapm, .inr ⟨g, 0, c', t_iTerm, (0, 0), rfl, hgS, fun i hi => by rw [Nat.zero_add]; exact (hA i hi hi).mono hE5.1⟩⟩
  obtain ⟨u0, us', rfl⟩ : ∃ u0 us', us = u0 :: us' := by
    cases us with
    | nil => simp at hlen'; omega
    | cons u us' => exact ⟨u, us', rfl⟩
  have hlu2 := hlu
  rw [okUL] at hlu2
  have hnum := num_eqU (c := ofL (u0 :: us')) hlu2.1 hlu2.2
  have hwR0 : wC (ofL (u0 :: us')) ≤ 1048576 := by
    rw [wL] at hwu
    simp only [List.length_cons] at hwu hlen'
    show wC ⟨u0, us'⟩ ≤ 1048576
    simp only [wC]
    omega
  have hclo : clO o = numC (cvars (ofL (u0 :: us'))) (ofL (u0 :: us')) := by rw [hoY]; rfl
  have hfo : fitsO o = true := by rw [hoY]; rfl
  have hok : okIO o = clauseB (clO o) := by rw [hoY]; rfl
  have hwR : wC (clO o) ≤ 1048576 := by rw [hclo, wC_num]; exact hwR0
  obtain ⟨nb, no, ncap, nc, nE, nfz, hveq, hnS, hnR⟩ := hrn.at_ (i := 0) (by simp)
  rw [List.getElem_cons_zero] at hnR
  obtain ⟨kn, ec, f1, f2, f3, f4⟩ := RdT.iff.1 hnR
  rw [ec] at hnR
  obtain ⟨ka, kn1, kn2, hkn⟩ : ∃ a n m, kn = .slice a n m := by
    obtain ⟨a, m, e, _⟩ := f4
    exact ⟨_, _, _, e⟩
  rw [hveq] at hrn ⊢
  refine ⟨fun D x78 x77 x76 x75 x74 x73 x72 w_ => (D 0 = true → x72 = .slice (some ⟨nb, no, none⟩) (us'.length + 1) ncap) ∧ (D 1 = true → x73 = .pointer (some ⟨nb, no + 0 * 4, none⟩)) ∧ (D 2 = true → x74 = .agg #[.int .i64 u0.kind, .int .i64 u0.n, .string u0.name, kn]) ∧ (D 3 = true → x75 = .slice (some ⟨nb, no, none⟩) (us'.length + 1) ncap) ∧ (D 4 = true → True) ∧ (D 5 = true → True) ∧ (D 6 = true → True) ∧ (D 7 = true → True) ∧ ∃ SN cs6, Ext w.heap.size [] S5 SN ∧ (D 4 = true → RdSl S5 4 (RdT S5) x76 us') ∧ (D 5 = true → ∃ kb, x77 = .agg #[.int .i64 u0.kind, .int .i64 u0.n, .string u0.name, kn, kb] ∧ RdSl S5 4 (RdT S5) kb us') ∧ (D 6 = true → x78 = .agg (List.toArray cs6) ∧ RdC SN cs6 (clO o)) ∧ (D 7 = true → D 6 = true) ∧ Inv w [] [.blk b2 (.cells #[.int .i64 c0.head.kind, .int .i64 c0.head.n, .string c0.head.name, kc0, .slice (some ⟨bb, bo, none⟩) c0.body.length bcap] t_iClause), .blk b3 (.cells #[.int .i64 d0.head.kind, .int .i64 d0.head.n, .string d0.head.name, kd0, .slice da d0.body.length dcap] t_iClause), .blk b4 (.cells (cond (D 7) (List.toArray cs6) #[.int .i64 0, .int .i64 0, .string ⟨#[]⟩, .slice none 0 0, .slice none 0 0]) t_iClause)] SN w_, ⟨fun h => Bool.noConfusion h, fun h => Bool.noConfusion h, fun h => Bool.noConfusion h, fun h => Bool.noConfusion h, fun h => Bool.noConfusion h, fun h => Bool.noConfusion h, fun h => Bool.noConfusion h, fun h => Bool.noConfusion h, ⟨S5, [], Ext.refl _ _ _, fun h => Bool.noConfusion h, fun h => Bool.noConfusion h, fun h => Bool.noConfusion h, fun h => Bool.noConfusion h, hI.draw⟩⟩, ⟨?_, ?_, ?_, ?_, ?_, ?_, ?_, ?_, trivial⟩, ?_⟩
  · intro D hD_  x78 x77 x76 x75 x74 x73 x72 w_
    rintro ⟨h0_, h1_, h2_, h3_, h4_, h5_, h6_, h7_, ⟨SN, cs6, hN, e4, e5, e6, k76, hI⟩⟩
    exact ⟨fun _ => rfl, h1_, h2_, h3_, h4_, h5_, h6_, h7_, ⟨SN, cs6, hN, e4, e5, e6, k76, hI⟩⟩
  · intro D hD_ d0_0 x78 x77 x76 x75 x74 x73 x72 w_
    rintro ⟨h0_, h1_, h2_, h3_, h4_, h5_, h6_, h7_, ⟨SN, cs6, hN, e4, e5, e6, k76, hI⟩⟩
    obtain rfl := h0_ d0_0
    refine r_indexAddr (i := 0) sl_SiTerm (by simp) ?_
    exact ⟨h0_, fun _ => rfl, h2_, h3_, h4_, h5_, h6_, h7_, ⟨SN, cs6, hN, e4, e5, e6, k76, hI⟩⟩
  · intro D hD_ d1_0 x78 x77 x76 x75 x74 x73 x72 w_
    rintro ⟨h0_, h1_, h2_, h3_, h4_, h5_, h6_, h7_, ⟨SN, cs6, hN, e4, e5, e6, k76, hI⟩⟩
    obtain rfl := h1_ d1_0
    refine r_loadA (cs := [.int .i64 u0.kind, .int .i64 u0.n, .string u0.name, kn]) ag_iTerm rfl (fun j v hj => by rw [hI.cellS (hN.1 _ _ hnS)]; exact cellsAt_get ec j v hj) ?_
    exact ⟨h0_, h1_, fun _ => rfl, h3_, h4_, h5_, h6_, h7_, ⟨SN, cs6, hN, e4, e5, e6, k76, hI⟩⟩
  · intro D hD_  x78 x77 x76 x75 x74 x73 x72 w_
    rintro ⟨h0_, h1_, h2_, h3_, h4_, h5_, h6_, h7_, ⟨SN, cs6, hN, e4, e5, e6, k76, hI⟩⟩
    exact ⟨h0_, h1_, h2_, fun _ => rfl, h4_, h5_, h6_, h7_, ⟨SN, cs6, hN, e4, e5, e6, k76, hI⟩⟩
  · intro D hD_ d3_0 x78 x77 x76 x75 x74 x73 x72 w_
    rintro ⟨h0_, h1_, h2_, h3_, h4_, h5_, h6_, h7_, ⟨SN, cs6, hN, e4, e5, e6, k76, hI⟩⟩
    obtain rfl := h3_ d3_0
    refine r_sliceFrom (l := 1) sl_SiTerm hrn (by simp) fun kb1 hkb => ?_
    rw [List.drop_succ_cons, List.drop_zero] at hkb
    have e4 := fun (_ : setD D 4 4 = true) => hkb
    exact ⟨h0_, h1_, h2_, h3_, fun _ => by first | assumption | trivial, h5_, h6_, h7_, ⟨SN, cs6, hN, e4, e5, e6, k76, hI⟩⟩
  · intro D hD_ d2_0 d4_1 x78 x77 x76 x75 x74 x73 x72 w_
    rintro ⟨h0_, h1_, h2_, h3_, h4_, h5_, h6_, h7_, ⟨SN, cs6, hN, e4, e5, e6, k76, hI⟩⟩
    obtain rfl := h2_ d2_0
    have g4_ := h4_ d4_1
    have hq4 := e4 d4_1
    refine r_buildClause ?_ ?_
    · obtain ⟨a, m, e, _⟩ := hq4
      exact ⟨_, _, _, e⟩
    have e5 := fun (_ : setD D 5 5 = true) => (⟨_, rfl, hq4⟩ : ∃ kb, Value.agg #[.int .i64 u0.kind, .int .i64 u0.n, .string u0.name, kn, x76] = .agg #[.int .i64 u0.kind, .int .i64 u0.n, .string u0.name, kn, kb] ∧ RdSl S5 4 (RdT S5) kb us')
    exact ⟨h0_, h1_, h2_, h3_, h4_, fun _ => by first | assumption | trivial, h6_, h7_, ⟨SN, cs6, hN, e4, e5, e6, k76, hI⟩⟩
  · intro D hD_ d5_0 x78 x77 x76 x75 x74 x73 x72 w_
    rintro ⟨h0_, h1_, h2_, h3_, h4_, h5_, h6_, h7_, ⟨SN, cs6, hN, e4, e5, e6, k76, hI⟩⟩
    have g5_ := h5_ d5_0
    obtain ⟨kb1, q5, hkb⟩ := e5 d5_0
    subst q5
    have f7 : D 7 = false := Bool.eq_false_iff.2 fun h => by rw [k76 h] at hD_; cases hD_
    have hRC : RdC SN [.int .i64 u0.kind, .int .i64 u0.n, .string u0.name, kn, kb1] (ofL (u0 :: us')) := ⟨_, _, rfl, hnR.mono hN.1, hkb.monoT hN.1⟩
    refine Run.call0E fn_i_numbered nm_i_numbered hI (numbered_of hRC hnum hwR0) fun v' I' SN w_ => ?_
    rw [← hclo]
    rintro ⟨rfl, cs6, rfl, hR6⟩ hE6 hI
    have hN := hN.trans hE6
    have e6 := fun (_ : setD D 6 6 = true) => (⟨rfl, hR6⟩ : Value.agg (List.toArray cs6) = Value.agg (List.toArray cs6) ∧ RdC SN cs6 (clO o))
    have k76 := fun (_ : setD D 6 7 = true) => (rfl : setD D 6 6 = true)
    have hI : Inv w [] [.blk b2 (.cells #[.int .i64 c0.head.kind, .int .i64 c0.head.n, .string c0.head.name, kc0, .slice (some ⟨bb, bo, none⟩) c0.body.length bcap] t_iClause), .blk b3 (.cells #[.int .i64 d0.head.kind, .int .i64 d0.head.n, .string d0.head.name, kd0, .slice da d0.body.length dcap] t_iClause), .blk b4 (.cells (cond (D 7) (List.toArray cs6) #[.int .i64 0, .int .i64 0, .string ⟨#[]⟩, .slice none 0 0, .slice none 0 0]) t_iClause)] SN w_ := by rw [f7] at hI ⊢; simpa using hI
    exact ⟨h0_, h1_, h2_, h3_, h4_, h5_, fun _ => by first | assumption | trivial, h7_, ⟨SN, cs6, hN, e4, e5, e6, k76, hI⟩⟩
  · intro D hD_ d6_0 d6_1 d0_2 d1_3 d2_4 d3_5 d4_6 d5_7 d6_8 x78 x77 x76 x75 x74 x73 x72 w_
    rintro ⟨h0_, h1_, h2_, h3_, h4_, h5_, h6_, h7_, ⟨SN, cs6, hN, e4, e5, e6, k76, hI⟩⟩
    have g6_ := h6_ d6_0
    obtain ⟨q6, hR6⟩ := e6 d6_0
    subst q6
    rw [hD_] at hI
    refine r_storeW hI 2 rfl ag_iClause (by simpa using hR6.length) rfl (by simpa using hR6.one) fun w_ hI => ?_
    have k76 := fun (_ : setD D 7 7 = true) => d6_0
    exact ⟨h0_, h1_, h2_, h3_, h4_, h5_, h6_, fun _ => trivial, ⟨SN, cs6, hN, e4, e5, e6, k76, hI⟩⟩
  intro D d7_ d6_ d5_ d4_ d3_ d2_ d1_ d0_ x78 x77 x76 x75 x74 x73 x72 w_
  rintro ⟨h0_, h1_, h2_, h3_, h4_, h5_, h6_, h7_, ⟨SN, cs6, hN, e4, e5, e6, k76, hI⟩⟩
  have g6_ := h6_ d6_
  have g5_ := h5_ d5_
  have g4_ := h4_ d4_
  obtain rfl := h3_ d3_
  obtain rfl := h2_ d2_
  obtain rfl := h1_ d1_
  obtain rfl := h0_ d0_
  clear h0_ h1_ h2_ h3_ h4_ h5_ h6_ h7_
  obtain ⟨_, hR6⟩ := e6 d6_
  rw [d7_] at hI
  clear e4 e5 e6 k76
  have hEc := hEb.trans hN
  have hl6 := hR6.length
  have hI : Inv w [] [.blk b2 (.cells #[.int .i64 c0.head.kind, .int .i64 c0.head.n, .string c0.head.name, kc0, .slice (some ⟨bb, bo, none⟩) c0.body.length bcap] t_iClause), .blk b3 (.cells #[.int .i64 d0.head.kind, .int .i64 d0.head.n, .string d0.head.name, kd0, .slice da d0.body.length dcap] t_iClause), .blk b4 (.cells (List.toArray cs6) t_iClause)] SN w_ := hI
  refine ⟨fun D x6 x5 x82 x81 x80 x79 w_ => (D 0 = true → x79 = .agg (List.toArray cs6)) ∧ (D 1 = true → True) ∧ (D 2 = true → x81 = .agg (List.toArray cs6)) ∧ (D 3 = true → x82 = .bool (clauseB (clO o))) ∧ (D 4 = true → True) ∧ (D 5 = true → x5 = .bool true) ∧ (D 6 = true → x6 = .bool (clauseB (clO o))) ∧ ∃ cs1 M, (D 1 = true → x80 = .agg (List.toArray cs1) ∧ TrC M cs1 (clO o)) ∧ (D 4 = true → D 1 = true ∧ D 2 = true ∧ D 0 = true) ∧ Inv w [] ([.blk b2 (.cells #[.int .i64 c0.head.kind, .int .i64 c0.head.n, .string c0.head.name, kc0, .slice (some ⟨bb, bo, none⟩) c0.body.length bcap] t_iClause), .blk b3 (.cells #[.int .i64 d0.head.kind, .int .i64 d0.head.n, .string d0.head.name, kd0, .slice da d0.body.length dcap] t_iClause), .blk b4 (.cells (cond (D 4) (List.toArray cs1) (List.toArray cs6)) t_iClause)] ++ cond (D 1) (blks M) []) SN w_, ⟨fun h => Bool.noConfusion h, fun h => Bool.noConfusion h, fun h => Bool.noConfusion h, fun h => Bool.noConfusion h, fun h => Bool.noConfusion h, fun h => Bool.noConfusion h, fun h => Bool.noConfusion h, ⟨[], [], fun h => Bool.noConfusion h, fun h => Bool.noConfusion h, hI.draw⟩⟩, ⟨?_, ?_, ?_, ?_, ?_, ?_, ?_, trivial⟩, ?_⟩
  · intro D hD_  x6 x5 x82 x81 x80 x79 w_
    rintro ⟨h0_, h1_, h2_, h3_, h4_, h5_, h6_, ⟨cs1, M, e1, k4, hI⟩⟩
    have f4 : D 4 = false := Bool.eq_false_iff.2 fun h => by rw [(k4 h).2.2] at hD_; cases hD_
    refine r_loadW (c := List.toArray cs6) hI 2 ag_iClause (by rw [f4]; rfl) (by simpa using hl6) ?_
    have k4 := fun (h : setD D 0 4 = true) => (⟨(k4 h).1, (k4 h).2.1, rfl⟩ : setD D 0 1 = true ∧ setD D 0 2 = true ∧ setD D 0 0 = true)
    exact ⟨fun _ => rfl, h1_, h2_, h3_, h4_, h5_, h6_, ⟨cs1, M, e1, k4, hI⟩⟩
  · intro D hD_ d0_0 x6 x5 x82 x81 x80 x79 w_
    rintro ⟨h0_, h1_, h2_, h3_, h4_, h5_, h6_, ⟨cs1, M, e1, k4, hI⟩⟩
    obtain rfl := h0_ d0_0
    have f4 : D 4 = false := Bool.eq_false_iff.2 fun h => by rw [(k4 h).1] at hD_; cases hD_
    rw [hD_] at hI
    refine Run.call0 fn_i_ownClause nm_i_ownClause hI (ownClause_calls hR6 hwR) fun v' I' S' w_ => ?_
    rintro ⟨eS, cs1, M, rfl, rfl, hT⟩ _ hI
    rw [eS] at hI
    have e1 := fun (_ : setD D 1 1 = true) => (⟨rfl, hT⟩ : Value.agg (List.toArray cs1) = Value.agg (List.toArray cs1) ∧ TrC M cs1 (clO o))
    have k4 := fun (h : setD D 1 4 = true) => (⟨rfl, (k4 h).2.1, (k4 h).2.2⟩ : setD D 1 1 = true ∧ setD D 1 2 = true ∧ setD D 1 0 = true)
    have hI : Inv w [] ([.blk b2 (.cells #[.int .i64 c0.head.kind, .int .i64 c0.head.n, .string c0.head.name, kc0, .slice (some ⟨bb, bo, none⟩) c0.body.length bcap] t_iClause), .blk b3 (.cells #[.int .i64 d0.head.kind, .int .i64 d0.head.n, .string d0.head.name, kd0, .slice da d0.body.length dcap] t_iClause), .blk b4 (.cells (cond (D 4) (List.toArray cs1) (List.toArray cs6)) t_iClause)] ++ cond true (blks M) []) SN w_ := by rw [f4] at hI ⊢; simpa using hI
    exact ⟨h0_, fun _ => by first | assumption | trivial, h2_, h3_, h4_, h5_, h6_, ⟨cs1, M, e1, k4, hI⟩⟩
  · intro D hD_  x6 x5 x82 x81 x80 x79 w_
    rintro ⟨h0_, h1_, h2_, h3_, h4_, h5_, h6_, ⟨cs1, M, e1, k4, hI⟩⟩
    have f4 : D 4 = false := Bool.eq_false_iff.2 fun h => by rw [(k4 h).2.1] at hD_; cases hD_
    refine r_loadW (c := List.toArray cs6) hI 2 ag_iClause (by rw [f4]; rfl) (by simpa using hl6) ?_
    have k4 := fun (h : setD D 2 4 = true) => (⟨(k4 h).1, rfl, (k4 h).2.2⟩ : setD D 2 1 = true ∧ setD D 2 2 = true ∧ setD D 2 0 = true)
    exact ⟨h0_, h1_, fun _ => rfl, h3_, h4_, h5_, h6_, ⟨cs1, M, e1, k4, hI⟩⟩
  · intro D hD_ d2_0 d1_1 x6 x5 x82 x81 x80 x79 w_
    rintro ⟨h0_, h1_, h2_, h3_, h4_, h5_, h6_, ⟨cs1, M, e1, k4, hI⟩⟩
    obtain rfl := h2_ d2_0
    refine Run.callPure fn_i_ClauseValid nm_i_ClauseValid hI (iClauseValid_calls hR6) fun w_ hI => ?_
    exact ⟨h0_, h1_, h2_, fun _ => rfl, h4_, h5_, h6_, ⟨cs1, M, e1, k4, hI⟩⟩
  · intro D hD_ d1_0 d3_1 d0_2 d1_3 d2_4 x6 x5 x82 x81 x80 x79 w_
    rintro ⟨h0_, h1_, h2_, h3_, h4_, h5_, h6_, ⟨cs1, M, e1, k4, hI⟩⟩
    have g1_ := h1_ d1_0
    obtain ⟨q1, hT⟩ := e1 d1_0
    subst q1
    rw [hD_] at hI
    refine r_storeW hI 2 rfl ag_iClause (by simpa using hT.length) (by simpa using hl6) (by simpa using hT.one) fun w_ hI => ?_
    have k4 := fun (_ : setD D 4 4 = true) => (⟨d1_0, d2_4, d0_2⟩ : setD D 4 1 = true ∧ setD D 4 2 = true ∧ setD D 4 0 = true)
    exact ⟨h0_, h1_, h2_, h3_, fun _ => trivial, h5_, h6_, ⟨cs1, M, e1, k4, hI⟩⟩
  · intro D hD_ d4_0 d0_1 d1_2 d2_3 d4_4 x6 x5 x82 x81 x80 x79 w_
    rintro ⟨h0_, h1_, h2_, h3_, h4_, h5_, h6_, ⟨cs1, M, e1, k4, hI⟩⟩
    exact ⟨h0_, h1_, h2_, h3_, h4_, fun _ => rfl, h6_, ⟨cs1, M, e1, k4, hI⟩⟩
  · intro D hD_ d3_0 d5_1 d0_2 d1_3 d2_4 d3_5 d4_6 d5_7 x6 x5 x82 x81 x80 x79 w_
    rintro ⟨h0_, h1_, h2_, h3_, h4_, h5_, h6_, ⟨cs1, M, e1, k4, hI⟩⟩
    obtain rfl := h3_ d3_0
    exact ⟨h0_, h1_, h2_, h3_, h4_, h5_, fun _ => rfl, ⟨cs1, M, e1, k4, hI⟩⟩
  intro D d6_ d5_ d4_ d3_ d2_ d1_ d0_ x6 x5 x82 x81 x80 x79 w_
  rintro ⟨h0_, h1_, h2_, h3_, h4_, h5_, h6_, ⟨cs1, M, e1, k4, hI⟩⟩
  obtain rfl := h6_ d6_
  obtain rfl := h5_ d5_
  obtain rfl := h3_ d3_
  obtain rfl := h2_ d2_
  have g1_ := h1_ d1_
  obtain rfl := h0_ d0_
  clear h0_ h1_ h2_ h3_ h4_ h5_ h6_
  obtain ⟨_, hT⟩ := e1 d1_
  rw [d4_, d1_] at hI
  refine loadV_W (c := List.toArray cs1) hI 2 ag_iClause rfl (by simpa using hT.length) ?_
  have hI : Inv w [] ([.blk b2 (.cells #[.int .i64 c0.head.kind, .int .i64 c0.head.n, .string c0.head.name, kc0, .slice (some ⟨bb, bo, none⟩) c0.body.length bcap] t_iClause), .blk b3 (.cells #[.int .i64 d0.head.kind, .int .i64 d0.head.n, .string d0.head.name, kd0, .slice da d0.body.length dcap] t_iClause), .blk b4 (.cells (List.toArray cs1) t_iClause)] ++ blks M) SN w_ := hI
  exact ⟨_, _, _, rfl, hI.sub (List.sublist_append_right _ _), hEc, cs1, M, by rw [hfo, hok], rfl, hT⟩
end

end Go.Proofs.Ytaaihodhhacapaa

/- Which clauses can be unfolded: both sides. -/
namespace Go.Proofs.Ytaaihodhhacapaa
open Go Go.RowKit
attribute [local irreducible] Run CondV GuardV LoadV

def firstB (c : C) : Bool := match c.body with
  | [] => false
  | g :: _ => plainB g
def cutsB (c : C) : Bool := c.body.any cutB
def cutAt (p : List C) (n : Int) : Bool := match p[n.toNat]? with
  | some c => cutsB c
  | none => false
def forL (p : List C) (g : T) : List Int := posOf (fun c => eqPd (predT c.head) (predT g)) p 0
def unfC (p : List C) (i : Int) (c : C) : Bool := match c.body with
  | [] => false
  | g :: _ => plainB g && (decide (0 < (forL p g).length) && (!cutsB c && (forL p g).all fun n => !(cutAt p n || decide (n = i))))
def unfB (p : List C) (i : Int) : Bool := progB p && (decide (0 ≤ i) && match p[i.toNat]? with
  | none => false
  | some c => unfC p i c)
theorem first_iff {c : C} (h : firstB c = true) : ∃ g gs, c.body = g :: gs ∧ plainB g = true := by
  unfold firstB at h
  split at h
  · cases h
  · exact ⟨_, _, ‹_›, h⟩
theorem unfC_first {p : List C} {i : Int} {c : C} (h : firstB c = false) : unfC p i c = false := by
  unfold firstB at h
  unfold unfC
  split at h
  · rfl
  · simp [h]

theorem s_l15First_calls {c : C} {S : Store} {cs : List Value} (h : RdC S cs c) : Pure Try.prog n_s_l15First [.agg cs.toArray] S (.bool (firstB c)) := by
  intro w hI
  obtain ⟨hd, ks, rfl, h1, h2⟩ := h
  obtain ⟨kv, rfl, _⟩ := RdT.iff.1 h1
  refine calls_s_l15First ?_
  unfold sh_s_l15First
  refine r_box hI fun b1 w' hI => ?_
  refine r_fieldL hI 0 rfl fo_iClause_1 sc_SiTerm rfl ?_
  refine r_lenSl h2 sl_SiTerm ?_
  refine r_gtr ?_
  cases hb : c.body with
  | nil =>
    rw [show decide ((0 : Int) < (([] : List T).length : Int)) = false from rfl]
    repeat (first | refine guard_true ?_ | refine guard_ne (by decide) ?_ | refine guard_undef ?_ | refine r_pickT ?_ | refine r_pickF ?_)
    exact done hI (by rw [firstB, hb])
  | cons g gs =>
    have hlt : 0 < c.body.length := by rw [hb]; simp
    rw [show decide ((0 : Int) < ((g :: gs).length : Int)) = true from decide_eq_true (by simp)]
    repeat (first | refine guard_true ?_ | refine guard_ne (by decide) ?_ | refine guard_undef ?_ | refine r_pickT ?_ | refine r_pickF ?_)
    refine r_fieldL hI 0 rfl fo_iClause_1 sc_SiTerm rfl ?_
    refine r_elem (i := 0) hI h2 sl_SiTerm ag_iTerm hlt (fun _ _ => RdT.length) fun cs' hcs' => ?_
    refine Run.callPure fn_s_l4Plain nm_s_l4Plain hI (l4Plain_calls hcs') fun w' hI => ?_
    repeat (first | refine guard_true ?_ | refine guard_ne (by decide) ?_ | refine guard_undef ?_ | refine r_pickT ?_ | refine r_pickF ?_)
    refine done hI ?_
    rw [firstB]
    simp [hb]
theorem i_firstPlain_calls {c : C} {S : Store} {cs : List Value} (h : RdC S cs c) : Pure Try.prog n_i_firstPlain [.agg cs.toArray] S (.bool (firstB c)) := by
  intro w hI
  obtain ⟨hd, ks, rfl, h1, h2⟩ := h
  obtain ⟨kv, rfl, _⟩ := RdT.iff.1 h1
  refine calls_i_firstPlain ?_
  unfold sh_i_firstPlain
  refine r_box hI fun b1 w' hI => ?_
  refine r_fieldL hI 0 rfl fo_iClause_1 sc_SiTerm rfl ?_
  refine r_lenSl h2 sl_SiTerm ?_
  refine r_gtr ?_
  cases hb : c.body with
  | nil =>
    rw [show decide ((0 : Int) < (([] : List T).length : Int)) = false from rfl]
    repeat (first | refine guard_true ?_ | refine guard_ne (by decide) ?_ | refine guard_undef ?_ | refine r_pickT ?_ | refine r_pickF ?_)
    exact done hI (by rw [firstB, hb])
  | cons g gs =>
    have hlt : 0 < c.body.length := by rw [hb]; simp
    rw [show decide ((0 : Int) < ((g :: gs).length : Int)) = true from decide_eq_true (by simp)]
    repeat (first | refine guard_true ?_ | refine guard_ne (by decide) ?_ | refine guard_undef ?_ | refine r_pickT ?_ | refine r_pickF ?_)
    refine r_fieldL hI 0 rfl fo_iClause_1 sc_SiTerm rfl ?_
    refine r_elem (i := 0) hI h2 sl_SiTerm ag_iTerm hlt (fun _ _ => RdT.length) fun cs' hcs' => ?_
    refine Run.callPure fn_i_isPlain nm_i_isPlain hI (isPlain_calls hcs') fun w' hI => ?_
    repeat (first | refine guard_true ?_ | refine guard_ne (by decide) ?_ | refine guard_undef ?_ | refine r_pickT ?_ | refine r_pickF ?_)
    refine done hI ?_
    rw [firstB]
    simp [hb]

end Go.Proofs.Ytaaihodhhacapaa

/- Resolvent on both sides. -/
namespace Go.Proofs.Ytaaihodhhacapaa
open Go Go.RowKit
def resG (c d : C) : Bool := clauseB c && (clauseB d && firstB c)
theorem resG_ok {c d : C} (h : resG c d = true) : clauseB c = true ∧ clauseB d = true ∧ c.body ≠ [] := by
  rw [resG, Bool.and_eq_true, Bool.and_eq_true] at h
  obtain ⟨g, gs, e, _⟩ := first_iff h.2.2
  exact ⟨h.1, h.2.1, by rw [e]; simp⟩
def RB (c d r : C) (b : Bool) : Prop := (resG c d = false ∧ r = zeroC ∧ b = false) ∨ (resG c d = true ∧ ∃ o, RO c d o ∧ ((okIO o = true ∧ r = clO o ∧ b = true) ∨ (okIO o = false ∧ r = zeroC ∧ b = false)))
theorem RB.ex {c d : C} (hw : wC c ≤ 1048576) (hw2 : wC d ≤ 1048576) : ∃ r b, RB c d r b := by
  cases hg : resG c d with
  | false => exact ⟨_, _, .inl ⟨hg, rfl, rfl⟩⟩
  | true =>
    obtain ⟨h1, h2, h3⟩ := resG_ok hg
    obtain ⟨o, ho⟩ := RO.ex h1 h2 hw hw2 h3
    cases hk : okIO o with
    | false => exact ⟨_, _, .inr ⟨hg, o, ho, .inr ⟨hk, rfl, rfl⟩⟩⟩
    | true => exact ⟨_, _, .inr ⟨hg, o, ho, .inl ⟨hk, rfl, rfl⟩⟩⟩
theorem okIO_eq (o : Option (Option C)) : okIO o = (fitsO o && okSO o) := by
  match o with
  | none => rfl
  | some none => rfl
  | some (some r) => show clauseB r = (true && clauseB r); simp
theorem zeroC_w : wC zeroC ≤ 20000 := by decide +kernel
theorem clO_w {c d : C} (h1 : clauseB c = true) (h2 : clauseB d = true) (hw : wC c ≤ 1048576) (hw2 : wC d ≤ 1048576) (h3 : c.body ≠ []) {o : Option (Option C)} (ho : RO c d o) : wC (clO o) ≤ 20000 := by
  obtain ⟨r, st, hu, hcase⟩ := ho
  rcases hcase with ⟨_, rfl⟩ | ⟨_, us, hus, ⟨_, rfl⟩ | ⟨hs, rfl⟩⟩
  · exact zeroC_w
  · exact zeroC_w
  · have hg := (hu.good stU_good (first_okJ h1 h2 hw hw2 h3)).1
    obtain ⟨e1, e2⟩ := res_okU hg hus (rlist_ok h1 h2)
    have hl := rlist_len h1 h2
    have hs2 := smalls_w hs e1
    show wC (numC (cvars (ofL us)) (ofL us)) ≤ 20000
    rw [wC_num]
    match us, hs2, e2 with
    | [], _, _ => exact zeroC_w
    | u :: us, hs2, e2 =>
      rw [wL] at hs2
      rw [List.length_cons] at hs2 e2
      simp only [wC, ofL]
      omega
theorem RB.w {c d r : C} {b : Bool} (h : RB c d r b) (hw : wC c ≤ 1048576) (hw2 : wC d ≤ 1048576) : wC r ≤ 20000 := by
  rcases h with ⟨_, rfl, _⟩ | ⟨hg, o, ho, ⟨_, rfl, _⟩ | ⟨_, rfl, _⟩⟩
  · exact zeroC_w
  · obtain ⟨h1, h2, h3⟩ := resG_ok hg
    exact clO_w h1 h2 hw hw2 h3 ho
  · exact zeroC_w
section
attribute [local irreducible] Run CondV GuardV LoadV
theorem s_Resolvent_calls {c d r : C} {b : Bool} (hr : RB c d r b) {S : Store} {cs ds : List Value} (h : RdC S cs c) (g : RdC S ds d) (hw : wC c ≤ 1048576) (hw2 : wC d ≤ 1048576) : Tri Try.prog n_s_Resolvent [.agg cs.toArray, .agg ds.toArray] [] S (PostOB r b) := by
  intro w hI
  have h0 := h
  have g0 := g
  have hlc := h.length
  have hld := g.length
  refine calls_s_Resolvent ?_
  unfold sh_s_Resolvent
  refine r_box hI fun b2 w' hI => ?_
  refine r_box hI fun b3 w' hI => ?_
  refine r_alloc hI zo_iClause fun b4 w' hI => ?_
  have hI : Inv w [] [.blk b2 (.cells cs.toArray t_iClause), .blk b3 (.cells ds.toArray t_iClause), .blk b4 (.cells #[.int .i64 0, .int .i64 0, .string ⟨#[]⟩, .slice none 0 0, .slice none 0 0] t_iClause)] S w' := hI
  refine ⟨fun q w' => q = .bool (!resG c d) ∧ Inv w [] [.blk b2 (.cells cs.toArray t_iClause), .blk b3 (.cells ds.toArray t_iClause), .blk b4 (.cells #[.int .i64 0, .int .i64 0, .string ⟨#[]⟩, .slice none 0 0, .slice none 0 0] t_iClause)] S w', ?_, ?_⟩
  · refine r_loadW hI 0 ag_iClause rfl (by simpa using hlc) ?_
    refine Run.callPure fn_s_ClauseValid nm_s_ClauseValid hI (sClauseValid_calls h0 hw) fun w' hI => ?_
    refine r_not ?_
    cases hv1 : clauseB c
    · repeat (first | refine guard_true ?_ | refine guard_ne (by decide) ?_ | refine guard_undef ?_ | refine r_pickT ?_ | refine r_pickF ?_)
      exact ⟨by rw [resG, hv1]; rfl, hI⟩
    repeat (first | refine guard_true ?_ | refine guard_ne (by decide) ?_ | refine guard_undef ?_ | refine r_pickT ?_ | refine r_pickF ?_)
    refine r_loadW hI 1 ag_iClause rfl (by simpa using hld) ?_
    refine Run.callPure fn_s_ClauseValid nm_s_ClauseValid hI (sClauseValid_calls g0 hw2) fun w' hI => ?_
    refine r_not ?_
    cases hv2 : clauseB d
    · repeat (first | refine guard_true ?_ | refine guard_ne (by decide) ?_ | refine guard_undef ?_ | refine r_pickT ?_ | refine r_pickF ?_)
      exact ⟨by rw [resG, hv1, hv2]; rfl, hI⟩
    repeat (first | refine guard_true ?_ | refine guard_ne (by decide) ?_ | refine guard_undef ?_ | refine r_pickT ?_ | refine r_pickF ?_)
    refine r_loadW hI 0 ag_iClause rfl (by simpa using hlc) ?_
    refine Run.callPure fn_s_l15First nm_s_l15First hI (s_l15First_calls h0) fun w' hI => ?_
    refine r_not ?_
    repeat (first | refine guard_true ?_ | refine guard_ne (by decide) ?_ | refine guard_undef ?_ | refine r_pickT ?_ | refine r_pickF ?_)
    exact ⟨by rw [resG, hv1, hv2]; rfl, hI⟩
  intro q _ _ _ _ _ _ _ _ _ _ _ _ w'
  rintro ⟨rfl, hI⟩
  rcases hr with ⟨hg, rfl, rfl⟩ | ⟨hg, o, ho, hcase⟩
  · rw [hg]
    refine condV (fun _ => ?_) (fun hb => by cases hb)
    refine r_buildClause0 ?_
    refine r_storeW hI 2 rfl ag_iClause rfl rfl (by simp [Value.oneCell']) fun w' hI => ?_
    refine loadV_W hI 2 ag_iClause rfl rfl ?_
    exact ⟨_, _, _, rfl, hI.pick [false, false, false], Ext.refl _ _ _, _, [], rfl, rfl, TrC.zero⟩
  rw [hg]
  refine condV (fun hb => by cases hb) (fun _ => ?_)
  obtain ⟨hv1, hv2, hbne⟩ := resG_ok hg
  refine r_loadW hI 0 ag_iClause rfl (by simpa using hlc) ?_
  refine r_loadW hI 1 ag_iClause rfl (by simpa using hld) ?_
  have hcw := clO_w hv1 hv2 hw hw2 hbne ho
  refine Run.call0E fn_s_l15Resolvent nm_s_l15Resolvent hI (l15Resolvent_calls hv1 hv2 hw hw2 hbne ho h0 g0) fun v' I' S2 w' => ?_
  rintro ⟨rfl, es, rfl, hes⟩ hE hI
  refine r_extract rfl ?_
  refine r_extract rfl ?_
  refine r_extract rfl ?_
  refine r_alloc hI zo_iClause fun b6 w' hI => ?_
  refine r_storeW hI 3 rfl ag_iClause (by simpa using hes.length) rfl (by simpa using hes.one) fun w' hI => ?_
  have hI : Inv w [] [.blk b2 (.cells cs.toArray t_iClause), .blk b3 (.cells ds.toArray t_iClause), .blk b4 (.cells #[.int .i64 0, .int .i64 0, .string ⟨#[]⟩, .slice none 0 0, .slice none 0 0] t_iClause), .blk b6 (.cells es.toArray t_iClause)] S2 w' := hI
  refine ⟨fun q w' => q = .bool (!okIO o) ∧ Inv w [] [.blk b2 (.cells cs.toArray t_iClause), .blk b3 (.cells ds.toArray t_iClause), .blk b4 (.cells #[.int .i64 0, .int .i64 0, .string ⟨#[]⟩, .slice none 0 0, .slice none 0 0] t_iClause), .blk b6 (.cells es.toArray t_iClause)] S2 w', ?_, ?_⟩
  · rw [okIO_eq]
    refine r_not ?_
    cases hf : fitsO o
    · repeat (first | refine guard_true ?_ | refine guard_ne (by decide) ?_ | refine guard_undef ?_ | refine r_pickT ?_ | refine r_pickF ?_)
      exact ⟨rfl, hI⟩
    repeat (first | refine guard_true ?_ | refine guard_ne (by decide) ?_ | refine guard_undef ?_ | refine r_pickT ?_ | refine r_pickF ?_)
    refine r_not ?_
    repeat (first | refine guard_true ?_ | refine guard_ne (by decide) ?_ | refine guard_undef ?_ | refine r_pickT ?_ | refine r_pickF ?_)
    exact ⟨rfl, hI⟩
  intro q _ _ _ _ _ w'
  rintro ⟨rfl, hI⟩
  rcases hcase with ⟨hk, rfl, rfl⟩ | ⟨hk, rfl, rfl⟩
  · rw [hk]
    refine condV (fun hb => by cases hb) (fun _ => ?_)
    refine r_loadW hI 3 ag_iClause rfl (by simpa using hes.length) ?_
    refine Run.call0 fn_s_l4Copy nm_s_l4Copy hI (l4Copy_calls hes (by omega)) fun v' I' S3 w' => ?_
    rintro ⟨rfl, cs2, L, rfl, rfl, hT⟩ _ hI
    refine r_storeW hI 2 rfl ag_iClause (by simpa using hT.length) rfl (by simpa using hT.one) fun w' hI => ?_
    refine loadV_W hI 2 ag_iClause rfl (by simpa using hT.length) ?_
    have hI : Inv w [] (blks L) S3 w' := hI.sub (List.sublist_append_right [_, _, _, _] _)
    exact ⟨_, _, _, rfl, hI, hE, cs2, L, rfl, rfl, hT⟩
  · rw [hk]
    refine condV (fun _ => ?_) (fun hb => by cases hb)
    refine r_buildClause0 ?_
    refine r_storeW hI 2 rfl ag_iClause rfl rfl (by simp [Value.oneCell']) fun w' hI => ?_
    refine loadV_W hI 2 ag_iClause rfl rfl ?_
    exact ⟨_, _, _, rfl, hI.pick [false, false, false, false], hE, _, [], rfl, rfl, TrC.zero⟩
theorem i_Resolvent_calls {c d r : C} {b : Bool} (hr : RB c d r b) {S : Store} {cs ds : List Value} (h : RdC S cs c) (g : RdC S ds d) (hw : wC c ≤ 1048576) (hw2 : wC d ≤ 1048576) : Tri Try.prog n_i_Resolvent [.agg cs.toArray, .agg ds.toArray] [] S (PostOB r b) := by
  intro w hI
  have h0 := h
  have g0 := g
  have hlc := h.length
  have hld := g.length
  refine calls_i_Resolvent ?_
  unfold sh_i_Resolvent
  refine r_box hI fun b2 w' hI => ?_
  refine r_box hI fun b3 w' hI => ?_
  refine r_alloc hI zo_iClause fun b4 w' hI => ?_
  have hI : Inv w [] [.blk b2 (.cells cs.toArray t_iClause), .blk b3 (.cells ds.toArray t_iClause), .blk b4 (.cells #[.int .i64 0, .int .i64 0, .string ⟨#[]⟩, .slice none 0 0, .slice none 0 0] t_iClause)] S w' := hI
  refine ⟨fun q w' => q = .bool (!resG c d) ∧ Inv w [] [.blk b2 (.cells cs.toArray t_iClause), .blk b3 (.cells ds.toArray t_iClause), .blk b4 (.cells #[.int .i64 0, .int .i64 0, .string ⟨#[]⟩, .slice none 0 0, .slice none 0 0] t_iClause)] S w', ?_, ?_⟩
  · refine r_loadW hI 0 ag_iClause rfl (by simpa using hlc) ?_
    refine Run.callPure fn_i_ClauseValid nm_i_ClauseValid hI (iClauseValid_calls h0) fun w' hI => ?_
    refine r_not ?_
    cases hv1 : clauseB c
    · repeat (first | refine guard_true ?_ | refine guard_ne (by decide) ?_ | refine guard_undef ?_ | refine r_pickT ?_ | refine r_pickF ?_)
      exact ⟨by rw [resG, hv1]; rfl, hI⟩
    repeat (first | refine guard_true ?_ | refine guard_ne (by decide) ?_ | refine guard_undef ?_ | refine r_pickT ?_ | refine r_pickF ?_)
    refine r_loadW hI 1 ag_iClause rfl (by simpa using hld) ?_
    refine Run.callPure fn_i_ClauseValid nm_i_ClauseValid hI (iClauseValid_calls g0) fun w' hI => ?_
    refine r_not ?_
    cases hv2 : clauseB d
    · repeat (first | refine guard_true ?_ | refine guard_ne (by decide) ?_ | refine guard_undef ?_ | refine r_pickT ?_ | refine r_pickF ?_)
      exact ⟨by rw [resG, hv1, hv2]; rfl, hI⟩
    repeat (first | refine guard_true ?_ | refine guard_ne (by decide) ?_ | refine guard_undef ?_ | refine r_pickT ?_ | refine r_pickF ?_)
    refine r_loadW hI 0 ag_iClause rfl (by simpa using hlc) ?_
    refine Run.callPure fn_i_firstPlain nm_i_firstPlain hI (i_firstPlain_calls h0) fun w' hI => ?_
    refine r_not ?_
    repeat (first | refine guard_true ?_ | refine guard_ne (by decide) ?_ | refine guard_undef ?_ | refine r_pickT ?_ | refine r_pickF ?_)
    exact ⟨by rw [resG, hv1, hv2]; rfl, hI⟩
  intro q _ _ _ _ _ _ _ _ _ _ _ _ w'
  rintro ⟨rfl, hI⟩
  rcases hr with ⟨hg, rfl, rfl⟩ | ⟨hg, o, ho, hcase⟩
  · rw [hg]
    refine condV (fun _ => ?_) (fun hb => by cases hb)
    refine r_buildClause0 ?_
    refine r_storeW hI 2 rfl ag_iClause rfl rfl (by simp [Value.oneCell']) fun w' hI => ?_
    refine loadV_W hI 2 ag_iClause rfl rfl ?_
    exact ⟨_, _, _, rfl, hI.pick [false, false, false], Ext.refl _ _ _, _, [], rfl, rfl, TrC.zero⟩
  rw [hg]
  refine condV (fun hb => by cases hb) (fun _ => ?_)
  obtain ⟨hv1, hv2, hbne⟩ := resG_ok hg
  refine r_loadW hI 0 ag_iClause rfl (by simpa using hlc) ?_
  refine r_loadW hI 1 ag_iClause rfl (by simpa using hld) ?_
  refine Run.call0E fn_i_resolvent nm_i_resolvent hI (i_resolvent_calls hv1 hv2 hw hw2 hbne ho h0 g0) fun v' I' S2 w' => ?_
  rintro ⟨es, G, rfl, rfl, hG⟩ hE hI
  refine r_extract rfl ?_
  refine r_extract rfl ?_
  refine r_extract rfl ?_
  refine r_alloc hI zo_iClause fun b6 w' hI => ?_
  have hI := hI.perm (M := [.blk b2 (.cells cs.toArray t_iClause), .blk b3 (.cells ds.toArray t_iClause), .blk b4 (.cells #[.int .i64 0, .int .i64 0, .string ⟨#[]⟩, .slice none 0 0, .slice none 0 0] t_iClause), .blk b6 (.cells #[.int .i64 0, .int .i64 0, .string ⟨#[]⟩, .slice none 0 0, .slice none 0 0] t_iClause)] ++ blks G) (by
    rw [List.append_assoc]
    exact (((List.perm_append_comm (l₁ := [_]) (l₂ := blks G)).cons _).cons _).cons _)
  refine r_storeW hI 3 rfl ag_iClause (by simpa using hG.length) rfl (by simpa using hG.one) fun w' hI => ?_
  have hI : Inv w [] ([.blk b2 (.cells cs.toArray t_iClause), .blk b3 (.cells ds.toArray t_iClause), .blk b4 (.cells #[.int .i64 0, .int .i64 0, .string ⟨#[]⟩, .slice none 0 0, .slice none 0 0] t_iClause), .blk b6 (.cells es.toArray t_iClause)] ++ blks G) S2 w' := hI
  refine r_not ?_
  rcases hcase with ⟨hk, rfl, rfl⟩ | ⟨hk, rfl, rfl⟩
  · rw [hk]
    refine condV (fun hb => by cases hb) (fun _ => ?_)
    refine r_loadW hI 3 ag_iClause rfl (by simpa using hG.length) ?_
    refine r_storeW hI 2 rfl ag_iClause (by simpa using hG.length) rfl (by simpa using hG.one) fun w' hI => ?_
    refine loadV_W hI 2 ag_iClause rfl (by simpa using hG.length) ?_
    have hI : Inv w [] (blks G) S2 w' := hI.sub (List.sublist_append_right [_, _, _, _] _)
    exact ⟨_, _, _, rfl, hI, hE, es, G, rfl, rfl, hG⟩
  · rw [hk]
    refine condV (fun _ => ?_) (fun hb => by cases hb)
    refine r_buildClause0 ?_
    refine r_storeW hI 2 rfl ag_iClause rfl rfl (by simp [Value.oneCell']) fun w' hI => ?_
    refine loadV_W hI 2 ag_iClause rfl rfl ?_
    exact ⟨_, _, _, rfl, hI.sub (List.nil_sublist _), hE, _, [], rfl, rfl, TrC.zero⟩
end

end Go.Proofs.Ytaaihodhhacapaa

/- FnExactSubsumedClause returns true, whatever clauses come in. -/
namespace Go.Proofs.Ytaaihodhhacapaa
open Go Go.RowKit
section
attribute [local irreducible] Run CondV GuardV LoadV
def IsCl (S : Store) (c : C) (v : Value) : Prop := ∃ cs, v = .agg cs.toArray ∧ RdC S cs c
theorem IsCl.mono {S S' : Store} {c : C} {v : Value} (hs : Sle S S') (h : IsCl S c v) : IsCl S' c v := by
  obtain ⟨u, hx, hr⟩ := h
  exact ⟨u, hx, hr.mono hs⟩
end

end Go.Proofs.Ytaaihodhhacapaa

/- FnExactResolvent returns true, whatever clauses come in. -/
namespace Go.Proofs.Ytaaihodhhacapaa
open Go Go.RowKit
def IsT (S : Store) (r : C) (b : Bool) (v : Value) : Prop := ∃ us : List Value, v = .tuple #[.agg us.toArray, .bool b] ∧ RdC S us r
theorem IsT.mono {S S' : Store} {c : C} {b : Bool} {v : Value} (h : IsT S c b v) (hle : Sle S S') : IsT S' c b v := by
  obtain ⟨cs, e, h⟩ := h
  exact ⟨cs, e, h.mono hle⟩
section
variable {w w0 : World} {X : List Nat} {L : List Item} {S : Store} {K : Value → World → Prop}
attribute [local irreducible] Run CondV GuardV LoadV
theorem Run.pubC {f : FuncId} {fn : Func} {args : List Value} {r : C} {b : Bool} (hf : Try.prog.funcs[f]? = some fn) (hn : (fn.name == "runtime.NumGoroutine" || fn.body.isNone) = false) (hI : Inv w0 X L S w)
    (hc : Tri Try.prog f args [] S (PostOB r b)) (hk : ∀ us S' w', Sle S S' → RdC S' us r → Inv w0 X L S' w' → K (.tuple #[.agg us.toArray, .bool b]) w') : Run Try.prog (sCall (.func (.func f) #[] #[]) args) w K := by
  refine Run.call0 hf hn hI hc fun v' I' S' w' => ?_
  rintro ⟨us, M, rfl, rfl, hT⟩ hle hI
  obtain ⟨S1, hle1, hins, hI, _⟩ := Inv.lendAll M hI
  exact hk _ _ _ (hle.trans hle1) (hT.rd hins) hI
end
section
attribute [local irreducible] Run CondV GuardV LoadV
set_option maxHeartbeats 2000000 in
theorem lawResol_calls {c d : C} {S : Store} {cs ds : List Value} (h : RdC S cs c) (g : RdC S ds d) : Pure Try.prog n_l_FnExactResolvent [.agg cs.toArray, .agg ds.toArray] S (.bool true) := by
  intro w hI
  have hlc := h.length
  have hld := g.length
  refine calls_l_FnExactResolvent ?_
  unfold sh_l_FnExactResolvent
  refine r_box hI fun b1 w' hI => ?_
  refine r_box hI fun b2 w' hI => ?_
  have hI : Inv w [] [.blk b1 (.cells cs.toArray t_lClause), .blk b2 (.cells ds.toArray t_lClause)] S w' := hI
  refine r_loadW hI 0 ag_lClause rfl (by simpa using hlc) ?_
  refine Run.callPure fn_l_szClause nm_l_szClause hI (szClause_calls h (by omega) (by omega)) fun w' hI => ?_
  refine r_lss ?_
  refine condP (fun _ => done hI rfl) (fun hsz => ?_)
  have hwc0 := sz_wC (c := c) (left := 1048576) (by omega) (by omega)
  have hlc0 := (szC_le c 1048576 (by omega)).2
  generalize szC c 1048576 = left at hsz hwc0 hlc0 ⊢
  refine r_loadW hI 1 ag_lClause rfl (by simpa using hld) ?_
  refine Run.callPure fn_l_szClause nm_l_szClause hI (szClause_calls g (by omega) (by omega)) fun w' hI => ?_
  refine r_lss ?_
  refine condP (fun _ => done hI rfl) (fun hsz2 => ?_)
  have hwd0 := sz_wC (c := d) (left := left) (by omega) (by omega)
  have hld0 := (szC_le d left (by omega)).2
  have hwc : wC c ≤ 1048576 := by omega
  have hwd : wC d ≤ 1048576 := by omega
  have hq1 := cntH_wC c
  have hq2 := cntH_pos c
  have hp1 := cntH_wC d
  have hp2 := cntH_pos d
  obtain ⟨r, b, hrb⟩ := RB.ex hwc hwd
  have hr3 := hrb.w hwc hwd
  have hr1 := cntH_wC r
  have hr2 := cntH_pos r
  have hs : ∀ {S : Store} {cs ds : List Value}, RdC S cs c → RdC S ds d → Tri Try.prog n_s_Resolvent [.agg cs.toArray, .agg ds.toArray] [] S (PostOB r b) := fun a a2 => s_Resolvent_calls hrb a a2 hwc hwd
  have hi : ∀ {S : Store} {cs ds : List Value}, RdC S cs c → RdC S ds d → Tri Try.prog n_i_Resolvent [.agg cs.toArray, .agg ds.toArray] [] S (PostOB r b) := fun a a2 => i_Resolvent_calls hrb a a2 hwc hwd
  have hle0 := Sle.refl S
  refine ⟨fun D x7 x6 x34 x33 x27 x32 x31 x30 x29 x28 w_ => (D 0 = true → x28 = .agg cs.toArray) ∧ (D 1 = true → True) ∧ (D 2 = true → x30 = .agg ds.toArray) ∧ (D 3 = true → True) ∧ (D 4 = true → True) ∧ (D 5 = true → True) ∧ (D 6 = true → True) ∧ (D 7 = true → x34 = .bool b) ∧ (D 8 = true → True) ∧ (D 9 = true → True) ∧ (D 10 = true → x7 = .bool b) ∧ ∃ SN b6 q6_, Sle S SN ∧ (D 1 = true → IsCl SN c x29) ∧ (D 3 = true → IsCl SN d x31) ∧ (D 4 = true → IsT SN r b x32) ∧ (D 5 = true → IsT SN r b x27) ∧ (D 6 = true → IsCl SN r x33) ∧ (D 8 = true → x6 = .pointer (some ⟨b6, 0, none⟩)) ∧ (D 9 = true → IsCl SN r (.agg q6_)) ∧ (D 9 = true → D 8 = true) ∧ q6_.size = 5 ∧ Inv w [] ([.blk b1 (.cells cs.toArray t_lClause), .blk b2 (.cells ds.toArray t_lClause)] ++ cond (D 8) [.blk b6 (.cells q6_ t_iClause)] []) SN w_, ⟨fun h => Bool.noConfusion h, fun h => Bool.noConfusion h, fun h => Bool.noConfusion h, fun h => Bool.noConfusion h, fun h => Bool.noConfusion h, fun h => Bool.noConfusion h, fun h => Bool.noConfusion h, fun h => Bool.noConfusion h, fun h => Bool.noConfusion h, fun h => Bool.noConfusion h, fun h => Bool.noConfusion h, ⟨S, 0, #[.int .i64 0, .int .i64 0, .string ⟨#[]⟩, .slice none 0 0, .slice none 0 0], Sle.refl _, fun h => Bool.noConfusion h, fun h => Bool.noConfusion h, fun h => Bool.noConfusion h, fun h => Bool.noConfusion h, fun h => Bool.noConfusion h, fun h => Bool.noConfusion h, fun h => Bool.noConfusion h, fun h => Bool.noConfusion h, rfl, hI.draw⟩⟩, ⟨?_, ?_, ?_, ?_, ?_, ?_, ?_, ?_, ?_, ?_, ?_, trivial⟩, ?_⟩
  · intro D hD_  x7 x6 x34 x33 x27 x32 x31 x30 x29 x28 w_
    rintro ⟨h0_, h1_, h2_, h3_, h4_, h5_, h6_, h7_, h8_, h9_, h10_, ⟨SN, b6, q6_, hN, e1, e3, e4, e5, e6, e8, e9, k98, hq6_, hI⟩⟩
    refine r_loadW hI 0 ag_lClause rfl (by simpa using hlc) ?_
    exact ⟨fun _ => rfl, h1_, h2_, h3_, h4_, h5_, h6_, h7_, h8_, h9_, h10_, ⟨SN, b6, q6_, hN, e1, e3, e4, e5, e6, e8, e9, k98, hq6_, hI⟩⟩
  · intro D hD_ d0_0 x7 x6 x34 x33 x27 x32 x31 x30 x29 x28 w_
    rintro ⟨h0_, h1_, h2_, h3_, h4_, h5_, h6_, h7_, h8_, h9_, h10_, ⟨SN, b6, q6_, hN, e1, e3, e4, e5, e6, e8, e9, k98, hq6_, hI⟩⟩
    obtain rfl := h0_ d0_0
    refine Run.toClause hI (h.mono (hle0.trans hN)) hwc fun cs1 SN w_ hl_ hk1_ hI => ?_
    have hN := hN.trans hl_
    have e1 := fun h => (e1 h).mono hl_
    have e3 := fun h => (e3 h).mono hl_
    have e4 := fun h => (e4 h).mono hl_
    have e5 := fun h => (e5 h).mono hl_
    have e6 := fun h => (e6 h).mono hl_
    have e9 := fun h => (e9 h).mono hl_
    have e1 := fun (_ : setD D 1 1 = true) => (⟨cs1, rfl, hk1_⟩ : IsCl SN c (.agg cs1.toArray))
    exact ⟨h0_, fun _ => by first | assumption | trivial, h2_, h3_, h4_, h5_, h6_, h7_, h8_, h9_, h10_, ⟨SN, b6, q6_, hN, e1, e3, e4, e5, e6, e8, e9, k98, hq6_, hI⟩⟩
  · intro D hD_  x7 x6 x34 x33 x27 x32 x31 x30 x29 x28 w_
    rintro ⟨h0_, h1_, h2_, h3_, h4_, h5_, h6_, h7_, h8_, h9_, h10_, ⟨SN, b6, q6_, hN, e1, e3, e4, e5, e6, e8, e9, k98, hq6_, hI⟩⟩
    refine r_loadW hI 1 ag_lClause rfl (by simpa using hld) ?_
    exact ⟨h0_, h1_, fun _ => rfl, h3_, h4_, h5_, h6_, h7_, h8_, h9_, h10_, ⟨SN, b6, q6_, hN, e1, e3, e4, e5, e6, e8, e9, k98, hq6_, hI⟩⟩
  · intro D hD_ d2_0 d1_1 x7 x6 x34 x33 x27 x32 x31 x30 x29 x28 w_
    rintro ⟨h0_, h1_, h2_, h3_, h4_, h5_, h6_, h7_, h8_, h9_, h10_, ⟨SN, b6, q6_, hN, e1, e3, e4, e5, e6, e8, e9, k98, hq6_, hI⟩⟩
    obtain rfl := h2_ d2_0
    refine Run.toClause hI (g.mono (hle0.trans hN)) hwd fun cs1 SN w_ hl_ hk1_ hI => ?_
    have hN := hN.trans hl_
    have e1 := fun h => (e1 h).mono hl_
    have e3 := fun h => (e3 h).mono hl_
    have e4 := fun h => (e4 h).mono hl_
    have e5 := fun h => (e5 h).mono hl_
    have e6 := fun h => (e6 h).mono hl_
    have e9 := fun h => (e9 h).mono hl_
    have e3 := fun (_ : setD D 3 3 = true) => (⟨cs1, rfl, hk1_⟩ : IsCl SN d (.agg cs1.toArray))
    exact ⟨h0_, h1_, h2_, fun _ => by first | assumption | trivial, h4_, h5_, h6_, h7_, h8_, h9_, h10_, ⟨SN, b6, q6_, hN, e1, e3, e4, e5, e6, e8, e9, k98, hq6_, hI⟩⟩
  · intro D hD_ d1_0 d3_1 d3_2 x7 x6 x34 x33 x27 x32 x31 x30 x29 x28 w_
    rintro ⟨h0_, h1_, h2_, h3_, h4_, h5_, h6_, h7_, h8_, h9_, h10_, ⟨SN, b6, q6_, hN, e1, e3, e4, e5, e6, e8, e9, k98, hq6_, hI⟩⟩
    have g1_ := h1_ d1_0
    have g3_ := h3_ d3_1
    obtain ⟨cs1, q1, hk1_⟩ := e1 d1_0
    obtain ⟨ds1, q3, hk3_⟩ := e3 d3_1
    subst q1
    subst q3
    refine Run.pubC fn_s_Resolvent nm_s_Resolvent hI (hs hk1_ hk3_) fun us SN w_ hl_ hk4_ hI => ?_
    have hN := hN.trans hl_
    have e1 := fun h => (e1 h).mono hl_
    have e3 := fun h => (e3 h).mono hl_
    have e4 := fun h => (e4 h).mono hl_
    have e5 := fun h => (e5 h).mono hl_
    have e6 := fun h => (e6 h).mono hl_
    have e9 := fun h => (e9 h).mono hl_
    have e4 := fun (_ : setD D 4 4 = true) => (⟨us, rfl, hk4_⟩ : IsT SN r b (.tuple #[.agg us.toArray, .bool b]))
    exact ⟨h0_, h1_, h2_, h3_, fun _ => by first | assumption | trivial, h5_, h6_, h7_, h8_, h9_, h10_, ⟨SN, b6, q6_, hN, e1, e3, e4, e5, e6, e8, e9, k98, hq6_, hI⟩⟩
  · intro D hD_ d4_0 x7 x6 x34 x33 x27 x32 x31 x30 x29 x28 w_
    rintro ⟨h0_, h1_, h2_, h3_, h4_, h5_, h6_, h7_, h8_, h9_, h10_, ⟨SN, b6, q6_, hN, e1, e3, e4, e5, e6, e8, e9, k98, hq6_, hI⟩⟩
    have g4_ := h4_ d4_0
    have e5 := fun (_ : setD D 5 5 = true) => e4 d4_0
    exact ⟨h0_, h1_, h2_, h3_, h4_, fun _ => by first | assumption | trivial, h6_, h7_, h8_, h9_, h10_, ⟨SN, b6, q6_, hN, e1, e3, e4, e5, e6, e8, e9, k98, hq6_, hI⟩⟩
  · intro D hD_ d5_0 x7 x6 x34 x33 x27 x32 x31 x30 x29 x28 w_
    rintro ⟨h0_, h1_, h2_, h3_, h4_, h5_, h6_, h7_, h8_, h9_, h10_, ⟨SN, b6, q6_, hN, e1, e3, e4, e5, e6, e8, e9, k98, hq6_, hI⟩⟩
    have g5_ := h5_ d5_0
    obtain ⟨us, q5, hk5_⟩ := e5 d5_0
    subst q5
    refine r_extract rfl ?_
    have e6 := fun (_ : setD D 6 6 = true) => (⟨us, rfl, hk5_⟩ : IsCl SN r (.agg us.toArray))
    exact ⟨h0_, h1_, h2_, h3_, h4_, h5_, fun _ => by first | assumption | trivial, h7_, h8_, h9_, h10_, ⟨SN, b6, q6_, hN, e1, e3, e4, e5, e6, e8, e9, k98, hq6_, hI⟩⟩
  · intro D hD_ d5_0 x7 x6 x34 x33 x27 x32 x31 x30 x29 x28 w_
    rintro ⟨h0_, h1_, h2_, h3_, h4_, h5_, h6_, h7_, h8_, h9_, h10_, ⟨SN, b6, q6_, hN, e1, e3, e4, e5, e6, e8, e9, k98, hq6_, hI⟩⟩
    have g5_ := h5_ d5_0
    obtain ⟨us, q5, hk5_⟩ := e5 d5_0
    subst q5
    refine r_extract rfl ?_
    exact ⟨h0_, h1_, h2_, h3_, h4_, h5_, h6_, fun _ => rfl, h8_, h9_, h10_, ⟨SN, b6, q6_, hN, e1, e3, e4, e5, e6, e8, e9, k98, hq6_, hI⟩⟩
  · intro D hD_  x7 x6 x34 x33 x27 x32 x31 x30 x29 x28 w_
    rintro ⟨h0_, h1_, h2_, h3_, h4_, h5_, h6_, h7_, h8_, h9_, h10_, ⟨SN, b6, q6_, hN, e1, e3, e4, e5, e6, e8, e9, k98, hq6_, hI⟩⟩
    rw [hD_] at hI
    refine r_alloc hI zo_iClause fun b6 w_ hI => ?_
    have f9_ : D 9 = false := Bool.eq_false_iff.2 fun h => by rw [k98 h] at hD_; cases hD_
    have e8 := fun (_ : setD D 8 8 = true) => (rfl : Value.pointer (some ⟨b6, 0, none⟩) = .pointer (some ⟨b6, 0, none⟩))
    obtain ⟨q6_, hqe_⟩ : ∃ q : Array Value, q = #[.int .i64 0, .int .i64 0, .string ⟨#[]⟩, .slice none 0 0, .slice none 0 0] := ⟨_, rfl⟩
    have hq6_ : q6_.size = 5 := by rw [hqe_]; rfl
    have e9 := fun (h : setD D 8 9 = true) => (False.elim (by rw [show setD D 8 9 = D 9 from rfl, f9_] at h; cases h) : IsCl SN r (.agg q6_))
    have k98 := fun (_ : setD D 8 9 = true) => (rfl : setD D 8 8 = true)
    have hI : Inv w [] ([.blk b1 (.cells cs.toArray t_lClause), .blk b2 (.cells ds.toArray t_lClause)] ++ cond true [.blk b6 (.cells q6_ t_iClause)] []) SN w_ := by rw [hqe_]; exact hI
    exact ⟨h0_, h1_, h2_, h3_, h4_, h5_, h6_, h7_, fun _ => by first | assumption | trivial, h9_, h10_, ⟨SN, b6, q6_, hN, e1, e3, e4, e5, e6, e8, e9, k98, hq6_, hI⟩⟩
  · intro D hD_ d8_0 d6_1 d4_2 d0_3 d1_4 d2_5 d3_6 d4_7 d5_8 d6_9 d8_10 x7 x6 x34 x33 x27 x32 x31 x30 x29 x28 w_
    rintro ⟨h0_, h1_, h2_, h3_, h4_, h5_, h6_, h7_, h8_, h9_, h10_, ⟨SN, b6, q6_, hN, e1, e3, e4, e5, e6, e8, e9, k98, hq6_, hI⟩⟩
    have g8_ := h8_ d8_0
    have g6_ := h6_ d6_1
    have q8 := e8 d8_0
    obtain ⟨us, q7, hk6_⟩ := e6 d6_1
    subst q8
    subst q7
    rw [d8_0] at hI
    refine r_storeW hI 2 rfl ag_iClause (by simpa using hk6_.length) hq6_ (by simpa using hk6_.one) fun w_ hI => ?_
    have k98 := fun (_ : setD D 9 9 = true) => d8_0
    have e9 := fun (_ : setD D 9 9 = true) => (⟨us, rfl, hk6_⟩ : IsCl SN r (.agg us.toArray))
    have hq6_ : us.toArray.size = 5 := by simpa using hk6_.length
    obtain ⟨q6_, hqe_⟩ : ∃ q : Array Value, q = us.toArray := ⟨_, rfl⟩
    have hI : Inv w [] ([.blk b1 (.cells cs.toArray t_lClause), .blk b2 (.cells ds.toArray t_lClause)] ++ cond (setD D 9 8) [.blk b6 (.cells q6_ t_iClause)] []) SN w_ := by rw [show setD D 9 8 = D 8 from rfl, d8_0, hqe_]; exact hI
    rw [← hqe_] at e9 hq6_
    exact ⟨h0_, h1_, h2_, h3_, h4_, h5_, h6_, h7_, h8_, fun _ => trivial, h10_, ⟨SN, b6, q6_, hN, e1, e3, e4, e5, e6, e8, e9, k98, hq6_, hI⟩⟩
  · intro D hD_ d7_0 d9_1 d0_2 d1_3 d2_4 d3_5 d4_6 d5_7 d6_8 d7_9 d8_10 d9_11 x7 x6 x34 x33 x27 x32 x31 x30 x29 x28 w_
    rintro ⟨h0_, h1_, h2_, h3_, h4_, h5_, h6_, h7_, h8_, h9_, h10_, ⟨SN, b6, q6_, hN, e1, e3, e4, e5, e6, e8, e9, k98, hq6_, hI⟩⟩
    obtain rfl := h7_ d7_0
    exact ⟨h0_, h1_, h2_, h3_, h4_, h5_, h6_, h7_, h8_, h9_, fun _ => rfl, ⟨SN, b6, q6_, hN, e1, e3, e4, e5, e6, e8, e9, k98, hq6_, hI⟩⟩
  intro D d10_ d9_ d8_ d7_ d6_ d5_ d4_ d3_ d2_ d1_ d0_ x7 x6 x34 x33 x27 x32 x31 x30 x29 x28 w_
  rintro ⟨h0_, h1_, h2_, h3_, h4_, h5_, h6_, h7_, h8_, h9_, h10_, ⟨SN, b6, q6_, hN, e1, e3, e4, e5, e6, e8, e9, k98, hq6_, hI⟩⟩
  obtain rfl := h10_ d10_
  have g8_ := h8_ d8_
  obtain rfl := h7_ d7_
  have g6_ := h6_ d6_
  have g5_ := h5_ d5_
  have g4_ := h4_ d4_
  have g3_ := h3_ d3_
  obtain rfl := h2_ d2_
  have g1_ := h1_ d1_
  obtain rfl := h0_ d0_
  clear h0_ h1_ h2_ h3_ h4_ h5_ h6_ h7_ h8_ h9_ h10_
  have q8_ := e8 d8_
  subst q8_
  obtain ⟨us_, qe_, hk9_⟩ := e9 d9_
  obtain rfl : q6_ = us_.toArray := by injection qe_
  rw [d8_] at hI
  clear e1 e3 e4 e5 e6 e8 e9 k98
  obtain ⟨q6, hq6⟩ : ∃ q6 : Array Value, q6 = us_.toArray := ⟨_, rfl⟩
  have h2 := hk9_
  have hle := hN
  have hN0 := hN
  obtain ⟨S2, rfl⟩ : ∃ S2, S2 = SN := ⟨_, rfl⟩
  have hI : Inv w [] [.blk b1 (.cells cs.toArray t_lClause), .blk b2 (.cells ds.toArray t_lClause), .blk b6 (.cells us_.toArray t_iClause)] S2 w_ := hI
  refine r_loadW hI 0 ag_lClause rfl (by simpa using hlc) ?_
  refine Run.toClause1M hI (h.mono hle) hwc fun es M1 S3 w' hle3 h3 hT1 hI hback1 => ?_
  refine r_alloc hI zo_iClause fun b8 w' hI => ?_
  refine r_storeW hI 3 rfl ag_iClause (by simpa using h3.length) rfl (by simpa using h3.one) fun w' hI => ?_
  refine r_loadW hI 1 ag_lClause rfl (by simpa using hld) ?_
  refine Run.toClause1M hI (g.mono (hle.trans hle3)) hwd fun fs M2 S3b w' hle3b h3b hT2 hI hback2 => ?_
  refine r_alloc hI zo_iClause fun b9 w' hI => ?_
  refine r_storeW hI 4 rfl ag_iClause (by simpa using h3b.length) rfl (by simpa using h3b.one) fun w' hI => ?_
  have h3 := h3.mono hle3b
  refine r_loadW hI 3 ag_iClause rfl (by simpa using h3.length) ?_
  refine r_loadW hI 4 ag_iClause rfl (by simpa using h3b.length) ?_
  refine Run.call0 fn_i_Resolvent nm_i_Resolvent hI (hi h3 h3b) fun v4 I' S4 w' => ?_
  rintro ⟨gs, G, rfl, rfl, hG⟩ hle4 hI
  have hlg := hG.length
  refine r_extract rfl ?_
  refine r_extract rfl ?_
  refine r_alloc hI zo_iClause fun b10 w' hI => ?_
  have hI := hI.perm (M := [.blk b1 (.cells cs.toArray t_lClause), .blk b2 (.cells ds.toArray t_lClause), .blk b6 (.cells us_.toArray t_iClause), .blk b8 (.cells es.toArray t_iClause), .blk b9 (.cells fs.toArray t_iClause), .blk b10 (.cells #[.int .i64 0, .int .i64 0, .string ⟨#[]⟩, .slice none 0 0, .slice none 0 0] t_iClause)] ++ blks G) (by
    rw [List.append_assoc]
    exact (((((List.perm_append_comm (l₁ := [_]) (l₂ := blks G)).cons _).cons _).cons _).cons _).cons _)
  refine r_storeW hI 5 rfl ag_iClause (by simpa using hlg) rfl (by simpa using hG.one) fun w' hI => ?_
  have hI : Inv w [] ([.blk b1 (.cells cs.toArray t_lClause), .blk b2 (.cells ds.toArray t_lClause), .blk b6 (.cells us_.toArray t_iClause), .blk b8 (.cells es.toArray t_iClause), .blk b9 (.cells fs.toArray t_iClause), .blk b10 (.cells gs.toArray t_iClause)] ++ blks G) S4 w' := hI
  have h24 := h2.mono (hle3.trans (hle3b.trans hle4))
  have h2l := h2.length
  refine ⟨fun t w' => t = .bool false ∧ Inv w [] ([.blk b1 (.cells cs.toArray t_lClause), .blk b2 (.cells ds.toArray t_lClause), .blk b6 (.cells us_.toArray t_iClause), .blk b8 (.cells es.toArray t_iClause), .blk b9 (.cells fs.toArray t_iClause), .blk b10 (.cells gs.toArray t_iClause)] ++ blks G) S4 w', ?_, ?_⟩
  · refine r_loadW hI 5 ag_iClause rfl (by simpa using hlg) ?_
    refine r_loadW hI 2 ag_iClause rfl (by simpa using h2l) ?_
    refine Run.eqTree1 hI hG h24 fun w' hI => ?_
    refine r_not ?_
    repeat (first | refine guard_true ?_ | refine guard_ne (by decide) ?_ | refine guard_undef ?_ | refine r_pickT ?_ | refine r_pickF ?_)
    refine r_bneq un_bool ?_
    repeat (first | refine guard_true ?_ | refine guard_ne (by decide) ?_ | refine guard_undef ?_ | refine r_pickT ?_ | refine r_pickF ?_)
    exact ⟨by simp, hI⟩
  intro t _ _ _ _ _ _ _ _ w'
  rintro ⟨rfl, hI⟩
  refine condV (fun hb => by cases hb) (fun _ => ?_)
  have hle34 := hle3.trans (hle3b.trans hle4)
  have hleB := hle.trans hle34
  have h34 := h3.mono hle4
  have h34b := h3b.mono hle4
  refine ⟨fun D x58 x57 x56 x55 x54 w_ => (D 0 = true → x54 = .agg es.toArray) ∧ (D 1 = true → x55 = .agg cs.toArray) ∧ (D 2 = true → True) ∧ (D 3 = true → x57 = .bool true) ∧ (D 4 = true → x58 = .bool false) ∧ ∃ S5, Sle S4 S5 ∧ (D 2 = true → IsCl S5 c x56) ∧ Inv w [] ([.blk b1 (.cells cs.toArray t_lClause), .blk b2 (.cells ds.toArray t_lClause), .blk b6 (.cells us_.toArray t_iClause), .blk b8 (.cells es.toArray t_iClause), .blk b9 (.cells fs.toArray t_iClause), .blk b10 (.cells gs.toArray t_iClause)] ++ blks G) S5 w_, ⟨fun h => Bool.noConfusion h, fun h => Bool.noConfusion h, fun h => Bool.noConfusion h, fun h => Bool.noConfusion h, fun h => Bool.noConfusion h, ⟨S4, Sle.refl _, fun h => Bool.noConfusion h, hI.draw⟩⟩, ⟨?_, ?_, ?_, ?_, ?_, trivial⟩, ?_⟩
  · intro D hD_  x58 x57 x56 x55 x54 w_
    rintro ⟨h0_, h1_, h2_, h3_, h4_, ⟨S5, hleR, e2, hI⟩⟩
    refine r_loadW hI 3 ag_iClause rfl (by simpa using h34.length) ?_
    exact ⟨fun _ => rfl, h1_, h2_, h3_, h4_, ⟨S5, hleR, e2, hI⟩⟩
  · intro D hD_  x58 x57 x56 x55 x54 w_
    rintro ⟨h0_, h1_, h2_, h3_, h4_, ⟨S5, hleR, e2, hI⟩⟩
    refine r_loadW hI 0 ag_lClause rfl (by simpa using hlc) ?_
    exact ⟨h0_, fun _ => rfl, h2_, h3_, h4_, ⟨S5, hleR, e2, hI⟩⟩
  · intro D hD_ d1_0 x58 x57 x56 x55 x54 w_
    rintro ⟨h0_, h1_, h2_, h3_, h4_, ⟨S5, hleR, e2, hI⟩⟩
    obtain rfl := h1_ d1_0
    refine Run.toClause hI (h.mono (hleB.trans hleR)) hwc fun cs1 S5 w_ hle1 h1 hI => ?_
    have hleR := hleR.trans hle1
    have e2 := fun (_ : setD D 2 2 = true) => (⟨cs1, rfl, h1⟩ : IsCl S5 c (.agg cs1.toArray))
    exact ⟨h0_, h1_, fun _ => by first | assumption | trivial, h3_, h4_, ⟨S5, hleR, e2, hI⟩⟩
  · intro D hD_ d0_0 d2_1 d2_2 x58 x57 x56 x55 x54 w_
    rintro ⟨h0_, h1_, h2_, h3_, h4_, ⟨S5, hleR, e2, hI⟩⟩
    obtain rfl := h0_ d0_0
    have g2_ := h2_ d2_1
    obtain ⟨q2, rfl, hq2⟩ := e2 d2_1
    refine Run.callPure fn_l_eqClause nm_l_eqClause hI (eqClause_calls (h34.mono hleR) hq2) fun w_ hI => ?_
    rw [(eqC_iff _ _).2 rfl]
    exact ⟨h0_, h1_, h2_, fun _ => rfl, h4_, ⟨S5, hleR, e2, hI⟩⟩
  · intro D hD_ d3_0 x58 x57 x56 x55 x54 w_
    rintro ⟨h0_, h1_, h2_, h3_, h4_, ⟨S5, hleR, e2, hI⟩⟩
    obtain rfl := h3_ d3_0
    refine r_not ?_
    exact ⟨h0_, h1_, h2_, h3_, fun _ => rfl, ⟨S5, hleR, e2, hI⟩⟩
  intro D d4_ d3_ d2_ d1_ d0_ x58 x57 x56 x55 x54 w_
  rintro ⟨h0_, h1_, h2_, h3_, h4_, ⟨S5, hleR, e2, hI⟩⟩
  obtain rfl := h4_ d4_
  obtain rfl := h3_ d3_
  have g2_ := h2_ d2_
  obtain rfl := h1_ d1_
  obtain rfl := h0_ d0_
  clear h0_ h1_ h2_ h3_ h4_
  clear e2
  refine condV (fun hb => by cases hb) (fun _ => ?_)
  refine ⟨fun D x63 x62 x61 x60 x59 w_ => (D 0 = true → x59 = .agg fs.toArray) ∧ (D 1 = true → x60 = .agg ds.toArray) ∧ (D 2 = true → True) ∧ (D 3 = true → x62 = .bool true) ∧ (D 4 = true → x63 = .bool false) ∧ ∃ S5, Sle S4 S5 ∧ (D 2 = true → IsCl S5 d x61) ∧ Inv w [] ([.blk b1 (.cells cs.toArray t_lClause), .blk b2 (.cells ds.toArray t_lClause), .blk b6 (.cells us_.toArray t_iClause), .blk b8 (.cells es.toArray t_iClause), .blk b9 (.cells fs.toArray t_iClause), .blk b10 (.cells gs.toArray t_iClause)] ++ blks G) S5 w_, ⟨fun h => Bool.noConfusion h, fun h => Bool.noConfusion h, fun h => Bool.noConfusion h, fun h => Bool.noConfusion h, fun h => Bool.noConfusion h, ⟨S5, hleR, fun h => Bool.noConfusion h, hI.draw⟩⟩, ⟨?_, ?_, ?_, ?_, ?_, trivial⟩, ?_⟩
  · intro D hD_  x63 x62 x61 x60 x59 w_
    rintro ⟨h0_, h1_, h2_, h3_, h4_, ⟨S5, hleR, e2, hI⟩⟩
    refine r_loadW hI 4 ag_iClause rfl (by simpa using h34b.length) ?_
    exact ⟨fun _ => rfl, h1_, h2_, h3_, h4_, ⟨S5, hleR, e2, hI⟩⟩
  · intro D hD_  x63 x62 x61 x60 x59 w_
    rintro ⟨h0_, h1_, h2_, h3_, h4_, ⟨S5, hleR, e2, hI⟩⟩
    refine r_loadW hI 1 ag_lClause rfl (by simpa using hld) ?_
    exact ⟨h0_, fun _ => rfl, h2_, h3_, h4_, ⟨S5, hleR, e2, hI⟩⟩
  · intro D hD_ d1_0 x63 x62 x61 x60 x59 w_
    rintro ⟨h0_, h1_, h2_, h3_, h4_, ⟨S5, hleR, e2, hI⟩⟩
    obtain rfl := h1_ d1_0
    refine Run.toClause hI (g.mono (hleB.trans hleR)) hwd fun cs1 S5 w_ hle1 h1 hI => ?_
    have hleR := hleR.trans hle1
    have e2 := fun (_ : setD D 2 2 = true) => (⟨cs1, rfl, h1⟩ : IsCl S5 d (.agg cs1.toArray))
    exact ⟨h0_, h1_, fun _ => by first | assumption | trivial, h3_, h4_, ⟨S5, hleR, e2, hI⟩⟩
  · intro D hD_ d0_0 d2_1 d2_2 x63 x62 x61 x60 x59 w_
    rintro ⟨h0_, h1_, h2_, h3_, h4_, ⟨S5, hleR, e2, hI⟩⟩
    obtain rfl := h0_ d0_0
    have g2_ := h2_ d2_1
    obtain ⟨q2, rfl, hq2⟩ := e2 d2_1
    refine Run.callPure fn_l_eqClause nm_l_eqClause hI (eqClause_calls (h34b.mono hleR) hq2) fun w_ hI => ?_
    rw [(eqC_iff _ _).2 rfl]
    exact ⟨h0_, h1_, h2_, fun _ => rfl, h4_, ⟨S5, hleR, e2, hI⟩⟩
  · intro D hD_ d3_0 x63 x62 x61 x60 x59 w_
    rintro ⟨h0_, h1_, h2_, h3_, h4_, ⟨S5, hleR, e2, hI⟩⟩
    obtain rfl := h3_ d3_0
    refine r_not ?_
    exact ⟨h0_, h1_, h2_, h3_, fun _ => rfl, ⟨S5, hleR, e2, hI⟩⟩
  intro D d4_ d3_ d2_ d1_ d0_ x63 x62 x61 x60 x59 w_
  rintro ⟨h0_, h1_, h2_, h3_, h4_, ⟨S5, hleR, e2, hI⟩⟩
  obtain rfl := h4_ d4_
  obtain rfl := h3_ d3_
  have g2_ := h2_ d2_
  obtain rfl := h1_ d1_
  obtain rfl := h0_ d0_
  clear h0_ h1_ h2_ h3_ h4_
  clear e2
  refine condV (fun hb => by cases hb) (fun _ => ?_)
  have hI := hback1 _ _ (hback2 _ _ (hI.less (hle4.trans hleR)))
  refine r_loadW hI 3 ag_iClause rfl (by simpa using h3.length) ?_
  refine Run.markC1 hI hT1 (by omega) (by omega) fun M1' w' _ hI => ?_
  have hI : Inv w [] (([.blk b1 (.cells cs.toArray t_lClause), .blk b2 (.cells ds.toArray t_lClause), .blk b6 (.cells us_.toArray t_iClause), .blk b8 (.cells es.toArray t_iClause), .blk b9 (.cells fs.toArray t_iClause), .blk b10 (.cells gs.toArray t_iClause)] ++ blks G) ++ blks M2) S2 w' := hI.sub (List.sublist_append_left _ _)
  refine r_loadW hI 4 ag_iClause rfl (by simpa using h3b.length) ?_
  refine Run.markC1 hI hT2 (by omega) (by omega) fun M2' w' _ hI => ?_
  have hI : Inv w [] ([.blk b1 (.cells cs.toArray t_lClause), .blk b2 (.cells ds.toArray t_lClause), .blk b6 (.cells us_.toArray t_iClause), .blk b8 (.cells es.toArray t_iClause), .blk b9 (.cells fs.toArray t_iClause), .blk b10 (.cells gs.toArray t_iClause)] ++ blks G) S2 w' := hI.sub (List.sublist_append_left _ _)
  refine ⟨fun t w' => t = .bool false ∧ Inv w [] ([.blk b1 (.cells cs.toArray t_lClause), .blk b2 (.cells ds.toArray t_lClause), .blk b6 (.cells us_.toArray t_iClause), .blk b8 (.cells es.toArray t_iClause), .blk b9 (.cells fs.toArray t_iClause), .blk b10 (.cells gs.toArray t_iClause)] ++ blks G) S2 w', ?_, ?_⟩
  · refine r_lss ?_
    rw [decide_eq_false (by omega)]
    repeat (first | refine guard_true ?_ | refine guard_ne (by decide) ?_ | refine guard_undef ?_ | refine r_pickT ?_ | refine r_pickF ?_)
    refine r_loadW hI 5 ag_iClause rfl (by simpa using hlg) ?_
    refine r_loadW hI 2 ag_iClause rfl (by simpa using h2l) ?_
    refine Run.eqTree1 hI hG h2 fun w' hI => ?_
    refine r_not ?_
    repeat (first | refine guard_true ?_ | refine guard_ne (by decide) ?_ | refine guard_undef ?_ | refine r_pickT ?_ | refine r_pickF ?_)
    refine r_bneq un_bool ?_
    repeat (first | refine guard_true ?_ | refine guard_ne (by decide) ?_ | refine guard_undef ?_ | refine r_pickT ?_ | refine r_pickF ?_)
    exact ⟨by simp, hI⟩
  intro t _ _ _ _ _ _ _ _ _ _ _ _ w'
  rintro ⟨rfl, hI⟩
  refine condV (fun hb => by cases hb) (fun _ => ?_)
  refine r_loadW hI 5 ag_iClause rfl (by simpa using hlg) ?_
  refine Run.markC1 hI hG (by omega) (by omega) fun G' w' hG' hI => ?_
  refine r_loadW hI 5 ag_iClause rfl (by simpa using hlg) ?_
  refine Run.heldC1 hI hG' (by omega) (by omega) fun w' hI => ?_
  refine r_lss ?_
  refine condP (fun hb => by omega) (fun _ => ?_)
  refine r_neq ?_
  refine condV (fun hb => by simp at hb) (fun _ => ?_)
  refine ⟨fun D x16 x15 x101 x100 x94 x99 x98 x97 x96 x95 w_ => (D 0 = true → x95 = .agg cs.toArray) ∧ (D 1 = true → True) ∧ (D 2 = true → x97 = .agg ds.toArray) ∧ (D 3 = true → True) ∧ (D 4 = true → True) ∧ (D 5 = true → True) ∧ (D 6 = true → True) ∧ (D 7 = true → x101 = .bool b) ∧ (D 8 = true → True) ∧ (D 9 = true → True) ∧ (D 10 = true → x16 = .bool b) ∧ ∃ SN b15 q6_, Sle S2 SN ∧ (D 1 = true → IsCl SN c x96) ∧ (D 3 = true → IsCl SN d x98) ∧ (D 4 = true → IsT SN r b x99) ∧ (D 5 = true → IsT SN r b x94) ∧ (D 6 = true → IsCl SN r x100) ∧ (D 8 = true → x15 = .pointer (some ⟨b15, 0, none⟩)) ∧ (D 9 = true → IsCl SN r (.agg q6_)) ∧ (D 9 = true → D 8 = true) ∧ q6_.size = 5 ∧ Inv w [] ([.blk b1 (.cells cs.toArray t_lClause), .blk b2 (.cells ds.toArray t_lClause), .blk b6 (.cells us_.toArray t_iClause), .blk b8 (.cells es.toArray t_iClause), .blk b9 (.cells fs.toArray t_iClause), .blk b10 (.cells gs.toArray t_iClause)] ++ (cond (D 8) [.blk b15 (.cells q6_ t_iClause)] [] ++ blks G')) SN w_, ⟨fun h => Bool.noConfusion h, fun h => Bool.noConfusion h, fun h => Bool.noConfusion h, fun h => Bool.noConfusion h, fun h => Bool.noConfusion h, fun h => Bool.noConfusion h, fun h => Bool.noConfusion h, fun h => Bool.noConfusion h, fun h => Bool.noConfusion h, fun h => Bool.noConfusion h, fun h => Bool.noConfusion h, ⟨S2, 0, #[.int .i64 0, .int .i64 0, .string ⟨#[]⟩, .slice none 0 0, .slice none 0 0], Sle.refl _, fun h => Bool.noConfusion h, fun h => Bool.noConfusion h, fun h => Bool.noConfusion h, fun h => Bool.noConfusion h, fun h => Bool.noConfusion h, fun h => Bool.noConfusion h, fun h => Bool.noConfusion h, fun h => Bool.noConfusion h, rfl, hI.draw⟩⟩, ⟨?_, ?_, ?_, ?_, ?_, ?_, ?_, ?_, ?_, ?_, ?_, trivial⟩, ?_⟩
  · intro D hD_  x16 x15 x101 x100 x94 x99 x98 x97 x96 x95 w_
    rintro ⟨h0_, h1_, h2_, h3_, h4_, h5_, h6_, h7_, h8_, h9_, h10_, ⟨SN, b15, q6_, hN, e1, e3, e4, e5, e6, e8, e9, k98, hq6_, hI⟩⟩
    refine r_loadW hI 0 ag_lClause rfl (by simpa using hlc) ?_
    exact ⟨fun _ => rfl, h1_, h2_, h3_, h4_, h5_, h6_, h7_, h8_, h9_, h10_, ⟨SN, b15, q6_, hN, e1, e3, e4, e5, e6, e8, e9, k98, hq6_, hI⟩⟩
  · intro D hD_ d0_0 x16 x15 x101 x100 x94 x99 x98 x97 x96 x95 w_
    rintro ⟨h0_, h1_, h2_, h3_, h4_, h5_, h6_, h7_, h8_, h9_, h10_, ⟨SN, b15, q6_, hN, e1, e3, e4, e5, e6, e8, e9, k98, hq6_, hI⟩⟩
    obtain rfl := h0_ d0_0
    refine Run.toClause hI (h.mono (hN0.trans hN)) hwc fun cs1 SN w_ hl_ hk1_ hI => ?_
    have hN := hN.trans hl_
    have e1 := fun h => (e1 h).mono hl_
    have e3 := fun h => (e3 h).mono hl_
    have e4 := fun h => (e4 h).mono hl_
    have e5 := fun h => (e5 h).mono hl_
    have e6 := fun h => (e6 h).mono hl_
    have e9 := fun h => (e9 h).mono hl_
    have e1 := fun (_ : setD D 1 1 = true) => (⟨cs1, rfl, hk1_⟩ : IsCl SN c (.agg cs1.toArray))
    exact ⟨h0_, fun _ => by first | assumption | trivial, h2_, h3_, h4_, h5_, h6_, h7_, h8_, h9_, h10_, ⟨SN, b15, q6_, hN, e1, e3, e4, e5, e6, e8, e9, k98, hq6_, hI⟩⟩
  · intro D hD_  x16 x15 x101 x100 x94 x99 x98 x97 x96 x95 w_
    rintro ⟨h0_, h1_, h2_, h3_, h4_, h5_, h6_, h7_, h8_, h9_, h10_, ⟨SN, b15, q6_, hN, e1, e3, e4, e5, e6, e8, e9, k98, hq6_, hI⟩⟩
    refine r_loadW hI 1 ag_lClause rfl (by simpa using hld) ?_
    exact ⟨h0_, h1_, fun _ => rfl, h3_, h4_, h5_, h6_, h7_, h8_, h9_, h10_, ⟨SN, b15, q6_, hN, e1, e3, e4, e5, e6, e8, e9, k98, hq6_, hI⟩⟩
  · intro D hD_ d2_0 d1_1 x16 x15 x101 x100 x94 x99 x98 x97 x96 x95 w_
    rintro ⟨h0_, h1_, h2_, h3_, h4_, h5_, h6_, h7_, h8_, h9_, h10_, ⟨SN, b15, q6_, hN, e1, e3, e4, e5, e6, e8, e9, k98, hq6_, hI⟩⟩
    obtain rfl := h2_ d2_0
    refine Run.toClause hI (g.mono (hN0.trans hN)) hwd fun cs1 SN w_ hl_ hk1_ hI => ?_
    have hN := hN.trans hl_
    have e1 := fun h => (e1 h).mono hl_
    have e3 := fun h => (e3 h).mono hl_
    have e4 := fun h => (e4 h).mono hl_
    have e5 := fun h => (e5 h).mono hl_
    have e6 := fun h => (e6 h).mono hl_
    have e9 := fun h => (e9 h).mono hl_
    have e3 := fun (_ : setD D 3 3 = true) => (⟨cs1, rfl, hk1_⟩ : IsCl SN d (.agg cs1.toArray))
    exact ⟨h0_, h1_, h2_, fun _ => by first | assumption | trivial, h4_, h5_, h6_, h7_, h8_, h9_, h10_, ⟨SN, b15, q6_, hN, e1, e3, e4, e5, e6, e8, e9, k98, hq6_, hI⟩⟩
  · intro D hD_ d1_0 d3_1 d3_2 x16 x15 x101 x100 x94 x99 x98 x97 x96 x95 w_
    rintro ⟨h0_, h1_, h2_, h3_, h4_, h5_, h6_, h7_, h8_, h9_, h10_, ⟨SN, b15, q6_, hN, e1, e3, e4, e5, e6, e8, e9, k98, hq6_, hI⟩⟩
    have g1_ := h1_ d1_0
    have g3_ := h3_ d3_1
    obtain ⟨cs1, q1, hk1_⟩ := e1 d1_0
    obtain ⟨ds1, q3, hk3_⟩ := e3 d3_1
    subst q1
    subst q3
    refine Run.pubC fn_i_Resolvent nm_i_Resolvent hI (hi hk1_ hk3_) fun us SN w_ hl_ hk4_ hI => ?_
    have hN := hN.trans hl_
    have e1 := fun h => (e1 h).mono hl_
    have e3 := fun h => (e3 h).mono hl_
    have e4 := fun h => (e4 h).mono hl_
    have e5 := fun h => (e5 h).mono hl_
    have e6 := fun h => (e6 h).mono hl_
    have e9 := fun h => (e9 h).mono hl_
    have e4 := fun (_ : setD D 4 4 = true) => (⟨us, rfl, hk4_⟩ : IsT SN r b (.tuple #[.agg us.toArray, .bool b]))
    exact ⟨h0_, h1_, h2_, h3_, fun _ => by first | assumption | trivial, h5_, h6_, h7_, h8_, h9_, h10_, ⟨SN, b15, q6_, hN, e1, e3, e4, e5, e6, e8, e9, k98, hq6_, hI⟩⟩
  · intro D hD_ d4_0 x16 x15 x101 x100 x94 x99 x98 x97 x96 x95 w_
    rintro ⟨h0_, h1_, h2_, h3_, h4_, h5_, h6_, h7_, h8_, h9_, h10_, ⟨SN, b15, q6_, hN, e1, e3, e4, e5, e6, e8, e9, k98, hq6_, hI⟩⟩
    have g4_ := h4_ d4_0
    have e5 := fun (_ : setD D 5 5 = true) => e4 d4_0
    exact ⟨h0_, h1_, h2_, h3_, h4_, fun _ => by first | assumption | trivial, h6_, h7_, h8_, h9_, h10_, ⟨SN, b15, q6_, hN, e1, e3, e4, e5, e6, e8, e9, k98, hq6_, hI⟩⟩
  · intro D hD_ d5_0 x16 x15 x101 x100 x94 x99 x98 x97 x96 x95 w_
    rintro ⟨h0_, h1_, h2_, h3_, h4_, h5_, h6_, h7_, h8_, h9_, h10_, ⟨SN, b15, q6_, hN, e1, e3, e4, e5, e6, e8, e9, k98, hq6_, hI⟩⟩
    have g5_ := h5_ d5_0
    obtain ⟨us, q5, hk5_⟩ := e5 d5_0
    subst q5
    refine r_extract rfl ?_
    have e6 := fun (_ : setD D 6 6 = true) => (⟨us, rfl, hk5_⟩ : IsCl SN r (.agg us.toArray))
    exact ⟨h0_, h1_, h2_, h3_, h4_, h5_, fun _ => by first | assumption | trivial, h7_, h8_, h9_, h10_, ⟨SN, b15, q6_, hN, e1, e3, e4, e5, e6, e8, e9, k98, hq6_, hI⟩⟩
  · intro D hD_ d5_0 x16 x15 x101 x100 x94 x99 x98 x97 x96 x95 w_
    rintro ⟨h0_, h1_, h2_, h3_, h4_, h5_, h6_, h7_, h8_, h9_, h10_, ⟨SN, b15, q6_, hN, e1, e3, e4, e5, e6, e8, e9, k98, hq6_, hI⟩⟩
    have g5_ := h5_ d5_0
    obtain ⟨us, q5, hk5_⟩ := e5 d5_0
    subst q5
    refine r_extract rfl ?_
    exact ⟨h0_, h1_, h2_, h3_, h4_, h5_, h6_, fun _ => rfl, h8_, h9_, h10_, ⟨SN, b15, q6_, hN, e1, e3, e4, e5, e6, e8, e9, k98, hq6_, hI⟩⟩
  · intro D hD_  x16 x15 x101 x100 x94 x99 x98 x97 x96 x95 w_
    rintro ⟨h0_, h1_, h2_, h3_, h4_, h5_, h6_, h7_, h8_, h9_, h10_, ⟨SN, b15, q6_, hN, e1, e3, e4, e5, e6, e8, e9, k98, hq6_, hI⟩⟩
    rw [hD_] at hI
    refine r_alloc hI zo_iClause fun b15 w_ hI => ?_
    have f9_ : D 9 = false := Bool.eq_false_iff.2 fun h => by rw [k98 h] at hD_; cases hD_
    have e8 := fun (_ : setD D 8 8 = true) => (rfl : Value.pointer (some ⟨b15, 0, none⟩) = .pointer (some ⟨b15, 0, none⟩))
    obtain ⟨q6_, hqe_⟩ : ∃ q : Array Value, q = #[.int .i64 0, .int .i64 0, .string ⟨#[]⟩, .slice none 0 0, .slice none 0 0] := ⟨_, rfl⟩
    have hq6_ : q6_.size = 5 := by rw [hqe_]; rfl
    have e9 := fun (h : setD D 8 9 = true) => (False.elim (by rw [show setD D 8 9 = D 9 from rfl, f9_] at h; cases h) : IsCl SN r (.agg q6_))
    have k98 := fun (_ : setD D 8 9 = true) => (rfl : setD D 8 8 = true)
    have hI : Inv w [] (([.blk b1 (.cells cs.toArray t_lClause), .blk b2 (.cells ds.toArray t_lClause), .blk b6 (.cells us_.toArray t_iClause), .blk b8 (.cells es.toArray t_iClause), .blk b9 (.cells fs.toArray t_iClause), .blk b10 (.cells gs.toArray t_iClause)] ++ blks G') ++ [.blk b15 (.cells q6_ t_iClause)]) SN w_ := by rw [hqe_]; exact hI
    have hI := hI.perm (M := [.blk b1 (.cells cs.toArray t_lClause), .blk b2 (.cells ds.toArray t_lClause), .blk b6 (.cells us_.toArray t_iClause), .blk b8 (.cells es.toArray t_iClause), .blk b9 (.cells fs.toArray t_iClause), .blk b10 (.cells gs.toArray t_iClause)] ++ (cond true [.blk b15 (.cells q6_ t_iClause)] [] ++ blks G')) (by rw [List.append_assoc]; exact List.Perm.append_left _ List.perm_append_comm)
    exact ⟨h0_, h1_, h2_, h3_, h4_, h5_, h6_, h7_, fun _ => by first | assumption | trivial, h9_, h10_, ⟨SN, b15, q6_, hN, e1, e3, e4, e5, e6, e8, e9, k98, hq6_, hI⟩⟩
  · intro D hD_ d8_0 d6_1 d4_2 d0_3 d1_4 d2_5 d3_6 d4_7 d5_8 d6_9 d8_10 x16 x15 x101 x100 x94 x99 x98 x97 x96 x95 w_
    rintro ⟨h0_, h1_, h2_, h3_, h4_, h5_, h6_, h7_, h8_, h9_, h10_, ⟨SN, b15, q6_, hN, e1, e3, e4, e5, e6, e8, e9, k98, hq6_, hI⟩⟩
    have g8_ := h8_ d8_0
    have g6_ := h6_ d6_1
    have q8 := e8 d8_0
    obtain ⟨us, q7, hk6_⟩ := e6 d6_1
    subst q8
    subst q7
    rw [d8_0] at hI
    refine r_storeW hI 6 rfl ag_iClause (by simpa using hk6_.length) hq6_ (by simpa using hk6_.one) fun w_ hI => ?_
    have k98 := fun (_ : setD D 9 9 = true) => d8_0
    have e9 := fun (_ : setD D 9 9 = true) => (⟨us, rfl, hk6_⟩ : IsCl SN r (.agg us.toArray))
    have hq6_ : us.toArray.size = 5 := by simpa using hk6_.length
    obtain ⟨q6_, hqe_⟩ : ∃ q : Array Value, q = us.toArray := ⟨_, rfl⟩
    have hI : Inv w [] ([.blk b1 (.cells cs.toArray t_lClause), .blk b2 (.cells ds.toArray t_lClause), .blk b6 (.cells us_.toArray t_iClause), .blk b8 (.cells es.toArray t_iClause), .blk b9 (.cells fs.toArray t_iClause), .blk b10 (.cells gs.toArray t_iClause)] ++ (cond (setD D 9 8) [.blk b15 (.cells q6_ t_iClause)] [] ++ blks G')) SN w_ := by rw [show setD D 9 8 = D 8 from rfl, d8_0, hqe_]; exact hI
    rw [← hqe_] at e9 hq6_
    exact ⟨h0_, h1_, h2_, h3_, h4_, h5_, h6_, h7_, h8_, fun _ => trivial, h10_, ⟨SN, b15, q6_, hN, e1, e3, e4, e5, e6, e8, e9, k98, hq6_, hI⟩⟩
  · intro D hD_ d7_0 d9_1 d0_2 d1_3 d2_4 d3_5 d4_6 d5_7 d6_8 d7_9 d8_10 d9_11 x16 x15 x101 x100 x94 x99 x98 x97 x96 x95 w_
    rintro ⟨h0_, h1_, h2_, h3_, h4_, h5_, h6_, h7_, h8_, h9_, h10_, ⟨SN, b15, q6_, hN, e1, e3, e4, e5, e6, e8, e9, k98, hq6_, hI⟩⟩
    obtain rfl := h7_ d7_0
    exact ⟨h0_, h1_, h2_, h3_, h4_, h5_, h6_, h7_, h8_, h9_, fun _ => rfl, ⟨SN, b15, q6_, hN, e1, e3, e4, e5, e6, e8, e9, k98, hq6_, hI⟩⟩
  intro D d10_ d9_ d8_ d7_ d6_ d5_ d4_ d3_ d2_ d1_ d0_ x16 x15 x101 x100 x94 x99 x98 x97 x96 x95 w_
  rintro ⟨h0_, h1_, h2_, h3_, h4_, h5_, h6_, h7_, h8_, h9_, h10_, ⟨SN, b15, q6_, hN, e1, e3, e4, e5, e6, e8, e9, k98, hq6_, hI⟩⟩
  obtain rfl := h10_ d10_
  have g8_ := h8_ d8_
  obtain rfl := h7_ d7_
  have g6_ := h6_ d6_
  have g5_ := h5_ d5_
  have g4_ := h4_ d4_
  have g3_ := h3_ d3_
  obtain rfl := h2_ d2_
  have g1_ := h1_ d1_
  obtain rfl := h0_ d0_
  clear h0_ h1_ h2_ h3_ h4_ h5_ h6_ h7_ h8_ h9_ h10_
  have q8_ := e8 d8_
  subst q8_
  obtain ⟨vs_, qe_, hk9_⟩ := e9 d9_
  obtain rfl : q6_ = vs_.toArray := by injection qe_
  rw [d8_] at hI
  clear e1 e3 e4 e5 e6 e8 e9 k98
  have hI : Inv w [] ([.blk b1 (.cells cs.toArray t_lClause), .blk b2 (.cells ds.toArray t_lClause), .blk b6 (.cells us_.toArray t_iClause), .blk b8 (.cells es.toArray t_iClause), .blk b9 (.cells fs.toArray t_iClause), .blk b10 (.cells gs.toArray t_iClause), .blk b15 (.cells vs_.toArray t_iClause)] ++ blks G') SN w_ := hI
  refine ⟨fun t w' => t = .bool false ∧ Inv w [] ([.blk b1 (.cells cs.toArray t_lClause), .blk b2 (.cells ds.toArray t_lClause), .blk b6 (.cells us_.toArray t_iClause), .blk b8 (.cells es.toArray t_iClause), .blk b9 (.cells fs.toArray t_iClause), .blk b10 (.cells gs.toArray t_iClause), .blk b15 (.cells vs_.toArray t_iClause)] ++ blks G') SN w', ?_, ?_⟩
  · refine r_loadW hI 6 ag_iClause rfl (by simpa using hk9_.length) ?_
    refine r_loadW hI 2 ag_iClause rfl (by simpa using h2l) ?_
    refine Run.callPure fn_l_eqClause nm_l_eqClause hI (eqClause_calls hk9_ (h2.mono hN)) fun w' hI => ?_
    rw [(eqC_iff r r).2 rfl]
    refine r_not ?_
    repeat (first | refine guard_true ?_ | refine guard_ne (by decide) ?_ | refine guard_undef ?_ | refine r_pickT ?_ | refine r_pickF ?_)
    refine r_bneq un_bool ?_
    repeat (first | refine guard_true ?_ | refine guard_ne (by decide) ?_ | refine guard_undef ?_ | refine r_pickT ?_ | refine r_pickF ?_)
    exact ⟨by simp, hI⟩
  intro t _ _ _ _ _ _ _ _ w'
  rintro ⟨rfl, hI⟩
  refine condV (fun hb => by cases hb) (fun _ => ?_)
  refine r_loadW hI 5 ag_iClause rfl (by simpa using hlg) ?_
  refine Run.heldC1 hI hG' (by omega) (by omega) fun w' hI => ?_
  refine r_lss ?_
  refine condP (fun hb => by omega) (fun _ => ?_)
  refine r_neq ?_
  exact condV (fun hb => by simp at hb) (fun _ => doneS hI (hN0.trans hN) rfl)
end

end Go.Proofs.Ytaaihodhhacapaa

/- What every row of this seat owes beside its walk: the arguments read again as they did, and nothing that was there has turned. -/
namespace Go.Proofs.Ytaaihodhhacapaa
open Go Go.ChangeShapes Go.WideShapes Go.ChangeAt Go.RowKit

theorem Try.own : ownKnob Try.prog.godebug = none := by kernel_rfl
theorem Try.kids : Kids Try.prog (· < Try.prog.types.size) := kids_rows (by kernel_rfl) (by kernel_rfl)
theorem Try.full : ∀ t e, t < Try.prog.types.size → Try.prog.underlying t = some (.slice e) → 0 < Try.prog.cellsOf e := slices_full_of Try.prog (by kernel_rfl)
section
variable {H : Type} {enc : TypeId × Value → H} {W W' : World}
theorem carryAll {P : Program} : ∀ {ts : List TypeId} {vs : List Value} {ds : List (DataW H)} {ps : List MemPlace}, DataW.TrodAll enc P W 0 (fun _ => true) true ts vs ds ps → (∀ p ∈ ps, W.sameAt W' p) →
    DataW.TrodAll enc P W' 0 (fun _ => true) true ts vs ds ps
  | [], [], [], _, h, _ => h
  | _ :: _, _ :: _, _ :: _, _, ⟨p, q, ⟨n, h1⟩, h2, e⟩, hs =>
    ⟨p, q, ⟨n, DataW.trod_carry n _ _ _ h1 fun x hx => hs x (by rw [e]; exact List.mem_append_left _ hx)⟩, carryAll h2 fun x hx => hs x (by rw [e]; exact List.mem_append_right _ hx), e⟩
theorem same_at {p : MemPlace} (h : ∀ b, b < W.heap.size → W'.heap[b]? = W.heap[b]?) (hp : p.block < W.heap.size) : W.sameAt W' p := by
  cases p with
  | cell b off => simp only [World.sameAt, World.cell?]; rw [h b hp]
  | map b => exact h b hp
/- a function of the program whose walk ends with 'true' and with all that was there as it was: the row's 'post' -/
theorem post_true {f : Func} {s : ChangeSpec} {args : Array Value} {ds gs : List (DataW H)} {before p q : List MemPlace}
    (hW : DataW.Whole enc Try.prog f.params.toList s.vars false W args.toList ds gs before) (hA : DataW.TrodAll enc Try.prog W 0 (fun _ => true) true f.params.toList args.toList ds p)
    (hV : DataW.TrodVars enc Try.prog W (fun _ => true) s.vars gs q) (hb : before = p ++ q) (hv : s.vars = []) (hts : ∀ t ∈ f.params.toList, t < Try.prog.types.size) (hr : f.resultTypes = #[t_bool])
    (hs : (s.fn H (ds ++ gs)).results = [.lit (.bool true)]) (ha : (s.fn H (ds ++ gs)).args = ds) (hsv : (s.fn H (ds ++ gs)).vars = []) (hI : Inv W [] [] (heapS W) W') :
    s.post enc Try.prog f false true false false W args (.bool true) W' := by
  have hsame : ∀ b, b < W.heap.size → W'.heap[b]? = W.heap[b]? := fun b hb => hI.same b hb
  have hlt := hW.lt
  rw [hv] at hV
  obtain ⟨hg, hq⟩ := trodVars_none hV
  subst hq
  rw [List.append_nil] at hb
  subst hb
  have hA' := carryAll (W' := W') hA fun x hx => same_at hsame (hlt x hx)
  refine ⟨ds, gs, before, [], before, [], hW, ?_, ?_, ?_, same_kept hI.os hI.output hsame, fun h => by cases h⟩
  · rw [hs, hr]
    exact trodAll_mk1 (shut_bool un_bool true)
  · rw [ha]
    exact DataW.TrodAll.respare Try.kids Try.full hts hA' fun x hx => by simpa using hlt x hx
  · rw [hv, hsv]
    rfl
end

end Go.Proofs.Ytaaihodhhacapaa

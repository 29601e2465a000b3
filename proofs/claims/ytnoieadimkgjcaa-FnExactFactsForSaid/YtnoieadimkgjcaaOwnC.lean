/- impl.ownClause, impl.ownProgram. -/
import Derived.Test.YtnoieadimkgjcaaOwn
namespace Go.Proofs.Ytnoieadimkgjcaa
open Go Go.RowKit
section
variable {w : World} {K : Value → World → Prop}
attribute [local irreducible] Run
theorem r_buildClause {a b : Int} {s : ByteArray} {k v : Value} (hv : ∃ p n m, v = .slice p n m) (hk : K (.agg #[.int .i64 a, .int .i64 b, .string s, k, v]) w) : Run Try.prog (sBuild t_iClause [(0, .agg #[.int .i64 a, .int .i64 b, .string s, k]), (1, v)]) w K := by
  obtain ⟨p, n, m, rfl⟩ := hv
  refine Run.of (v := .agg #[.int .i64 a, .int .i64 b, .string s, k, .slice p n m]) (w' := w) ?_ hk
  unfold sBuild
  rw [Sem.run_bind, run_build w t_iClause _ #[.int .i64 a, .int .i64 b, .string s, k, .slice p n m] (by kernel_rfl), Result.andThen_ok]
  rfl
theorem r_buildHead {a b : Int} {s : ByteArray} {k : Value} (hk : K (.agg #[.int .i64 a, .int .i64 b, .string s, k, .slice none 0 0]) w) : Run Try.prog (sBuild t_iClause [(0, .agg #[.int .i64 a, .int .i64 b, .string s, k])]) w K := by
  refine Run.of (v := .agg #[.int .i64 a, .int .i64 b, .string s, k, .slice none 0 0]) (w' := w) ?_ hk
  unfold sBuild
  rw [Sem.run_bind, run_build w t_iClause _ #[.int .i64 a, .int .i64 b, .string s, k, .slice none 0 0] (by kernel_rfl), Result.andThen_ok]
  rfl
theorem r_buildTerm {a b : Int} {s : ByteArray} (hk : K (.agg #[.int .i64 a, .int .i64 b, .string s, .slice none 0 0]) w) : Run Try.prog (sBuild t_iTerm [(0, .int .i64 a), (1, .int .i64 b), (2, .string s)]) w K := by
  refine Run.of (v := .agg #[.int .i64 a, .int .i64 b, .string s, .slice none 0 0]) (w' := w) ?_ hk
  unfold sBuild
  rw [Sem.run_bind, run_build w t_iTerm _ #[.int .i64 a, .int .i64 b, .string s, .slice none 0 0] (by kernel_rfl), Result.andThen_ok]
  rfl
end
section
attribute [local irreducible] Run CondV GuardV LoadV
def occItems (B B2 B2' : Item) (M1 M2 : Heaplet) (d2 d5 d7 : Bool) : List Item := B :: (match d7 with | true => B2' | false => B2) :: ((match d2 with | true => blks M1 | false => []) ++ (match d5 with | true => blks M2 | false => []))
theorem ownClause_calls {c : C} {S : Store} {cs : List Value} (h : RdC S cs c) (hw : wC c ≤ 1048576) : Tri Try.prog n_i_ownClause [.agg cs.toArray] [] S (PostC S c) := by
  intro w hI
  obtain ⟨hd, ks, rfl, h1, h2⟩ := h
  have h1' := h1
  obtain ⟨kv, rfl, g1, g2, g3, g4⟩ := RdT.iff.1 h1
  unfold wC at hw
  refine calls_i_ownClause ?_
  unfold sh_i_ownClause
  refine r_box hI fun b1 w' hI => ?_
  refine r_alloc hI zo_iClause fun b2 w' hI => ?_
  have hI : Inv w [] [.blk b1 (.cells #[.int .i64 c.head.kind, .int .i64 c.head.n, .string c.head.name, kv, ks] t_iClause), .blk b2 (.cells #[.int .i64 0, .int .i64 0, .string ⟨#[]⟩, .slice none 0 0, .slice none 0 0] t_iClause)] S w' := hI
  refine ⟨fun D x9 x8 x7 x6 x5 x4 x3 w_ => (D 0 = true → x3 = .pointer (some ⟨b1, 0, none⟩)) ∧ (D 1 = true → x4 = .agg #[.int .i64 c.head.kind, .int .i64 c.head.n, .string c.head.name, kv]) ∧ (D 2 = true → True) ∧ (D 3 = true → x6 = .pointer (some ⟨b1, 4, none⟩)) ∧ (D 4 = true → x7 = ks) ∧ (D 5 = true → True) ∧ (D 6 = true → True) ∧ (D 7 = true → True) ∧ ∃ M1 M2 k1, (D 2 = true → x5 = .agg #[.int .i64 c.head.kind, .int .i64 c.head.n, .string c.head.name, k1] ∧ TrT M1 [.int .i64 c.head.kind, .int .i64 c.head.n, .string c.head.name, k1] c.head) ∧ (D 5 = true → TrSl 4 TrT M2 x8 c.body) ∧ (D 6 = true → x9 = .agg #[.int .i64 c.head.kind, .int .i64 c.head.n, .string c.head.name, k1, x8]) ∧ (D 5 = true → D 2 = true) ∧ (D 6 = true → D 5 = true) ∧ (D 7 = true → D 6 = true) ∧ Inv w [] (occItems (.blk b1 (.cells #[.int .i64 c.head.kind, .int .i64 c.head.n, .string c.head.name, kv, ks] t_iClause)) (.blk b2 (.cells #[.int .i64 0, .int .i64 0, .string ⟨#[]⟩, .slice none 0 0, .slice none 0 0] t_iClause)) (.blk b2 (.cells #[.int .i64 c.head.kind, .int .i64 c.head.n, .string c.head.name, k1, x8] t_iClause)) M1 M2 (D 2) (D 5) (D 7)) S w_, ⟨fun h => Bool.noConfusion h, fun h => Bool.noConfusion h, fun h => Bool.noConfusion h, fun h => Bool.noConfusion h, fun h => Bool.noConfusion h, fun h => Bool.noConfusion h, fun h => Bool.noConfusion h, fun h => Bool.noConfusion h, ⟨[], [], undef, fun h => Bool.noConfusion h, fun h => Bool.noConfusion h, fun h => Bool.noConfusion h, fun h => Bool.noConfusion h, fun h => Bool.noConfusion h, fun h => Bool.noConfusion h, hI.draw⟩⟩, ⟨?_, ?_, ?_, ?_, ?_, ?_, ?_, ?_, trivial⟩, ?_⟩
  · intro D hD_  x9 x8 x7 x6 x5 x4 x3 w_
    rintro ⟨h0_, h1_, h2_, h3_, h4_, h5_, h6_, h7_, ⟨M1, M2, k1, e2, e5, e6, k5, k6, k7, hI⟩⟩
    refine r_field fo_iClause_0 ?_
    exact ⟨fun _ => rfl, h1_, h2_, h3_, h4_, h5_, h6_, h7_, ⟨M1, M2, k1, e2, e5, e6, k5, k6, k7, hI⟩⟩
  · intro D hD_ d0_0 x9 x8 x7 x6 x5 x4 x3 w_
    rintro ⟨h0_, h1_, h2_, h3_, h4_, h5_, h6_, h7_, ⟨M1, M2, k1, e2, e5, e6, k5, k6, k7, hI⟩⟩
    obtain rfl := h0_ d0_0
    refine r_loadLA hI 0 [.int .i64 c.head.kind, .int .i64 c.head.n, .string c.head.name, kv] ag_iTerm rfl rfl sub4 ?_
    exact ⟨h0_, fun _ => rfl, h2_, h3_, h4_, h5_, h6_, h7_, ⟨M1, M2, k1, e2, e5, e6, k5, k6, k7, hI⟩⟩
  · intro D hD_ d1_0 x9 x8 x7 x6 x5 x4 x3 w_
    rintro ⟨h0_, h1_, h2_, h3_, h4_, h5_, h6_, h7_, ⟨M1, M2, k1, e2, e5, e6, k5, k6, k7, hI⟩⟩
    obtain rfl := h1_ d1_0
    have f5 : D 5 = false := Bool.eq_false_iff.2 fun h => by rw [k5 h] at hD_; cases hD_
    have f6 : D 6 = false := Bool.eq_false_iff.2 fun h => by rw [k6 h] at f5; cases f5
    have f7 : D 7 = false := Bool.eq_false_iff.2 fun h => by rw [k7 h] at f6; cases f6
    rw [hD_, f5, f7] at hI
    refine Run.call0 fn_i_own nm_i_own hI (own_calls c.head S _ h1' (by omega)) fun v' I' S w_ => ?_
    rintro ⟨rfl, cs1, M1, rfl, rfl, hT1⟩ _ hI
    obtain ⟨k1, rfl, _⟩ := TrT.iff.1 hT1
    have e2 : setD D 2 2 = true → Value.agg #[.int .i64 c.head.kind, .int .i64 c.head.n, .string c.head.name, k1] = Value.agg #[.int .i64 c.head.kind, .int .i64 c.head.n, .string c.head.name, k1] ∧ TrT M1 [.int .i64 c.head.kind, .int .i64 c.head.n, .string c.head.name, k1] c.head := fun _ => ⟨rfl, hT1⟩
    have e6 := fun (h : D 6 = true) => (absurd h (by rw [f6]; decide) : x9 = .agg #[.int .i64 c.head.kind, .int .i64 c.head.n, .string c.head.name, k1, x8])
    have k5 := fun (_ : setD D 2 5 = true) => (rfl : setD D 2 2 = true)
    have hI : Inv w [] (occItems (.blk b1 (.cells #[.int .i64 c.head.kind, .int .i64 c.head.n, .string c.head.name, kv, ks] t_iClause)) (.blk b2 (.cells #[.int .i64 0, .int .i64 0, .string ⟨#[]⟩, .slice none 0 0, .slice none 0 0] t_iClause)) (.blk b2 (.cells #[.int .i64 c.head.kind, .int .i64 c.head.n, .string c.head.name, k1, x8] t_iClause)) M1 M2 true (D 5) (D 7)) S w_ := by
      rw [f5, f7]
      simpa [occItems] using hI
    exact ⟨h0_, h1_, fun _ => by first | assumption | trivial, h3_, h4_, h5_, h6_, h7_, ⟨M1, M2, k1, e2, e5, e6, k5, k6, k7, hI⟩⟩
  · intro D hD_  x9 x8 x7 x6 x5 x4 x3 w_
    rintro ⟨h0_, h1_, h2_, h3_, h4_, h5_, h6_, h7_, ⟨M1, M2, k1, e2, e5, e6, k5, k6, k7, hI⟩⟩
    refine r_field fo_iClause_1 ?_
    exact ⟨h0_, h1_, h2_, fun _ => rfl, h4_, h5_, h6_, h7_, ⟨M1, M2, k1, e2, e5, e6, k5, k6, k7, hI⟩⟩
  · intro D hD_ d3_0 x9 x8 x7 x6 x5 x4 x3 w_
    rintro ⟨h0_, h1_, h2_, h3_, h4_, h5_, h6_, h7_, ⟨M1, M2, k1, e2, e5, e6, k5, k6, k7, hI⟩⟩
    obtain rfl := h3_ d3_0
    refine r_loadL hI 0 sc_SiTerm rfl rfl ?_
    exact ⟨h0_, h1_, h2_, h3_, fun _ => by first | assumption | trivial, h5_, h6_, h7_, ⟨M1, M2, k1, e2, e5, e6, k5, k6, k7, hI⟩⟩
  · intro D hD_ d4_0 d2_1 x9 x8 x7 x6 x5 x4 x3 w_
    rintro ⟨h0_, h1_, h2_, h3_, h4_, h5_, h6_, h7_, ⟨M1, M2, k1, e2, e5, e6, k5, k6, k7, hI⟩⟩
    have g4_ := h4_ d4_0
    have f6 : D 6 = false := Bool.eq_false_iff.2 fun h => by rw [k6 h] at hD_; cases hD_
    have f7 : D 7 = false := Bool.eq_false_iff.2 fun h => by rw [k7 h] at f6; cases f6
    rw [hD_, d2_1, f7] at hI
    refine Run.call0 fn_i_ownList nm_i_ownList hI (by rw [g4_]; exact ownList_calls h2 (by omega)) fun v' I' S w_ => ?_
    rintro ⟨rfl, M2, rfl, hT2⟩ _ hI
    have e5 := fun (_ : setD D 5 5 = true) => hT2
    have e6 := fun (h : D 6 = true) => (absurd h (by rw [f6]; decide) : x9 = .agg #[.int .i64 c.head.kind, .int .i64 c.head.n, .string c.head.name, k1, v'])
    have k6 := fun (_ : setD D 5 6 = true) => (rfl : setD D 5 5 = true)
    have k5 := fun (_ : setD D 5 5 = true) => d2_1
    have hI : Inv w [] (occItems (.blk b1 (.cells #[.int .i64 c.head.kind, .int .i64 c.head.n, .string c.head.name, kv, ks] t_iClause)) (.blk b2 (.cells #[.int .i64 0, .int .i64 0, .string ⟨#[]⟩, .slice none 0 0, .slice none 0 0] t_iClause)) (.blk b2 (.cells #[.int .i64 c.head.kind, .int .i64 c.head.n, .string c.head.name, k1, v'] t_iClause)) M1 M2 (D 2) true (D 7)) S w_ := by
      rw [d2_1, f7]
      simpa [occItems] using hI
    exact ⟨h0_, h1_, h2_, h3_, h4_, fun _ => by first | assumption | trivial, h6_, h7_, ⟨M1, M2, k1, e2, e5, e6, k5, k6, k7, hI⟩⟩
  · intro D hD_ d2_0 d5_1 x9 x8 x7 x6 x5 x4 x3 w_
    rintro ⟨h0_, h1_, h2_, h3_, h4_, h5_, h6_, h7_, ⟨M1, M2, k1, e2, e5, e6, k5, k6, k7, hI⟩⟩
    have g2_ := h2_ d2_0
    have g5_ := h5_ d5_1
    have q2 := (e2 d2_0).1
    subst q2
    refine r_buildClause (by obtain ⟨a8, cap8, hx8, _⟩ := e5 d5_1; exact ⟨_, _, _, hx8⟩) ?_
    have e6 : setD D 6 6 = true → Value.agg #[.int .i64 c.head.kind, .int .i64 c.head.n, .string c.head.name, k1, x8] = Value.agg #[.int .i64 c.head.kind, .int .i64 c.head.n, .string c.head.name, k1, x8] := fun _ => rfl
    have k7 := fun (_ : setD D 6 7 = true) => (rfl : setD D 6 6 = true)
    have k6 := fun (_ : setD D 6 6 = true) => d5_1
    exact ⟨h0_, h1_, h2_, h3_, h4_, h5_, fun _ => by first | assumption | trivial, h7_, ⟨M1, M2, k1, e2, e5, e6, k5, k6, k7, hI⟩⟩
  · intro D hD_ d6_0 d5_1 d0_2 d1_3 d2_4 d3_5 d4_6 d5_7 d6_8 x9 x8 x7 x6 x5 x4 x3 w_
    rintro ⟨h0_, h1_, h2_, h3_, h4_, h5_, h6_, h7_, ⟨M1, M2, k1, e2, e5, e6, k5, k6, k7, hI⟩⟩
    have g6_ := h6_ d6_0
    have q6 := e6 d6_0
    subst q6
    have q2 := (e2 d2_4).2
    have q5 := e5 d5_1
    rw [hD_, d2_4, d5_1] at hI
    refine r_storeW hI 1 rfl ag_iClause rfl rfl ?_ fun w_ hI => ?_
    · intro u hu
      have hu' : u ∈ ([.int .i64 c.head.kind, .int .i64 c.head.n, .string c.head.name, k1, x8] : List Value) := hu
      simp at hu'
      have o1 : k1.oneCell' = true := q2.one k1 (by simp)
      have o2 : x8.oneCell' = true := by obtain ⟨a, cap, rfl, _⟩ := q5; rfl
      rcases hu' with rfl | rfl | rfl | rfl | rfl <;> first | rfl | exact o1 | exact o2
    have k7 := fun (_ : setD D 7 7 = true) => d6_0
    have hI : Inv w [] (occItems (.blk b1 (.cells #[.int .i64 c.head.kind, .int .i64 c.head.n, .string c.head.name, kv, ks] t_iClause)) (.blk b2 (.cells #[.int .i64 0, .int .i64 0, .string ⟨#[]⟩, .slice none 0 0, .slice none 0 0] t_iClause)) (.blk b2 (.cells #[.int .i64 c.head.kind, .int .i64 c.head.n, .string c.head.name, k1, x8] t_iClause)) M1 M2 (D 2) (D 5) true) S w_ := by
      rw [d2_4, d5_1]
      exact hI
    exact ⟨h0_, h1_, h2_, h3_, h4_, h5_, h6_, fun _ => trivial, ⟨M1, M2, k1, e2, e5, e6, k5, k6, k7, hI⟩⟩
  intro D d7_ d6_ d5_ d4_ d3_ d2_ d1_ d0_ x9 x8 x7 x6 x5 x4 x3 w_
  rintro ⟨h0_, h1_, h2_, h3_, h4_, h5_, h6_, h7_, ⟨M1, M2, k1, e2, e5, e6, k5, k6, k7, hI⟩⟩
  have g6_ := h6_ d6_
  have g5_ := h5_ d5_
  have g4_ := h4_ d4_
  obtain rfl := h3_ d3_
  have g2_ := h2_ d2_
  obtain rfl := h1_ d1_
  obtain rfl := h0_ d0_
  clear h0_ h1_ h2_ h3_ h4_ h5_ h6_ h7_
  have q2 := (e2 d2_).2
  have q5 := e5 d5_
  rw [d2_, d5_, d7_] at hI
  refine loadV_W hI 1 ag_iClause rfl rfl ?_
  refine ⟨_, _, _, rfl, hI.sub (List.sublist_append_right [_, _] (blks M1 ++ blks M2)), Ext.refl _ _ _, rfl, _, M1 ++ M2, rfl, by rw [blks_append], _, x8, M1, M2, rfl, rfl, q2, q5⟩
end

end Go.Proofs.Ytnoieadimkgjcaa

/- impl.RenumberClause: clauses. -/
import Derived.Test.YtaaihodhhacapaaGreatZUf5
import Derived.Test.YtaaihodhhacapaaGreatZUf4
namespace Go.Proofs.YtaaihodhhacapaaGreat
open Go Go.RowKit
mutual
theorem wT_sren (vs : List Int) : ∀ t : T, wT (srenT vs t) = wT t
  | .mk k n s ks => by rw [srenT, wT, wT, srenL_len, wL_sren vs ks]
theorem wL_sren (vs : List Int) : ∀ ts : List T, wL (srenL vs ts) = wL ts
  | [] => rfl
  | t :: ts => by rw [srenL, wL, wL, wT_sren vs t, wL_sren vs ts]
end
theorem wC_num (vs : List Int) (c : C) : wC (numC vs c) = wC c := by
  simp only [wC, numC, wT_sren, wL_sren, srenL_len]
section
attribute [local irreducible] Run CondV GuardV LoadV
theorem numbered_of {c : C} {S : Store} {cs : List Value} (h : RdC S cs c) (hnum : varsL (c.head :: c.body) [] = cvars c ∧ irenT (cvars c) c.head = srenT (cvars c) c.head ∧ irenL (cvars c) c.body = srenL (cvars c) c.body) (hw : wC c ≤ 1048576) :
    Tri Tryz.prog n_i_numbered [.agg cs.toArray] [] S (PostR (numC (cvars c) c)) := by
  intro w hI
  obtain ⟨e1, e2, e3⟩ := hnum
  obtain ⟨hd, ks, rfl, h1, h2⟩ := h
  have h1' := h1
  obtain ⟨kv, rfl, g1, g2, g3, g4⟩ := RdT.iff.1 h1
  have hlen := h2.le
  simp only [maxLen] at hlen
  unfold wC at hw
  refine calls_i_numbered ?_
  unfold sh_i_numbered
  refine r_box hI fun b1 w' hI => ?_
  refine r_alloc hI zo_iClause fun b2 w' hI => ?_
  refine r_field fo_iClause_0 ?_
  refine r_loadLA hI 0 [.int .i64 c.head.kind, .int .i64 c.head.n, .string c.head.name, kv] ag_iTerm rfl rfl sub4 ?_
  refine r_slice1 hI mk_SiTerm (by simp [Value.cells]) (by omega) (by omega) fun b7 w' hI => ?_
  refine r_fieldL hI 0 rfl fo_iClause_1 sc_SiTerm rfl ?_
  have hI := Inv.closeRow (A := [_, _]) (cap := 1) (k := 4) (n := 1) hI (by omega) (by simp [maxLen]) (by simp [Value.cells])
  refine r_appendRd hI 2 (css := [[.int .i64 c.head.kind, .int .i64 c.head.n, .string c.head.name, kv]]) mk_SiTerm (by omega) rfl h2 (fun _ _ => RdT.length) (fun _ _ => RdT.one) (by simp; omega) (by omega) fun v' w' css2 hR hI => ?_
  have hR := (Rows.one h1' h1'.length).append hR
  obtain ⟨S1, hle1, hrd, hI, _⟩ := Inv.lend (A := [_, _]) hI
  have hts : RdSl S1 4 (RdT S1) v' (c.head :: c.body) := (RowRd.rows hR hrd).mono (Sle.refl _) fun _ _ h => h.mono hle1
  refine Run.call0 fn_i_renumbered nm_i_renumbered hI (renumbered_calls hts (by simp only [wL, List.length_cons]; omega)) fun v11 I' S' w' => ?_
  rintro ⟨rfl, M, rfl, hT⟩ _ hI
  obtain ⟨S2, hI, hE, hins⟩ := (hI.less hle1).pubExt
  have hr := hT.rd hins fun _ _ _ hi h => h.rd hi
  rw [e1, irenL, e2, e3] at hr
  have hdrop := fun (v : Value) (h : RdSl S2 4 (RdT S2) v ((srenT (cvars c) c.head :: srenL (cvars c) c.body).drop 1)) => h
  obtain ⟨b, o, cap, cc, E, fz, rfl, hS, hR0⟩ := hr.at_ (i := 0) (by simp)
  rw [List.getElem_cons_zero] at hR0
  obtain ⟨kv', ec, f1, f2, f3, f4⟩ := RdT.iff.1 hR0
  rw [ec] at hR0
  obtain ⟨ka, kn, kc, hk'⟩ : ∃ a n m, kv' = .slice a n m := by
    obtain ⟨a, m, e, _⟩ := f4
    exact ⟨_, _, _, e⟩
  refine ⟨fun D x17 x16 x15 x14 x13 x12 x11 w_ => (D 0 = true → x11 = .slice (some ⟨b, o, none⟩) ((srenL (cvars c) c.body).length + 1) cap) ∧ (D 1 = true → x12 = .pointer (some ⟨b, o + 0 * 4, none⟩)) ∧ (D 2 = true → x13 = .agg #[.int .i64 (srenT (cvars c) c.head).kind, .int .i64 (srenT (cvars c) c.head).n, .string (srenT (cvars c) c.head).name, kv']) ∧ (D 3 = true → x14 = .slice (some ⟨b, o, none⟩) ((srenL (cvars c) c.body).length + 1) cap) ∧ (D 4 = true → RdSl S2 4 (RdT S2) x15 (srenL (cvars c) c.body)) ∧ (D 5 = true → RdSl S2 4 (RdT S2) x16 (srenL (cvars c) c.body)) ∧ (D 6 = true → ∃ kb, x17 = .agg #[.int .i64 (srenT (cvars c) c.head).kind, .int .i64 (srenT (cvars c) c.head).n, .string (srenT (cvars c) c.head).name, kv', kb] ∧ RdSl S2 4 (RdT S2) kb (srenL (cvars c) c.body)) ∧ (D 7 = true → True) ∧ ∃ B2, B2.size = 5 ∧ (D 7 = true → ∃ kb, B2 = #[.int .i64 (srenT (cvars c) c.head).kind, .int .i64 (srenT (cvars c) c.head).n, .string (srenT (cvars c) c.head).name, kv', kb] ∧ RdSl S2 4 (RdT S2) kb (srenL (cvars c) c.body)) ∧ Inv w [] [.blk b1 (.cells #[.int .i64 c.head.kind, .int .i64 c.head.n, .string c.head.name, kv, ks] t_iClause), .blk b2 (.cells B2 t_iClause)] S2 w_, ⟨fun h => Bool.noConfusion h, fun h => Bool.noConfusion h, fun h => Bool.noConfusion h, fun h => Bool.noConfusion h, fun h => Bool.noConfusion h, fun h => Bool.noConfusion h, fun h => Bool.noConfusion h, fun h => Bool.noConfusion h, ⟨_, rfl, fun h => Bool.noConfusion h, hI.draw⟩⟩, ⟨?_, ?_, ?_, ?_, ?_, ?_, ?_, ?_, trivial⟩, ?_⟩
  · intro D hD_  x17 x16 x15 x14 x13 x12 x11 w_
    rintro ⟨h0_, h1_, h2_, h3_, h4_, h5_, h6_, h7_, ⟨B2, hB, kB, hI⟩⟩
    exact ⟨fun _ => rfl, h1_, h2_, h3_, h4_, h5_, h6_, h7_, ⟨B2, hB, kB, hI⟩⟩
  · intro D hD_ d0_0 x17 x16 x15 x14 x13 x12 x11 w_
    rintro ⟨h0_, h1_, h2_, h3_, h4_, h5_, h6_, h7_, ⟨B2, hB, kB, hI⟩⟩
    obtain rfl := h0_ d0_0
    refine r_indexAddr (i := 0) sl_SiTerm (by simp) ?_
    exact ⟨h0_, fun _ => rfl, h2_, h3_, h4_, h5_, h6_, h7_, ⟨B2, hB, kB, hI⟩⟩
  · intro D hD_ d1_0 x17 x16 x15 x14 x13 x12 x11 w_
    rintro ⟨h0_, h1_, h2_, h3_, h4_, h5_, h6_, h7_, ⟨B2, hB, kB, hI⟩⟩
    obtain rfl := h1_ d1_0
    refine r_loadA (cs := [.int .i64 (srenT (cvars c) c.head).kind, .int .i64 (srenT (cvars c) c.head).n, .string (srenT (cvars c) c.head).name, kv']) ag_iTerm rfl (fun j v hj => by rw [hI.cellS hS]; exact cellsAt_get ec j v hj) ?_
    exact ⟨h0_, h1_, fun _ => rfl, h3_, h4_, h5_, h6_, h7_, ⟨B2, hB, kB, hI⟩⟩
  · intro D hD_  x17 x16 x15 x14 x13 x12 x11 w_
    rintro ⟨h0_, h1_, h2_, h3_, h4_, h5_, h6_, h7_, ⟨B2, hB, kB, hI⟩⟩
    exact ⟨h0_, h1_, h2_, fun _ => rfl, h4_, h5_, h6_, h7_, ⟨B2, hB, kB, hI⟩⟩
  · intro D hD_ d3_0 x17 x16 x15 x14 x13 x12 x11 w_
    rintro ⟨h0_, h1_, h2_, h3_, h4_, h5_, h6_, h7_, ⟨B2, hB, kB, hI⟩⟩
    obtain rfl := h3_ d3_0
    refine r_sliceFrom (l := 1) sl_SiTerm hr (by simp) fun kb hkb => ?_
    rw [List.drop_succ_cons, List.drop_zero] at hkb
    exact ⟨h0_, h1_, h2_, h3_, fun _ => by first | assumption | trivial, h5_, h6_, h7_, ⟨B2, hB, kB, hI⟩⟩
  · intro D hD_ d4_0 x17 x16 x15 x14 x13 x12 x11 w_
    rintro ⟨h0_, h1_, h2_, h3_, h4_, h5_, h6_, h7_, ⟨B2, hB, kB, hI⟩⟩
    have g4_ := h4_ d4_0
    obtain ⟨r, hr', hp⟩ := Clip_calls g4_
    refine Run.callPure fn_x_Clip_Term nm_x_Clip_Term hI hp fun w_ hI => ?_
    exact ⟨h0_, h1_, h2_, h3_, h4_, fun _ => by first | assumption | trivial, h6_, h7_, ⟨B2, hB, kB, hI⟩⟩
  · intro D hD_ d2_0 d5_1 x17 x16 x15 x14 x13 x12 x11 w_
    rintro ⟨h0_, h1_, h2_, h3_, h4_, h5_, h6_, h7_, ⟨B2, hB, kB, hI⟩⟩
    obtain rfl := h2_ d2_0
    have g5_ := h5_ d5_1
    refine r_buildClause ?_ ?_
    · obtain ⟨a, m, e, _⟩ := g5_
      exact ⟨_, _, _, e⟩
    have hnew : ∃ kb, Value.agg #[.int .i64 (srenT (cvars c) c.head).kind, .int .i64 (srenT (cvars c) c.head).n, .string (srenT (cvars c) c.head).name, kv', x16] = .agg #[.int .i64 (srenT (cvars c) c.head).kind, .int .i64 (srenT (cvars c) c.head).n, .string (srenT (cvars c) c.head).name, kv', kb] ∧ RdSl S2 4 (RdT S2) kb (srenL (cvars c) c.body) := ⟨_, rfl, g5_⟩
    exact ⟨h0_, h1_, h2_, h3_, h4_, h5_, fun _ => by first | assumption | trivial, h7_, ⟨B2, hB, kB, hI⟩⟩
  · intro D hD_ d6_0 d5_1 d0_2 d1_3 d2_4 d3_5 d4_6 d5_7 d6_8 x17 x16 x15 x14 x13 x12 x11 w_
    rintro ⟨h0_, h1_, h2_, h3_, h4_, h5_, h6_, h7_, ⟨B2, hB, kB, hI⟩⟩
    have g6_ := h6_ d6_0
    obtain ⟨kb, rfl, hkb⟩ := g6_
    obtain ⟨a, m, e, _⟩ := id hkb
    subst e
    refine r_storeW hI 1 rfl ag_iClause rfl hB (by simp [Value.oneCell', hk']) fun w_ hI => ?_
    obtain ⟨B2, hq⟩ : ∃ B2, B2 = (#[.int .i64 (srenT (cvars c) c.head).kind, .int .i64 (srenT (cvars c) c.head).n, .string (srenT (cvars c) c.head).name, kv', .slice a (srenL (cvars c) c.body).length m] : Array Value) := ⟨_, rfl⟩
    rw [← hq] at hI
    have hB : B2.size = 5 := by rw [hq]; rfl
    have kB := fun (_ : setD D 7 7 = true) => (⟨_, hq, hkb⟩ : ∃ kb, B2 = #[.int .i64 (srenT (cvars c) c.head).kind, .int .i64 (srenT (cvars c) c.head).n, .string (srenT (cvars c) c.head).name, kv', kb] ∧ RdSl S2 4 (RdT S2) kb (srenL (cvars c) c.body))
    exact ⟨h0_, h1_, h2_, h3_, h4_, h5_, h6_, fun _ => trivial, ⟨B2, hB, kB, hI⟩⟩
  intro D d7_ d6_ d5_ d4_ d3_ d2_ d1_ d0_ x17 x16 x15 x14 x13 x12 x11 w_
  rintro ⟨h0_, h1_, h2_, h3_, h4_, h5_, h6_, h7_, ⟨B2, hB, kB, hI⟩⟩
  have g6_ := h6_ d6_
  have g5_ := h5_ d5_
  have g4_ := h4_ d4_
  obtain rfl := h3_ d3_
  obtain rfl := h2_ d2_
  obtain rfl := h1_ d1_
  obtain rfl := h0_ d0_
  clear h0_ h1_ h2_ h3_ h4_ h5_ h6_ h7_
  obtain ⟨kb, rfl, hkb⟩ := kB d7_
  refine loadV_W hI 1 ag_iClause rfl rfl ?_
  exact ⟨_, _, _, rfl, hI.pick [false, false], hE, rfl, _, rfl, ⟨_, _, rfl, hR0, hkb⟩⟩
theorem TrC.zero : TrC [] [.int .i64 0, .int .i64 0, .string ⟨#[]⟩, .slice none 0 0, .slice none 0 0] ⟨⟨0, 0, ⟨#[]⟩, []⟩, []⟩ :=
  ⟨[.int .i64 0, .int .i64 0, .string ⟨#[]⟩, .slice none 0 0], .slice none 0 0, [], [], rfl, rfl, TrT.iff.2 ⟨_, rfl, by simp [inI, T.kind], by simp [inI, T.n], by rw [T.name]; decide +kernel, TrSl.nil (by simp [maxLen])⟩, TrSl.nil (by simp [maxLen])⟩
end

end Go.Proofs.YtaaihodhhacapaaGreat

/- spec.l15Resolvent. -/
namespace Go.Proofs.YtaaihodhhacapaaGreat
open Go Go.RowKit
def fitsO : Option (Option C) → Bool
  | none => false
  | _ => true
def okSO : Option (Option C) → Bool
  | none => true
  | some none => false
  | some (some r) => clauseB r
def okIO : Option (Option C) → Bool
  | some (some r) => clauseB r
  | _ => false
def zeroC : C := ⟨⟨0, 0, ⟨#[]⟩, []⟩, []⟩
def clO : Option (Option C) → C
  | some (some r) => r
  | _ => zeroC
theorem noTableU (z : Array Value) (hz : z = #[.int .i64 0, .int .i64 0, .string ⟨#[]⟩, .slice none 0 0]) (S : Store) : KnU S ((Array.range 208).map (z[· % z.size]!)) stU := by
  subst hz
  refine ⟨by simp [stU], fun i hi => ⟨fun _ => ?_, fun t ht => ?_⟩⟩
  · simp only [stU, List.length_replicate] at hi
    apply List.ext_getElem?
    intro j
    rw [cellsAt, List.getElem?_take]
    match j with
    | 0 | 1 | 2 | 3 =>
      rw [if_pos (by omega), List.getElem?_drop, Array.getElem?_toList, Array.getElem?_map, Array.getElem?_range, if_pos (by omega)]
      simp only [Option.map_some, List.size_toArray, List.length_cons, List.length_nil]
      first
        | rw [show (i * 4 + 0) % 4 = 0 by omega]; rfl
        | rw [show (i * 4 + 1) % 4 = 1 by omega]; rfl
        | rw [show (i * 4 + 2) % 4 = 2 by omega]; rfl
        | rw [show (i * 4 + 3) % 4 = 3 by omega]; rfl
    | j + 4 =>
      rw [if_neg (by omega)]
      rfl
  · have e : stU[i] = none := by simp only [stU, List.getElem_replicate]
    rw [e] at ht
    cases ht
theorem headD_get : ∀ (l : List T) (h : 0 < l.length) (d : T), l.headD d = l[0]
  | _ :: _, _, _ => rfl
  | [], h, _ => by simp at h
def PostRO (c : C) (f k : Bool) : Value → List Item → Store → Prop := fun q I' S' => I' = [] ∧ ∃ cs : List Value, q = .tuple #[.agg cs.toArray, .bool f, .bool k] ∧ RdC S' cs c
theorem zeroC_one : ∀ x ∈ ([.int .i64 0, .int .i64 0, .string ⟨#[]⟩, .slice none 0 0, .slice none 0 0] : List Value), x.oneCell' = true := by simp [Value.oneCell']
section
variable {P : Program} {w : World} {K : Value → World → Prop}
attribute [local irreducible] Run
theorem r_mul {T : TypeId} {cx cy : Bool} {a b : Int} (hr : -9223372036854775808 ≤ a * b ∧ a * b ≤ 9223372036854775807) (hk : K (.int .i64 (a * b)) w) : Run P (sBin .mul T cx cy (.int .i64 a) (.int .i64 b)) w K := by
  refine Run.of ?_ hk
  simp [sBin, eqGuard_int, binOp, Op.intArith, IntWalk.i64_in _ hr]
end
section
attribute [local irreducible] Run CondV GuardV LoadV
set_option maxHeartbeats 2000000 in
theorem l15Resolvent_calls {c0 d0 : C} {o : Option (Option C)} (hc : clauseB c0 = true) (hd : clauseB d0 = true) (hwc : wC c0 ≤ 1048576) (hwd : wC d0 ≤ 1048576) (hb : c0.body ≠ []) (ho : RO c0 d0 o) {S : Store} {cs ds : List Value} (h : RdC S cs c0) (h' : RdC S ds d0) :
    Tri Tryz.prog n_s_l15Resolvent [.agg cs.toArray, .agg ds.toArray] [] S (PostRO (clO o) (fitsO o) (okSO o)) := by
  intro w hI
  have hI : Inv w [] [] S w := hI
  have hlc := h.length
  have hld := h'.length
  obtain ⟨d1, d2, _⟩ := clause_okU hd
  have hrl := rlist_len hc hd
  have hrok := rlist_ok hc hd
  have hj0 := first_okJ hc hd hwc hwd hb
  obtain ⟨r, st, hu, hcase⟩ := ho
  obtain ⟨hg, _⟩ := hu.good stU_good hj0
  have h0 := h
  obtain ⟨hd0, ks, rfl, h1, h2⟩ := h
  have h1' := h1
  obtain ⟨kc0, rfl, g1, g2, g3, g4⟩ := RdT.iff.1 h1
  have hb0 : 0 < c0.body.length := List.length_pos_iff.2 hb
  obtain ⟨bb, bo, bcap, bc, bE, bfz, rfl, hbS, hbR⟩ := h2.at_ hb0
  have hfirst : c0.body.headD ⟨0, 0, ⟨#[]⟩, []⟩ = c0.body[0] := headD_get _ hb0 _
  rw [hfirst] at hu hj0
  refine calls_s_l15Resolvent ?_
  unfold sh_s_l15Resolvent
  refine r_box hI fun b2 w' hI => ?_
  refine r_box hI fun b3 w' hI => ?_
  refine r_alloc hI zo_iClause fun b4 w' hI => ?_
  refine r_loadW hI 1 ag_iClause rfl (by simpa [Value.cells] using hld) ?_
  refine Run.call0E fn_s_l15Fresh nm_s_l15Fresh hI (l15Fresh_calls (Nv := 26) (by omega) 26 (by omega) (by omega) h' d1 d2 hwd) fun v' I' S0 w' => ?_
  rintro ⟨rfl, es, L, rfl, rfl, hT⟩ hE0 hI
  obtain ⟨S1, hI, hE1, hins⟩ := hI.pubExt
  have hE := hE0.trans hE1
  have he := hT.rd hins
  obtain ⟨e0, hee⟩ : ∃ e0, e0 = shiftC 26 d0 := ⟨_, rfl⟩
  rw [← hee] at he
  have heh : shiftT 26 d0.head = e0.head := by rw [hee]; rfl
  have heb : shiftL 26 d0.body = e0.body := by rw [hee]; rfl
  rw [heh] at hu hj0
  have hrle : rlist c0 d0 = c0.head :: (e0.body ++ c0.body.drop 1) := by rw [rlist, heb]
  rw [hrle] at hcase hrl hrok
  have he0 := he
  obtain ⟨eh, ebv, rfl, he1, he2⟩ := he
  have he1' := he1
  obtain ⟨ke0, rfl, _⟩ := RdT.iff.1 he1
  obtain ⟨ea, ecap, rfl, _⟩ := id he2
  refine r_alloc hI zo_iClause fun b8 w' hI => ?_
  refine r_storeW hI 3 rfl ag_iClause rfl rfl (by simpa using he0.one) fun w' hI => ?_
  refine r_mul (by omega) ?_
  refine r_makeSliceZ (n := 52) hI mk_SiTerm (by omega) (by omega) (by omega) fun kb w' hI => ?_
  have hkc0 := noTableU _ rfl S1
  obtain ⟨kc, hkce⟩ : ∃ kc, kc = (Array.range 208).map ((#[.int .i64 0, .int .i64 0, .string ⟨#[]⟩, .slice none 0 0] : Array Value)[· % (#[.int .i64 0, .int .i64 0, .string ⟨#[]⟩, .slice none 0 0] : Array Value).size]!) := ⟨_, rfl⟩
  rw [← hkce] at hkc0
  have hI : Inv w [] [.blk b2 (.cells #[.int .i64 c0.head.kind, .int .i64 c0.head.n, .string c0.head.name, kc0, .slice (some ⟨bb, bo, none⟩) c0.body.length bcap] t_iClause), .blk b3 (.cells ds.toArray t_iClause), .blk b4 (.cells #[.int .i64 0, .int .i64 0, .string ⟨#[]⟩, .slice none 0 0, .slice none 0 0] t_iClause), .blk b8 (.cells #[.int .i64 e0.head.kind, .int .i64 e0.head.n, .string e0.head.name, ke0, .slice ea e0.body.length ecap] t_iClause), .blk kb (.cells kc t_iTerm)] S1 w' := by rw [hkce]; exact hI
  have hbS1 := hE.1 _ _ hbS
  have hbR1 := hbR.mono hE.1
  have hcall := l3Unify_calls (kp := 52) (by omega) stU_good hj0 hu S1 _ _ kb kc hbR1 he1' hkc0
  refine ⟨fun D x30 x29 x28 x27 x26 x25 x24 x23 x22 w_ => (D 0 = true → x22 = .pointer (some ⟨b2, 4, none⟩)) ∧ (D 1 = true → x23 = .slice (some ⟨bb, bo, none⟩) c0.body.length bcap) ∧ (D 2 = true → x24 = .pointer (some ⟨bb, bo + 0 * 4, none⟩)) ∧ (D 3 = true → x25 = .agg (cellsAt bc (bo + 0 * 4) 4).toArray) ∧ (D 4 = true → x26 = .pointer (some ⟨b8, 0, none⟩)) ∧ (D 5 = true → x27 = .agg #[.int .i64 e0.head.kind, .int .i64 e0.head.n, .string e0.head.name, ke0]) ∧ (D 6 = true → x28 = kvU kb 52 52) ∧ (D 7 = true → x29 = .bool r) ∧ (D 8 = true → x30 = .bool (!r)) ∧ (D 7 = false → Inv w [] [.blk b2 (.cells #[.int .i64 c0.head.kind, .int .i64 c0.head.n, .string c0.head.name, kc0, .slice (some ⟨bb, bo, none⟩) c0.body.length bcap] t_iClause), .blk b3 (.cells ds.toArray t_iClause), .blk b4 (.cells #[.int .i64 0, .int .i64 0, .string ⟨#[]⟩, .slice none 0 0, .slice none 0 0] t_iClause), .blk b8 (.cells #[.int .i64 e0.head.kind, .int .i64 e0.head.n, .string e0.head.name, ke0, .slice ea e0.body.length ecap] t_iClause), .blk kb (.cells kc t_iTerm)] S1 w_) ∧ (D 7 = true → ∃ kc2, KnU S1 kc2 st ∧ Inv w [] [.blk b2 (.cells #[.int .i64 c0.head.kind, .int .i64 c0.head.n, .string c0.head.name, kc0, .slice (some ⟨bb, bo, none⟩) c0.body.length bcap] t_iClause), .blk b3 (.cells ds.toArray t_iClause), .blk b4 (.cells #[.int .i64 0, .int .i64 0, .string ⟨#[]⟩, .slice none 0 0, .slice none 0 0] t_iClause), .blk b8 (.cells #[.int .i64 e0.head.kind, .int .i64 e0.head.n, .string e0.head.name, ke0, .slice ea e0.body.length ecap] t_iClause), .blk kb (.cells kc2 t_iTerm)] S1 w_) ∧ ∃ kc3, Inv w [] [.blk b2 (.cells #[.int .i64 c0.head.kind, .int .i64 c0.head.n, .string c0.head.name, kc0, .slice (some ⟨bb, bo, none⟩) c0.body.length bcap] t_iClause), .blk b3 (.cells ds.toArray t_iClause), .blk b4 (.cells #[.int .i64 0, .int .i64 0, .string ⟨#[]⟩, .slice none 0 0, .slice none 0 0] t_iClause), .blk b8 (.cells #[.int .i64 e0.head.kind, .int .i64 e0.head.n, .string e0.head.name, ke0, .slice ea e0.body.length ecap] t_iClause), .blk kb (.cells kc3 t_iTerm)] S1 w_, ⟨fun h => Bool.noConfusion h, fun h => Bool.noConfusion h, fun h => Bool.noConfusion h, fun h => Bool.noConfusion h, fun h => Bool.noConfusion h, fun h => Bool.noConfusion h, fun h => Bool.noConfusion h, fun h => Bool.noConfusion h, fun h => Bool.noConfusion h, ⟨fun _ => hI.draw, fun h => Bool.noConfusion h, kc, hI.draw⟩⟩, ⟨?_, ?_, ?_, ?_, ?_, ?_, ?_, ?_, ?_, trivial⟩, ?_⟩
  · intro D hD_  x30 x29 x28 x27 x26 x25 x24 x23 x22 w_
    rintro ⟨h0_, h1_, h2_, h3_, h4_, h5_, h6_, h7_, h8_, ⟨hI0, hI1, kc3, hI⟩⟩
    refine r_field fo_iClause_1 ?_
    exact ⟨fun _ => rfl, h1_, h2_, h3_, h4_, h5_, h6_, h7_, h8_, ⟨hI0, hI1, kc3, hI⟩⟩
  · intro D hD_ d0_0 x30 x29 x28 x27 x26 x25 x24 x23 x22 w_
    rintro ⟨h0_, h1_, h2_, h3_, h4_, h5_, h6_, h7_, h8_, ⟨hI0, hI1, kc3, hI⟩⟩
    obtain rfl := h0_ d0_0
    refine r_loadL hI 0 sc_SiTerm rfl rfl ?_
    exact ⟨h0_, fun _ => rfl, h2_, h3_, h4_, h5_, h6_, h7_, h8_, ⟨hI0, hI1, kc3, hI⟩⟩
  · intro D hD_ d1_0 x30 x29 x28 x27 x26 x25 x24 x23 x22 w_
    rintro ⟨h0_, h1_, h2_, h3_, h4_, h5_, h6_, h7_, h8_, ⟨hI0, hI1, kc3, hI⟩⟩
    obtain rfl := h1_ d1_0
    refine r_indexAddr (i := 0) sl_SiTerm hb0 ?_
    exact ⟨h0_, h1_, fun _ => rfl, h3_, h4_, h5_, h6_, h7_, h8_, ⟨hI0, hI1, kc3, hI⟩⟩
  · intro D hD_ d2_0 x30 x29 x28 x27 x26 x25 x24 x23 x22 w_
    rintro ⟨h0_, h1_, h2_, h3_, h4_, h5_, h6_, h7_, h8_, ⟨hI0, hI1, kc3, hI⟩⟩
    obtain rfl := h2_ d2_0
    refine r_loadA ag_iTerm hbR1.length (fun j v hj => by rw [hI.cellS hbS1]; exact cellsAt_get rfl j v hj) ?_
    exact ⟨h0_, h1_, h2_, fun _ => rfl, h4_, h5_, h6_, h7_, h8_, ⟨hI0, hI1, kc3, hI⟩⟩
  · intro D hD_  x30 x29 x28 x27 x26 x25 x24 x23 x22 w_
    rintro ⟨h0_, h1_, h2_, h3_, h4_, h5_, h6_, h7_, h8_, ⟨hI0, hI1, kc3, hI⟩⟩
    refine r_field fo_iClause_0 ?_
    exact ⟨h0_, h1_, h2_, h3_, fun _ => rfl, h5_, h6_, h7_, h8_, ⟨hI0, hI1, kc3, hI⟩⟩
  · intro D hD_ d4_0 x30 x29 x28 x27 x26 x25 x24 x23 x22 w_
    rintro ⟨h0_, h1_, h2_, h3_, h4_, h5_, h6_, h7_, h8_, ⟨hI0, hI1, kc3, hI⟩⟩
    obtain rfl := h4_ d4_0
    refine r_loadLA hI 3 [.int .i64 e0.head.kind, .int .i64 e0.head.n, .string e0.head.name, ke0] ag_iTerm rfl rfl sub4 ?_
    exact ⟨h0_, h1_, h2_, h3_, h4_, fun _ => rfl, h6_, h7_, h8_, ⟨hI0, hI1, kc3, hI⟩⟩
  · intro D hD_  x30 x29 x28 x27 x26 x25 x24 x23 x22 w_
    rintro ⟨h0_, h1_, h2_, h3_, h4_, h5_, h6_, h7_, h8_, ⟨hI0, hI1, kc3, hI⟩⟩
    exact ⟨h0_, h1_, h2_, h3_, h4_, h5_, fun _ => rfl, h7_, h8_, ⟨hI0, hI1, kc3, hI⟩⟩
  · intro D hD_ d3_0 d5_1 d6_2 x30 x29 x28 x27 x26 x25 x24 x23 x22 w_
    rintro ⟨h0_, h1_, h2_, h3_, h4_, h5_, h6_, h7_, h8_, ⟨hI0, hI1, kc3, hI⟩⟩
    obtain rfl := h3_ d3_0
    obtain rfl := h5_ d5_1
    obtain rfl := h6_ d6_2
    refine Run.call (A := [_, _, _, _]) fn_s_l3Unify nm_s_l3Unify (hI0 hD_) hcall fun v' I' S' w_ => ?_
    rintro ⟨eS, rfl, kc2, rfl, hk2⟩ _ hI
    rw [eS] at hI
    have hI0 := fun (h : setD D 7 7 = false) => (Bool.noConfusion h : Inv w [] [.blk b2 (.cells #[.int .i64 c0.head.kind, .int .i64 c0.head.n, .string c0.head.name, kc0, .slice (some ⟨bb, bo, none⟩) c0.body.length bcap] t_iClause), .blk b3 (.cells ds.toArray t_iClause), .blk b4 (.cells #[.int .i64 0, .int .i64 0, .string ⟨#[]⟩, .slice none 0 0, .slice none 0 0] t_iClause), .blk b8 (.cells #[.int .i64 e0.head.kind, .int .i64 e0.head.n, .string e0.head.name, ke0, .slice ea e0.body.length ecap] t_iClause), .blk kb (.cells kc t_iTerm)] S1 w_)
    have hI1 := fun (_ : setD D 7 7 = true) => (⟨kc2, hk2, hI⟩ : ∃ kc2, KnU S1 kc2 st ∧ Inv w [] [.blk b2 (.cells #[.int .i64 c0.head.kind, .int .i64 c0.head.n, .string c0.head.name, kc0, .slice (some ⟨bb, bo, none⟩) c0.body.length bcap] t_iClause), .blk b3 (.cells ds.toArray t_iClause), .blk b4 (.cells #[.int .i64 0, .int .i64 0, .string ⟨#[]⟩, .slice none 0 0, .slice none 0 0] t_iClause), .blk b8 (.cells #[.int .i64 e0.head.kind, .int .i64 e0.head.n, .string e0.head.name, ke0, .slice ea e0.body.length ecap] t_iClause), .blk kb (.cells kc2 t_iTerm)] S1 w_)
    obtain ⟨kc3, hI⟩ : ∃ kc3, Inv w [] [.blk b2 (.cells #[.int .i64 c0.head.kind, .int .i64 c0.head.n, .string c0.head.name, kc0, .slice (some ⟨bb, bo, none⟩) c0.body.length bcap] t_iClause), .blk b3 (.cells ds.toArray t_iClause), .blk b4 (.cells #[.int .i64 0, .int .i64 0, .string ⟨#[]⟩, .slice none 0 0, .slice none 0 0] t_iClause), .blk b8 (.cells #[.int .i64 e0.head.kind, .int .i64 e0.head.n, .string e0.head.name, ke0, .slice ea e0.body.length ecap] t_iClause), .blk kb (.cells kc3 t_iTerm)] S1 w_ := ⟨kc2, hI⟩
    exact ⟨h0_, h1_, h2_, h3_, h4_, h5_, h6_, fun _ => rfl, h8_, ⟨hI0, hI1, kc3, hI⟩⟩
  · intro D hD_ d7_0 x30 x29 x28 x27 x26 x25 x24 x23 x22 w_
    rintro ⟨h0_, h1_, h2_, h3_, h4_, h5_, h6_, h7_, h8_, ⟨hI0, hI1, kc3, hI⟩⟩
    obtain rfl := h7_ d7_0
    refine r_not ?_
    exact ⟨h0_, h1_, h2_, h3_, h4_, h5_, h6_, h7_, fun _ => rfl, ⟨hI0, hI1, kc3, hI⟩⟩
  intro D d8_ d7_ d6_ d5_ d4_ d3_ d2_ d1_ d0_ x30 x29 x28 x27 x26 x25 x24 x23 x22 w_
  rintro ⟨h0_, h1_, h2_, h3_, h4_, h5_, h6_, h7_, h8_, ⟨hI0, hI1, kc3, hI⟩⟩
  obtain rfl := h8_ d8_
  obtain rfl := h7_ d7_
  obtain rfl := h6_ d6_
  obtain rfl := h5_ d5_
  obtain rfl := h4_ d4_
  obtain rfl := h3_ d3_
  obtain rfl := h2_ d2_
  obtain rfl := h1_ d1_
  obtain rfl := h0_ d0_
  clear h0_ h1_ h2_ h3_ h4_ h5_ h6_ h7_ h8_
  obtain ⟨kc2, hk2, hI⟩ := hI1 d7_
  clear hI0 hI1
  refine condV (fun hbr => ?_) (fun hbr => ?_)
  · have hr : r = false := by simpa using hbr
    have hoN : o = none := by
      rcases hcase with ⟨_, h⟩ | ⟨h, _⟩
      · exact h
      · rw [hr] at h; cases h
    subst hoN
    refine r_buildClause0 ?_
    refine r_storeW hI 2 rfl ag_iClause rfl rfl zeroC_one fun w' hI => ?_
    refine loadV_W hI 2 ag_iClause rfl rfl ?_
    exact ⟨_, _, _, rfl, hI.nil, hE, rfl, [.int .i64 0, .int .i64 0, .string ⟨#[]⟩, .slice none 0 0, .slice none 0 0], rfl, RdC.zero _⟩
  have hr : r = true := by simpa using hbr
  obtain ⟨us, hus, hsm⟩ : ∃ us, Res st (.list (c0.head :: (e0.body ++ c0.body.drop 1)) us) ∧ ((us.all smallB = false ∧ o = some none) ∨ (us.all smallB = true ∧ o = some (some (numC (cvars (ofL us)) (ofL us))))) := by
    rcases hcase with ⟨h, _⟩ | ⟨_, h⟩
    · rw [hr] at h; cases h
    · exact h
  clear hcase
  have h1S := h1'.mono hE.1
  have h2S := h2.monoT hE.1
  refine ⟨fun D x10 x41 x40 x39 x38 x37 x36 x35 x34 x33 x32 w_ => (D 0 = true → x32 = .pointer (some ⟨b2, 0, none⟩)) ∧ (D 1 = true → x33 = .agg #[.int .i64 c0.head.kind, .int .i64 c0.head.n, .string c0.head.name, kc0]) ∧ (D 2 = true → True) ∧ (D 3 = true → x35 = .pointer (some ⟨b8, 4, none⟩)) ∧ (D 4 = true → x36 = .slice ea e0.body.length ecap) ∧ (D 5 = true → True) ∧ (D 6 = true → x38 = .pointer (some ⟨b2, 4, none⟩)) ∧ (D 7 = true → x39 = .slice (some ⟨bb, bo, none⟩) c0.body.length bcap) ∧ (D 8 = true → True) ∧ (D 9 = true → True) ∧ (D 10 = true → True) ∧ ∃ rows : List Item, (D 2 = false → rows = []) ∧ (D 2 = true → D 5 = false → ∃ css, rows = [rowG x34 t_iTerm 4 css] ∧ Rows 4 (RdT S1) css [c0.head]) ∧ (D 5 = true → D 9 = false → ∃ css, rows = [rowG x37 t_iTerm 4 css] ∧ Rows 4 (RdT S1) css (c0.head :: e0.body)) ∧ (D 9 = true → ∃ css, rows = [rowG x41 t_iTerm 4 css] ∧ Rows 4 (RdT S1) css (c0.head :: (e0.body ++ c0.body.drop 1))) ∧ (D 10 = true → x10 = x41) ∧ (D 10 = true → D 9 = true) ∧ (D 5 = true → D 2 = true) ∧ (D 9 = true → D 5 = true) ∧ (D 8 = true → RdSl S1 4 (RdT S1) x40 (c0.body.drop 1)) ∧ Inv w [] ([.blk b2 (.cells #[.int .i64 c0.head.kind, .int .i64 c0.head.n, .string c0.head.name, kc0, .slice (some ⟨bb, bo, none⟩) c0.body.length bcap] t_iClause), .blk b3 (.cells ds.toArray t_iClause), .blk b4 (.cells #[.int .i64 0, .int .i64 0, .string ⟨#[]⟩, .slice none 0 0, .slice none 0 0] t_iClause), .blk b8 (.cells #[.int .i64 e0.head.kind, .int .i64 e0.head.n, .string e0.head.name, ke0, .slice ea e0.body.length ecap] t_iClause), .blk kb (.cells kc2 t_iTerm)] ++ rows) S1 w_, ⟨fun h => Bool.noConfusion h, fun h => Bool.noConfusion h, fun h => Bool.noConfusion h, fun h => Bool.noConfusion h, fun h => Bool.noConfusion h, fun h => Bool.noConfusion h, fun h => Bool.noConfusion h, fun h => Bool.noConfusion h, fun h => Bool.noConfusion h, fun h => Bool.noConfusion h, fun h => Bool.noConfusion h, ⟨[], fun _ => rfl, fun h => Bool.noConfusion h, fun h => Bool.noConfusion h, fun h => Bool.noConfusion h, fun h => Bool.noConfusion h, fun h => Bool.noConfusion h, fun h => Bool.noConfusion h, fun h => Bool.noConfusion h, fun h => Bool.noConfusion h, hI.draw⟩⟩, ⟨?_, ?_, ?_, ?_, ?_, ?_, ?_, ?_, ?_, ?_, ?_, trivial⟩, ?_⟩
  · intro D hD_  x10 x41 x40 x39 x38 x37 x36 x35 x34 x33 x32 w_
    rintro ⟨h0_, h1_, h2_, h3_, h4_, h5_, h6_, h7_, h8_, h9_, h10_, ⟨rows, e2, e25, e59, e9, e10, k109, k52, k95, e8, hI⟩⟩
    refine r_field fo_iClause_0 ?_
    exact ⟨fun _ => rfl, h1_, h2_, h3_, h4_, h5_, h6_, h7_, h8_, h9_, h10_, ⟨rows, e2, e25, e59, e9, e10, k109, k52, k95, e8, hI⟩⟩
  · intro D hD_ d0_0 x10 x41 x40 x39 x38 x37 x36 x35 x34 x33 x32 w_
    rintro ⟨h0_, h1_, h2_, h3_, h4_, h5_, h6_, h7_, h8_, h9_, h10_, ⟨rows, e2, e25, e59, e9, e10, k109, k52, k95, e8, hI⟩⟩
    obtain rfl := h0_ d0_0
    refine r_loadLA hI 0 [.int .i64 c0.head.kind, .int .i64 c0.head.n, .string c0.head.name, kc0] ag_iTerm rfl rfl sub4 ?_
    exact ⟨h0_, fun _ => rfl, h2_, h3_, h4_, h5_, h6_, h7_, h8_, h9_, h10_, ⟨rows, e2, e25, e59, e9, e10, k109, k52, k95, e8, hI⟩⟩
  · intro D hD_ d1_0 x10 x41 x40 x39 x38 x37 x36 x35 x34 x33 x32 w_
    rintro ⟨h0_, h1_, h2_, h3_, h4_, h5_, h6_, h7_, h8_, h9_, h10_, ⟨rows, e2, e25, e59, e9, e10, k109, k52, k95, e8, hI⟩⟩
    obtain rfl := h1_ d1_0
    have q := e2 hD_
    subst q
    have f5 : D 5 = false := Bool.eq_false_iff.2 fun h => by rw [k52 h] at hD_; cases hD_
    have f9 : D 9 = false := Bool.eq_false_iff.2 fun h => by rw [k95 h] at f5; cases f5
    rw [List.append_nil] at hI
    refine r_slice1 hI mk_SiTerm (by simp [Value.cells]) (by omega) (by omega) fun b7 w_ hI => ?_
    have hI := Inv.closeRow (A := [.blk b2 (.cells #[.int .i64 c0.head.kind, .int .i64 c0.head.n, .string c0.head.name, kc0, .slice (some ⟨bb, bo, none⟩) c0.body.length bcap] t_iClause), .blk b3 (.cells ds.toArray t_iClause), .blk b4 (.cells #[.int .i64 0, .int .i64 0, .string ⟨#[]⟩, .slice none 0 0, .slice none 0 0] t_iClause), .blk b8 (.cells #[.int .i64 e0.head.kind, .int .i64 e0.head.n, .string e0.head.name, ke0, .slice ea e0.body.length ecap] t_iClause), .blk kb (.cells kc2 t_iTerm)]) (cap := 1) (k := 4) (n := 1) hI (by omega) (by simp [maxLen]) (by simp [Value.cells])
    have hR : Rows 4 (RdT S1) [[.int .i64 c0.head.kind, .int .i64 c0.head.n, .string c0.head.name, kc0]] [c0.head] := Rows.one h1S h1S.length
    obtain ⟨rows, hrows⟩ : ∃ rows, rows = [rowG (.slice (some ⟨b7, 0, none⟩) 1 1) t_iTerm 4 [[.int .i64 c0.head.kind, .int .i64 c0.head.n, .string c0.head.name, kc0]]] := ⟨_, rfl⟩
    have hI : Inv w [] ([.blk b2 (.cells #[.int .i64 c0.head.kind, .int .i64 c0.head.n, .string c0.head.name, kc0, .slice (some ⟨bb, bo, none⟩) c0.body.length bcap] t_iClause), .blk b3 (.cells ds.toArray t_iClause), .blk b4 (.cells #[.int .i64 0, .int .i64 0, .string ⟨#[]⟩, .slice none 0 0, .slice none 0 0] t_iClause), .blk b8 (.cells #[.int .i64 e0.head.kind, .int .i64 e0.head.n, .string e0.head.name, ke0, .slice ea e0.body.length ecap] t_iClause), .blk kb (.cells kc2 t_iTerm)] ++ rows) S1 w_ := by rw [hrows]; exact hI
    have e2 := fun (h : setD D 2 2 = false) => (Bool.noConfusion h : rows = [])
    have e25 := fun (_ : setD D 2 2 = true) (_ : setD D 2 5 = false) => (⟨_, hrows, hR⟩ : ∃ css, rows = [rowG (.slice (some ⟨b7, 0, none⟩) 1 1) t_iTerm 4 css] ∧ Rows 4 (RdT S1) css [c0.head])
    have e59 := fun (h : setD D 2 5 = true) (_ : setD D 2 9 = false) => (Bool.noConfusion (f5.symm.trans h) : ∃ css, rows = [rowG x37 t_iTerm 4 css] ∧ Rows 4 (RdT S1) css (c0.head :: e0.body))
    have e9 := fun (h : setD D 2 9 = true) => (Bool.noConfusion (f9.symm.trans h) : ∃ css, rows = [rowG x41 t_iTerm 4 css] ∧ Rows 4 (RdT S1) css (c0.head :: (e0.body ++ c0.body.drop 1)))
    have k52 := fun (_ : setD D 2 5 = true) => (rfl : setD D 2 2 = true)
    exact ⟨h0_, h1_, fun _ => by first | assumption | trivial, h3_, h4_, h5_, h6_, h7_, h8_, h9_, h10_, ⟨rows, e2, e25, e59, e9, e10, k109, k52, k95, e8, hI⟩⟩
  · intro D hD_  x10 x41 x40 x39 x38 x37 x36 x35 x34 x33 x32 w_
    rintro ⟨h0_, h1_, h2_, h3_, h4_, h5_, h6_, h7_, h8_, h9_, h10_, ⟨rows, e2, e25, e59, e9, e10, k109, k52, k95, e8, hI⟩⟩
    refine r_field fo_iClause_1 ?_
    exact ⟨h0_, h1_, h2_, fun _ => rfl, h4_, h5_, h6_, h7_, h8_, h9_, h10_, ⟨rows, e2, e25, e59, e9, e10, k109, k52, k95, e8, hI⟩⟩
  · intro D hD_ d3_0 x10 x41 x40 x39 x38 x37 x36 x35 x34 x33 x32 w_
    rintro ⟨h0_, h1_, h2_, h3_, h4_, h5_, h6_, h7_, h8_, h9_, h10_, ⟨rows, e2, e25, e59, e9, e10, k109, k52, k95, e8, hI⟩⟩
    obtain rfl := h3_ d3_0
    refine r_loadL hI 3 sc_SiTerm rfl rfl ?_
    exact ⟨h0_, h1_, h2_, h3_, fun _ => rfl, h5_, h6_, h7_, h8_, h9_, h10_, ⟨rows, e2, e25, e59, e9, e10, k109, k52, k95, e8, hI⟩⟩
  · intro D hD_ d2_0 d4_1 x10 x41 x40 x39 x38 x37 x36 x35 x34 x33 x32 w_
    rintro ⟨h0_, h1_, h2_, h3_, h4_, h5_, h6_, h7_, h8_, h9_, h10_, ⟨rows, e2, e25, e59, e9, e10, k109, k52, k95, e8, hI⟩⟩
    have g2_ := h2_ d2_0
    obtain rfl := h4_ d4_1
    obtain ⟨css, q, hR⟩ := e25 d2_0 hD_
    subst q
    have f9 : D 9 = false := Bool.eq_false_iff.2 fun h => by rw [k95 h] at hD_; cases hD_
    have hcl := hR.hc
    refine r_appendRd hI 5 mk_SiTerm (by omega) rfl he2 (fun _ _ => RdT.length) (fun _ _ => RdT.one) (by simp at hcl hrl; omega) (by omega) fun v5 w_ css2 hR2 hI => ?_
    have hR := hR.append hR2
    obtain ⟨rows, hrows⟩ : ∃ rows, rows = [rowG v5 t_iTerm 4 (css ++ css2)] := ⟨_, rfl⟩
    have hI : Inv w [] ([.blk b2 (.cells #[.int .i64 c0.head.kind, .int .i64 c0.head.n, .string c0.head.name, kc0, .slice (some ⟨bb, bo, none⟩) c0.body.length bcap] t_iClause), .blk b3 (.cells ds.toArray t_iClause), .blk b4 (.cells #[.int .i64 0, .int .i64 0, .string ⟨#[]⟩, .slice none 0 0, .slice none 0 0] t_iClause), .blk b8 (.cells #[.int .i64 e0.head.kind, .int .i64 e0.head.n, .string e0.head.name, ke0, .slice ea e0.body.length ecap] t_iClause), .blk kb (.cells kc2 t_iTerm)] ++ rows) S1 w_ := by rw [hrows]; exact hI
    have e2 := fun (h : setD D 5 2 = false) => (Bool.noConfusion (d2_0.symm.trans h) : rows = [])
    have e25 := fun (_ : setD D 5 2 = true) (h : setD D 5 5 = false) => (Bool.noConfusion h : ∃ css, rows = [rowG x34 t_iTerm 4 css] ∧ Rows 4 (RdT S1) css [c0.head])
    have e59 := fun (_ : setD D 5 5 = true) (_ : setD D 5 9 = false) => (⟨_, hrows, hR⟩ : ∃ css, rows = [rowG v5 t_iTerm 4 css] ∧ Rows 4 (RdT S1) css (c0.head :: e0.body))
    have e9 := fun (h : setD D 5 9 = true) => (Bool.noConfusion (f9.symm.trans h) : ∃ css, rows = [rowG x41 t_iTerm 4 css] ∧ Rows 4 (RdT S1) css (c0.head :: (e0.body ++ c0.body.drop 1)))
    have k52 := fun (_ : setD D 5 5 = true) => d2_0
    have k95 := fun (_ : setD D 5 9 = true) => (rfl : setD D 5 5 = true)
    exact ⟨h0_, h1_, h2_, h3_, h4_, fun _ => by first | assumption | trivial, h6_, h7_, h8_, h9_, h10_, ⟨rows, e2, e25, e59, e9, e10, k109, k52, k95, e8, hI⟩⟩
  · intro D hD_  x10 x41 x40 x39 x38 x37 x36 x35 x34 x33 x32 w_
    rintro ⟨h0_, h1_, h2_, h3_, h4_, h5_, h6_, h7_, h8_, h9_, h10_, ⟨rows, e2, e25, e59, e9, e10, k109, k52, k95, e8, hI⟩⟩
    refine r_field fo_iClause_1 ?_
    exact ⟨h0_, h1_, h2_, h3_, h4_, h5_, fun _ => rfl, h7_, h8_, h9_, h10_, ⟨rows, e2, e25, e59, e9, e10, k109, k52, k95, e8, hI⟩⟩
  · intro D hD_ d6_0 x10 x41 x40 x39 x38 x37 x36 x35 x34 x33 x32 w_
    rintro ⟨h0_, h1_, h2_, h3_, h4_, h5_, h6_, h7_, h8_, h9_, h10_, ⟨rows, e2, e25, e59, e9, e10, k109, k52, k95, e8, hI⟩⟩
    obtain rfl := h6_ d6_0
    refine r_loadL hI 0 sc_SiTerm rfl rfl ?_
    exact ⟨h0_, h1_, h2_, h3_, h4_, h5_, h6_, fun _ => rfl, h8_, h9_, h10_, ⟨rows, e2, e25, e59, e9, e10, k109, k52, k95, e8, hI⟩⟩
  · intro D hD_ d7_0 x10 x41 x40 x39 x38 x37 x36 x35 x34 x33 x32 w_
    rintro ⟨h0_, h1_, h2_, h3_, h4_, h5_, h6_, h7_, h8_, h9_, h10_, ⟨rows, e2, e25, e59, e9, e10, k109, k52, k95, e8, hI⟩⟩
    obtain rfl := h7_ d7_0
    refine r_sliceFrom (l := 1) sl_SiTerm h2S (by omega) fun v8 hv8 => ?_
    have e8 := fun (_ : setD D 8 8 = true) => hv8
    exact ⟨h0_, h1_, h2_, h3_, h4_, h5_, h6_, h7_, fun _ => by first | assumption | trivial, h9_, h10_, ⟨rows, e2, e25, e59, e9, e10, k109, k52, k95, e8, hI⟩⟩
  · intro D hD_ d5_0 d8_1 d5_2 x10 x41 x40 x39 x38 x37 x36 x35 x34 x33 x32 w_
    rintro ⟨h0_, h1_, h2_, h3_, h4_, h5_, h6_, h7_, h8_, h9_, h10_, ⟨rows, e2, e25, e59, e9, e10, k109, k52, k95, e8, hI⟩⟩
    have g5_ := h5_ d5_0
    have g8_ := h8_ d8_1
    obtain ⟨css, q, hR⟩ := e59 d5_0 hD_
    subst q
    have f10 : D 10 = false := by cases hq : D 10 with | false => rfl | true => exact absurd (k109 hq) (by rw [hD_]; decide)
    have hcl := hR.hc
    have hr8 := e8 d8_1
    refine r_appendRd hI 5 mk_SiTerm (by omega) rfl hr8 (fun _ _ => RdT.length) (fun _ _ => RdT.one) (by simp only [List.length_drop]; simp at hcl hrl; omega) (by omega) fun v9 w_ css2 hR2 hI => ?_
    have hR := hR.append hR2
    rw [List.cons_append] at hR
    obtain ⟨rows, hrows⟩ : ∃ rows, rows = [rowG v9 t_iTerm 4 (css ++ css2)] := ⟨_, rfl⟩
    have hI : Inv w [] ([.blk b2 (.cells #[.int .i64 c0.head.kind, .int .i64 c0.head.n, .string c0.head.name, kc0, .slice (some ⟨bb, bo, none⟩) c0.body.length bcap] t_iClause), .blk b3 (.cells ds.toArray t_iClause), .blk b4 (.cells #[.int .i64 0, .int .i64 0, .string ⟨#[]⟩, .slice none 0 0, .slice none 0 0] t_iClause), .blk b8 (.cells #[.int .i64 e0.head.kind, .int .i64 e0.head.n, .string e0.head.name, ke0, .slice ea e0.body.length ecap] t_iClause), .blk kb (.cells kc2 t_iTerm)] ++ rows) S1 w_ := by rw [hrows]; exact hI
    have d2' := k52 d5_0
    have e2 := fun (h : setD D 9 2 = false) => (Bool.noConfusion (d2'.symm.trans h) : rows = [])
    have e25 := fun (_ : setD D 9 2 = true) (h : setD D 9 5 = false) => (Bool.noConfusion (d5_0.symm.trans h) : ∃ css, rows = [rowG x34 t_iTerm 4 css] ∧ Rows 4 (RdT S1) css [c0.head])
    have e59 := fun (_ : setD D 9 5 = true) (h : setD D 9 9 = false) => (Bool.noConfusion h : ∃ css, rows = [rowG x37 t_iTerm 4 css] ∧ Rows 4 (RdT S1) css (c0.head :: e0.body))
    have e9 := fun (_ : setD D 9 9 = true) => (⟨_, hrows, hR⟩ : ∃ css, rows = [rowG v9 t_iTerm 4 css] ∧ Rows 4 (RdT S1) css (c0.head :: (e0.body ++ c0.body.drop 1)))
    have e10 := fun (h : setD D 9 10 = true) => (Bool.noConfusion (f10.symm.trans h) : x10 = v9)
    have k95 := fun (_ : setD D 9 9 = true) => d5_0
    have k109 := fun (_ : setD D 9 10 = true) => (rfl : setD D 9 9 = true)
    exact ⟨h0_, h1_, h2_, h3_, h4_, h5_, h6_, h7_, h8_, fun _ => by first | assumption | trivial, h10_, ⟨rows, e2, e25, e59, e9, e10, k109, k52, k95, e8, hI⟩⟩
  · intro D hD_ d9_0 d9_1 d0_2 d1_3 d2_4 d3_5 d4_6 d5_7 d6_8 d7_9 d8_10 d9_11 x10 x41 x40 x39 x38 x37 x36 x35 x34 x33 x32 w_
    rintro ⟨h0_, h1_, h2_, h3_, h4_, h5_, h6_, h7_, h8_, h9_, h10_, ⟨rows, e2, e25, e59, e9, e10, k109, k52, k95, e8, hI⟩⟩
    have g9_ := h9_ d9_0
    have e10 := fun (_ : setD D 10 10 = true) => (rfl : x41 = x41)
    have k109 := fun (_ : setD D 10 10 = true) => d9_0
    exact ⟨h0_, h1_, h2_, h3_, h4_, h5_, h6_, h7_, h8_, h9_, fun _ => by first | assumption | trivial, ⟨rows, e2, e25, e59, e9, e10, k109, k52, k95, e8, hI⟩⟩
  intro D d10_ d9_ d8_ d7_ d6_ d5_ d4_ d3_ d2_ d1_ d0_ x10 x41 x40 x39 x38 x37 x36 x35 x34 x33 x32 w_
  rintro ⟨h0_, h1_, h2_, h3_, h4_, h5_, h6_, h7_, h8_, h9_, h10_, ⟨rows, e2, e25, e59, e9, e10, k109, k52, k95, e8, hI⟩⟩
  have g10_ := h10_ d10_
  have g9_ := h9_ d9_
  have g8_ := h8_ d8_
  obtain rfl := h7_ d7_
  obtain rfl := h6_ d6_
  have g5_ := h5_ d5_
  obtain rfl := h4_ d4_
  obtain rfl := h3_ d3_
  have g2_ := h2_ d2_
  obtain rfl := h1_ d1_
  obtain rfl := h0_ d0_
  clear h0_ h1_ h2_ h3_ h4_ h5_ h6_ h7_ h8_ h9_ h10_
  obtain ⟨css, rfl, hR⟩ := e9 d9_
  have q10 := e10 d10_
  subst q10
  clear e2 e25 e59 e9 e10 k109 k52 k95 e8
  obtain ⟨S2, hE2, hrd, hI⟩ := Inv.lendExt (A := [.blk b2 (.cells #[.int .i64 c0.head.kind, .int .i64 c0.head.n, .string c0.head.name, kc0, .slice (some ⟨bb, bo, none⟩) c0.body.length bcap] t_iClause), .blk b3 (.cells ds.toArray t_iClause), .blk b4 (.cells #[.int .i64 0, .int .i64 0, .string ⟨#[]⟩, .slice none 0 0, .slice none 0 0] t_iClause), .blk b8 (.cells #[.int .i64 e0.head.kind, .int .i64 e0.head.n, .string e0.head.name, ke0, .slice ea e0.body.length ecap] t_iClause), .blk kb (.cells kc2 t_iTerm)]) hI
  have hlist := RowRd.rows (hR.monoR fun _ _ h => RdT.mono hE2.1 h) hrd
  have hEa := hE.trans hE2
  have hk2 := hk2.mono hE2.1
  refine r_slice0 hI mk_SiTerm fun v42 w' hI => ?_
  obtain ⟨hlu, hlen⟩ := res_okU hg hus hrok
  have hlen' : us.length = (c0.head :: (e0.body ++ c0.body.drop 1)).length := hlen
  generalize hxs : c0.head :: (e0.body ++ c0.body.drop 1) = xs at hus hrl hrok hlist hlen'
  have hwxs : ∀ x ∈ xs, wT x ≤ 1048576 := by
    intro x hx
    rw [← hxs] at hx
    unfold wC at hwc hwd
    rcases List.mem_cons.1 hx with rfl | hx
    · omega
    · rcases List.mem_append.1 hx with hx | hx
      · have := wL_mem' hx
        rw [← heb, wL_shift] at this
        omega
      · have := wL_mem' (List.mem_of_mem_drop hx)
        omega
  have hI : Inv w [] [.blk b2 (.cells #[.int .i64 c0.head.kind, .int .i64 c0.head.n, .string c0.head.name, kc0, .slice (some ⟨bb, bo, none⟩) c0.body.length bcap] t_iClause), .blk b3 (.cells ds.toArray t_iClause), .blk b4 (.cells #[.int .i64 0, .int .i64 0, .string ⟨#[]⟩, .slice none 0 0, .slice none 0 0] t_iClause), .blk b8 (.cells #[.int .i64 e0.head.kind, .int .i64 e0.head.n, .string e0.head.name, ke0, .slice ea e0.body.length ecap] t_iClause), rowG v42 t_iTerm 4 [], .blk kb (.cells kc2 t_iTerm)] S2 w' := hI.perm (List.Perm.cons _ (List.Perm.cons _ (List.Perm.cons _ (List.Perm.cons _ (List.Perm.swap _ _ _)))))
  refine ⟨fun i t w' => ∃ (j : Nat) (css : List (List Value)) (S' : Store), j ≤ us.length ∧ i = .int .i64 j ∧ Ext w.heap.size [] S2 S' ∧ Rows 4 (RdT S') css (us.take j) ∧ (∀ k (_ : k < us.length), k < j → smallB us[k] = true) ∧ Inv w [] [.blk b2 (.cells #[.int .i64 c0.head.kind, .int .i64 c0.head.n, .string c0.head.name, kc0, .slice (some ⟨bb, bo, none⟩) c0.body.length bcap] t_iClause), .blk b3 (.cells ds.toArray t_iClause), .blk b4 (.cells #[.int .i64 0, .int .i64 0, .string ⟨#[]⟩, .slice none 0 0, .slice none 0 0] t_iClause), .blk b8 (.cells #[.int .i64 e0.head.kind, .int .i64 e0.head.n, .string e0.head.name, ke0, .slice ea e0.body.length ecap] t_iClause), rowG t t_iTerm 4 css, .blk kb (.cells kc2 t_iTerm)] S' w',
    fun i _ _ => us.length - (intOf i).toNat, ⟨0, [], S2, Nat.zero_le _, rfl, Ext.refl _ _ _, Rows.nil _ _, fun k _ h => by omega, hI⟩, ?_⟩
  intro t12 _ _ t11 _ _ _ _ t6 t5 _ _ _ _ _ _ _ _ _ _ _ _ _ _ _ _ _ _ w'
  rintro ⟨j, css3, S3, hj, rfl, hE3, hR3, hdone, hI⟩
  refine r_lenSl (hlist.monoT hE3.1) sl_SiTerm ?_
  refine r_lss ?_
  refine condP (fun hji => ?_) (fun hji => ?_)
  · have hj1 : j < us.length := by omega
    have hj2 : j < xs.length := by omega
    have hm2 := List.getElem_mem hj2
    have hcl3 := hR3.hc
    rw [List.length_take] at hcl3
    refine r_elem hI (hlist.monoT hE3.1) sl_SiTerm ag_iTerm hj2 (fun _ _ => RdT.length) fun cs1 hcs1 => ?_
    have hI : Inv w [] ([.blk b2 (.cells #[.int .i64 c0.head.kind, .int .i64 c0.head.n, .string c0.head.name, kc0, .slice (some ⟨bb, bo, none⟩) c0.body.length bcap] t_iClause), .blk b3 (.cells ds.toArray t_iClause), .blk b4 (.cells #[.int .i64 0, .int .i64 0, .string ⟨#[]⟩, .slice none 0 0, .slice none 0 0] t_iClause), .blk b8 (.cells #[.int .i64 e0.head.kind, .int .i64 e0.head.n, .string e0.head.name, ke0, .slice ea e0.body.length ecap] t_iClause), rowG t11 t_iTerm 4 css3] ++ [.blk kb (.cells kc2 t_iTerm)]) S3 w' := hI
    refine Run.callE fn_s_l6Small nm_s_l6Small hI (l6Small_calls (kp := 52) hg (res_at hus j hj2 hj1) ⟨okUL_mem hrok _ hm2, hwxs _ hm2⟩ hcs1 (hk2.mono hE3.1)) fun v' I' S4 w' => ?_
    rintro ⟨rfl, cs4, hl4, ho4, rfl, hrd4⟩ hE4 hI
    refine r_extract rfl ?_
    refine r_extract rfl ?_
    refine r_alloc hI zo_iTerm fun b13 w' hI => ?_
    have hI := hI.perm (M := .blk b13 _ :: [.blk b2 (.cells #[.int .i64 c0.head.kind, .int .i64 c0.head.n, .string c0.head.name, kc0, .slice (some ⟨bb, bo, none⟩) c0.body.length bcap] t_iClause), .blk b3 (.cells ds.toArray t_iClause), .blk b4 (.cells #[.int .i64 0, .int .i64 0, .string ⟨#[]⟩, .slice none 0 0, .slice none 0 0] t_iClause), .blk b8 (.cells #[.int .i64 e0.head.kind, .int .i64 e0.head.n, .string e0.head.name, ke0, .slice ea e0.body.length ecap] t_iClause), rowG t11 t_iTerm 4 css3, .blk kb (.cells kc2 t_iTerm)]) (List.perm_append_comm (l₁ := [_]))
    refine r_storeW hI 0 rfl ag_iTerm (by simpa using hl4) rfl (by simpa using ho4) fun w' hI => ?_
    refine r_not ?_
    refine condV (fun hsb => ?_) (fun hsb => ?_)
    · have hsf : smallB us[j] = false := by simpa using hsb
      have hoS : o = some none := by
        rcases hsm with ⟨_, h⟩ | ⟨h, _⟩
        · exact h
        · rw [List.all_eq_true] at h
          rw [h _ (List.getElem_mem hj1)] at hsf
          cases hsf
      subst hoS
      refine r_buildClause0 ?_
      have hI : Inv w [] [.blk b13 (.cells cs4.toArray t_iTerm), .blk b2 (.cells #[.int .i64 c0.head.kind, .int .i64 c0.head.n, .string c0.head.name, kc0, .slice (some ⟨bb, bo, none⟩) c0.body.length bcap] t_iClause), .blk b3 (.cells ds.toArray t_iClause), .blk b4 (.cells #[.int .i64 0, .int .i64 0, .string ⟨#[]⟩, .slice none 0 0, .slice none 0 0] t_iClause), .blk b8 (.cells #[.int .i64 e0.head.kind, .int .i64 e0.head.n, .string e0.head.name, ke0, .slice ea e0.body.length ecap] t_iClause), rowG t11 t_iTerm 4 css3, .blk kb (.cells kc2 t_iTerm)] S4 w' := hI
      refine r_storeW hI 3 rfl ag_iClause rfl rfl zeroC_one fun w' hI => ?_
      refine loadV_W hI 3 ag_iClause rfl rfl ?_
      exact ⟨_, _, _, rfl, hI.nil, (hEa.trans hE3).trans hE4, rfl, [.int .i64 0, .int .i64 0, .string ⟨#[]⟩, .slice none 0 0, .slice none 0 0], rfl, RdC.zero _⟩
    · have hst : smallB us[j] = true := by simpa using hsb
      have hR4 := hrd4 hst
      refine r_loadW hI 0 ag_iTerm rfl (by simpa using hl4) ?_
      refine r_append1 hI 5 cs4 mk_SiTerm (by omega) (by omega) rfl hl4 ho4 (by omega) (by omega) fun v64 w' hI => ?_
      have hI : Inv w [] [.blk b2 (.cells #[.int .i64 c0.head.kind, .int .i64 c0.head.n, .string c0.head.name, kc0, .slice (some ⟨bb, bo, none⟩) c0.body.length bcap] t_iClause), .blk b3 (.cells ds.toArray t_iClause), .blk b4 (.cells #[.int .i64 0, .int .i64 0, .string ⟨#[]⟩, .slice none 0 0, .slice none 0 0] t_iClause), .blk b8 (.cells #[.int .i64 e0.head.kind, .int .i64 e0.head.n, .string e0.head.name, ke0, .slice ea e0.body.length ecap] t_iClause), rowG v64 t_iTerm 4 (css3 ++ [cs4]), .blk kb (.cells kc2 t_iTerm)] S4 w' := hI.sub (List.sublist_cons_self _ _)
      refine r_add (by omega) ?_
      refine ⟨⟨j + 1, css3 ++ [cs4], S4, hj1, rfl, hE3.trans hE4, ?_, fun k hk hkj => ?_, hI⟩, by simp [intOf]; omega⟩
      · rw [List.take_succ_eq_append_getElem hj1]
        exact (hR3.monoR fun _ _ h => RdT.mono hE4.1 h).snoc hR4 hl4
      · by_cases e : k = j
        · subst e; exact hst
        · exact hdone k hk (by omega)
  · have hje : j = us.length := by omega
    subst hje
    rw [List.take_length] at hR3
    have hall : us.all smallB = true := by
      rw [List.all_eq_true]
      intro x hx
      obtain ⟨k, hk, rfl⟩ := List.mem_iff_getElem.1 hx
      exact hdone k hk hk
    have hoY : o = some (some (numC (cvars (ofL us)) (ofL us))) := by
      rcases hsm with ⟨h, _⟩ | ⟨_, h⟩
      · rw [hall] at h; cases h
      · exact h
    have hwu := smalls_w hall hlu
    have hI : Inv w [] ([.blk b2 (.cells #[.int .i64 c0.head.kind, .int .i64 c0.head.n, .string c0.head.name, kc0, .slice (some ⟨bb, bo, none⟩) c0.body.length bcap] t_iClause), .blk b3 (.cells ds.toArray t_iClause), .blk b4 (.cells #[.int .i64 0, .int .i64 0, .string ⟨#[]⟩, .slice none 0 0, .slice none 0 0] t_iClause), .blk b8 (.cells #[.int .i64 e0.head.kind, .int .i64 e0.head.n, .string e0.head.name, ke0, .slice ea e0.body.length ecap] t_iClause)] ++ [rowG t11 t_iTerm 4 css3]) S3 w' := hI.pick [true, true, true, true, true, false]
    obtain ⟨S5, hE5, hrd5, hI⟩ := hI.lendExt
    have hru := RowRd.rows (hR3.monoR fun _ _ h => RdT.mono hE5.1 h) hrd5
    have hEb := (hEa.trans hE3).trans hE5
    refine Run.call0E fn_s_l1Renumber nm_s_l1Renumber hI (l1Renumber_calls hru (by omega)) fun v66 I' S6 w' => ?_
    rintro ⟨rfl, M, rfl, hT6⟩ hE6 hI
    obtain ⟨S7, hI, hE7, hins7⟩ := hI.pubExt
    have hrn := hT6.rd hins7 fun _ _ _ hi h => h.rd hi
    have hEc := (hEb.trans hE6).trans hE7
    obtain ⟨u0, us', rfl⟩ : ∃ u0 us', us = u0 :: us' := by
      cases us with
      | nil => rw [← hxs] at hlen'; simp at hlen'
      | cons u us' => exact ⟨u, us', rfl⟩
    have hcl : clO o = ⟨srenT (svarsL (u0 :: us') []) u0, srenL (svarsL (u0 :: us') []) us'⟩ := by rw [hoY]; rfl
    have hfo : fitsO o = true := by rw [hoY]; rfl
    have hok : okSO o = clauseB (clO o) := by rw [hoY]; rfl
    rw [srenL] at hrn
    generalize hvs : svarsL (u0 :: us') [] = vs at hrn hcl
    obtain ⟨hd', hhd'⟩ : ∃ hd', hd' = srenT vs u0 := ⟨_, rfl⟩
    obtain ⟨bd', hbd'⟩ : ∃ bd', bd' = srenL vs us' := ⟨_, rfl⟩
    rw [← hhd', ← hbd'] at hrn hcl
    have hwR : wC (clO o) ≤ 1048576 := by
      rw [hcl]
      have h1 : wT hd' = wT u0 := by rw [hhd', wT_sren]
      have h2 : wL bd' = wL us' := by rw [hbd', wL_sren]
      have h3 : bd'.length = us'.length := by rw [hbd', srenL_len]
      rw [wL] at hwu
      simp only [List.length_cons] at hwu hlen' hrl
      simp only [wC]
      omega
    obtain ⟨nb, no, ncap, nc, nE, nfz, rfl, hnS, hnR⟩ := hrn.at_ (i := 0) (by simp)
    rw [List.getElem_cons_zero] at hnR
    obtain ⟨kn, ec, f1, f2, f3, f4⟩ := RdT.iff.1 hnR
    rw [ec] at hnR
    have hI : Inv w [] [.blk b2 (.cells #[.int .i64 c0.head.kind, .int .i64 c0.head.n, .string c0.head.name, kc0, .slice (some ⟨bb, bo, none⟩) c0.body.length bcap] t_iClause), .blk b3 (.cells ds.toArray t_iClause), .blk b4 (.cells #[.int .i64 0, .int .i64 0, .string ⟨#[]⟩, .slice none 0 0, .slice none 0 0] t_iClause), .blk b8 (.cells #[.int .i64 e0.head.kind, .int .i64 e0.head.n, .string e0.head.name, ke0, .slice ea e0.body.length ecap] t_iClause)] S7 w' := hI
    have hkn : ∃ a n m, kn = .slice a n m := by
      obtain ⟨a, m, e, _⟩ := f4
      exact ⟨_, _, _, e⟩
    obtain ⟨ka, kn1, kn2, hkn⟩ := hkn
    refine ⟨fun D x15 x72 x71 x70 x69 x68 x67 w_ => (D 0 = true → x67 = .slice (some ⟨nb, no, none⟩) (bd'.length + 1) ncap) ∧ (D 1 = true → x68 = .pointer (some ⟨nb, no + 0 * 4, none⟩)) ∧ (D 2 = true → x69 = .agg #[.int .i64 hd'.kind, .int .i64 hd'.n, .string hd'.name, kn]) ∧ (D 3 = true → x70 = .slice (some ⟨nb, no, none⟩) (bd'.length + 1) ncap) ∧ (D 4 = true → RdSl S7 4 (RdT S7) x71 bd') ∧ (D 5 = true → ∃ kb, x72 = .agg #[.int .i64 hd'.kind, .int .i64 hd'.n, .string hd'.name, kn, kb] ∧ RdSl S7 4 (RdT S7) kb bd') ∧ (D 6 = true → True) ∧ (D 7 = true → True) ∧ ∃ b15 B15, (D 6 = true → x15 = .pointer (some ⟨b15, 0, none⟩)) ∧ (D 7 = true → D 6 = true) ∧ (D 7 = false → B15 = #[.int .i64 0, .int .i64 0, .string ⟨#[]⟩, .slice none 0 0, .slice none 0 0]) ∧ (D 7 = true → ∃ kb, B15 = #[.int .i64 hd'.kind, .int .i64 hd'.n, .string hd'.name, kn, kb] ∧ RdSl S7 4 (RdT S7) kb bd') ∧ Inv w [] ([.blk b2 (.cells #[.int .i64 c0.head.kind, .int .i64 c0.head.n, .string c0.head.name, kc0, .slice (some ⟨bb, bo, none⟩) c0.body.length bcap] t_iClause), .blk b3 (.cells ds.toArray t_iClause), .blk b4 (.cells #[.int .i64 0, .int .i64 0, .string ⟨#[]⟩, .slice none 0 0, .slice none 0 0] t_iClause), .blk b8 (.cells #[.int .i64 e0.head.kind, .int .i64 e0.head.n, .string e0.head.name, ke0, .slice ea e0.body.length ecap] t_iClause)] ++ cond (D 6) [.blk b15 (.cells B15 t_iClause)] []) S7 w_, ⟨fun h => Bool.noConfusion h, fun h => Bool.noConfusion h, fun h => Bool.noConfusion h, fun h => Bool.noConfusion h, fun h => Bool.noConfusion h, fun h => Bool.noConfusion h, fun h => Bool.noConfusion h, fun h => Bool.noConfusion h, ⟨0, _, fun h => Bool.noConfusion h, fun h => Bool.noConfusion h, fun _ => rfl, fun h => Bool.noConfusion h, hI.draw⟩⟩, ⟨?_, ?_, ?_, ?_, ?_, ?_, ?_, ?_, trivial⟩, ?_⟩
    · intro D hD_  x15 x72 x71 x70 x69 x68 x67 w_
      rintro ⟨h0_, h1_, h2_, h3_, h4_, h5_, h6_, h7_, ⟨b15, B15, e6, k76, e7f, e7, hI⟩⟩
      exact ⟨fun _ => rfl, h1_, h2_, h3_, h4_, h5_, h6_, h7_, ⟨b15, B15, e6, k76, e7f, e7, hI⟩⟩
    · intro D hD_ d0_0 x15 x72 x71 x70 x69 x68 x67 w_
      rintro ⟨h0_, h1_, h2_, h3_, h4_, h5_, h6_, h7_, ⟨b15, B15, e6, k76, e7f, e7, hI⟩⟩
      obtain rfl := h0_ d0_0
      refine r_indexAddr (i := 0) sl_SiTerm (by simp) ?_
      exact ⟨h0_, fun _ => rfl, h2_, h3_, h4_, h5_, h6_, h7_, ⟨b15, B15, e6, k76, e7f, e7, hI⟩⟩
    · intro D hD_ d1_0 x15 x72 x71 x70 x69 x68 x67 w_
      rintro ⟨h0_, h1_, h2_, h3_, h4_, h5_, h6_, h7_, ⟨b15, B15, e6, k76, e7f, e7, hI⟩⟩
      obtain rfl := h1_ d1_0
      refine r_loadA (cs := [.int .i64 hd'.kind, .int .i64 hd'.n, .string hd'.name, kn]) ag_iTerm rfl (fun j v hj => by rw [hI.cellS hnS]; exact cellsAt_get ec j v hj) ?_
      exact ⟨h0_, h1_, fun _ => rfl, h3_, h4_, h5_, h6_, h7_, ⟨b15, B15, e6, k76, e7f, e7, hI⟩⟩
    · intro D hD_  x15 x72 x71 x70 x69 x68 x67 w_
      rintro ⟨h0_, h1_, h2_, h3_, h4_, h5_, h6_, h7_, ⟨b15, B15, e6, k76, e7f, e7, hI⟩⟩
      exact ⟨h0_, h1_, h2_, fun _ => rfl, h4_, h5_, h6_, h7_, ⟨b15, B15, e6, k76, e7f, e7, hI⟩⟩
    · intro D hD_ d3_0 x15 x72 x71 x70 x69 x68 x67 w_
      rintro ⟨h0_, h1_, h2_, h3_, h4_, h5_, h6_, h7_, ⟨b15, B15, e6, k76, e7f, e7, hI⟩⟩
      obtain rfl := h3_ d3_0
      refine r_sliceFrom (l := 1) sl_SiTerm hrn (by simp) fun kb1 hkb => ?_
      rw [List.drop_succ_cons, List.drop_zero] at hkb
      exact ⟨h0_, h1_, h2_, h3_, fun _ => by first | assumption | trivial, h5_, h6_, h7_, ⟨b15, B15, e6, k76, e7f, e7, hI⟩⟩
    · intro D hD_ d2_0 d4_1 x15 x72 x71 x70 x69 x68 x67 w_
      rintro ⟨h0_, h1_, h2_, h3_, h4_, h5_, h6_, h7_, ⟨b15, B15, e6, k76, e7f, e7, hI⟩⟩
      obtain rfl := h2_ d2_0
      have g4_ := h4_ d4_1
      refine r_buildClause ?_ ?_
      · obtain ⟨a, m, e, _⟩ := g4_
        exact ⟨_, _, _, e⟩
      have hnew : ∃ kb, Value.agg #[.int .i64 hd'.kind, .int .i64 hd'.n, .string hd'.name, kn, x71] = .agg #[.int .i64 hd'.kind, .int .i64 hd'.n, .string hd'.name, kn, kb] ∧ RdSl S7 4 (RdT S7) kb bd' := ⟨_, rfl, g4_⟩
      exact ⟨h0_, h1_, h2_, h3_, h4_, fun _ => by first | assumption | trivial, h6_, h7_, ⟨b15, B15, e6, k76, e7f, e7, hI⟩⟩
    · intro D hD_  x15 x72 x71 x70 x69 x68 x67 w_
      rintro ⟨h0_, h1_, h2_, h3_, h4_, h5_, h6_, h7_, ⟨b15, B15, e6, k76, e7f, e7, hI⟩⟩
      have f7 : D 7 = false := Bool.eq_false_iff.2 fun h => by rw [k76 h] at hD_; cases hD_
      rw [hD_] at hI
      refine r_alloc hI zo_iClause fun b15 w_ hI => ?_
      have hB := e7f f7
      have e6 := fun (_ : setD D 6 6 = true) => (rfl : Value.pointer (some ⟨b15, 0, none⟩) = _)
      have k76 := fun (_ : setD D 6 7 = true) => (rfl : setD D 6 6 = true)
      have hI : Inv w [] ([.blk b2 (.cells #[.int .i64 c0.head.kind, .int .i64 c0.head.n, .string c0.head.name, kc0, .slice (some ⟨bb, bo, none⟩) c0.body.length bcap] t_iClause), .blk b3 (.cells ds.toArray t_iClause), .blk b4 (.cells #[.int .i64 0, .int .i64 0, .string ⟨#[]⟩, .slice none 0 0, .slice none 0 0] t_iClause), .blk b8 (.cells #[.int .i64 e0.head.kind, .int .i64 e0.head.n, .string e0.head.name, ke0, .slice ea e0.body.length ecap] t_iClause)] ++ cond true [.blk b15 (.cells B15 t_iClause)] []) S7 w_ := by rw [hB]; exact hI
      exact ⟨h0_, h1_, h2_, h3_, h4_, h5_, fun _ => by first | assumption | trivial, h7_, ⟨b15, B15, e6, k76, e7f, e7, hI⟩⟩
    · intro D hD_ d6_0 d5_1 d0_2 d1_3 d2_4 d3_5 d4_6 d5_7 d6_8 x15 x72 x71 x70 x69 x68 x67 w_
      rintro ⟨h0_, h1_, h2_, h3_, h4_, h5_, h6_, h7_, ⟨b15, B15, e6, k76, e7f, e7, hI⟩⟩
      have g6_ := h6_ d6_0
      have g5_ := h5_ d5_1
      have q6 := e6 d6_0
      subst q6
      obtain ⟨kb1, q72, hkb⟩ := g5_
      rw [d6_0, e7f hD_] at hI
      obtain ⟨a1, m1, hka, _⟩ := id hkb
      subst q72
      refine r_storeW hI 4 rfl ag_iClause rfl rfl (by simp [Value.oneCell', hkn, hka]) fun w_ hI => ?_
      obtain ⟨B15, hq⟩ : ∃ B15, B15 = (#[.int .i64 hd'.kind, .int .i64 hd'.n, .string hd'.name, kn, kb1] : Array Value) := ⟨_, rfl⟩
      have k76 := fun (_ : setD D 7 7 = true) => d6_0
      have e7f := fun (h : setD D 7 7 = false) => (Bool.noConfusion h : B15 = #[.int .i64 0, .int .i64 0, .string ⟨#[]⟩, .slice none 0 0, .slice none 0 0])
      have e7 := fun (_ : setD D 7 7 = true) => (⟨kb1, hq, hkb⟩ : ∃ kb, B15 = #[.int .i64 hd'.kind, .int .i64 hd'.n, .string hd'.name, kn, kb] ∧ RdSl S7 4 (RdT S7) kb bd')
      have hI : Inv w [] ([.blk b2 (.cells #[.int .i64 c0.head.kind, .int .i64 c0.head.n, .string c0.head.name, kc0, .slice (some ⟨bb, bo, none⟩) c0.body.length bcap] t_iClause), .blk b3 (.cells ds.toArray t_iClause), .blk b4 (.cells #[.int .i64 0, .int .i64 0, .string ⟨#[]⟩, .slice none 0 0, .slice none 0 0] t_iClause), .blk b8 (.cells #[.int .i64 e0.head.kind, .int .i64 e0.head.n, .string e0.head.name, ke0, .slice ea e0.body.length ecap] t_iClause)] ++ cond (D 6) [.blk b15 (.cells B15 t_iClause)] []) S7 w_ := by rw [d6_0, hq]; exact hI
      exact ⟨h0_, h1_, h2_, h3_, h4_, h5_, h6_, fun _ => trivial, ⟨b15, B15, e6, k76, e7f, e7, hI⟩⟩
    intro D d7_ d6_ d5_ d4_ d3_ d2_ d1_ d0_ x15 x72 x71 x70 x69 x68 x67 w_
    rintro ⟨h0_, h1_, h2_, h3_, h4_, h5_, h6_, h7_, ⟨b15, B15, e6, k76, e7f, e7, hI⟩⟩
    have g6_ := h6_ d6_
    have g5_ := h5_ d5_
    have g4_ := h4_ d4_
    obtain rfl := h3_ d3_
    obtain rfl := h2_ d2_
    obtain rfl := h1_ d1_
    obtain rfl := h0_ d0_
    clear h0_ h1_ h2_ h3_ h4_ h5_ h6_ h7_
    have q15 := e6 d6_
    subst q15
    obtain ⟨kb1, rfl, hkb⟩ := e7 d7_
    rw [d6_] at hI
    clear e6 k76 e7f e7
    obtain ⟨a1, m1, hka, _⟩ := id hkb
    have hI : Inv w [] [.blk b2 (.cells #[.int .i64 c0.head.kind, .int .i64 c0.head.n, .string c0.head.name, kc0, .slice (some ⟨bb, bo, none⟩) c0.body.length bcap] t_iClause), .blk b3 (.cells ds.toArray t_iClause), .blk b4 (.cells #[.int .i64 0, .int .i64 0, .string ⟨#[]⟩, .slice none 0 0, .slice none 0 0] t_iClause), .blk b8 (.cells #[.int .i64 e0.head.kind, .int .i64 e0.head.n, .string e0.head.name, ke0, .slice ea e0.body.length ecap] t_iClause), .blk b15 (.cells #[.int .i64 hd'.kind, .int .i64 hd'.n, .string hd'.name, kn, kb1] t_iClause)] S7 w_ := hI
    have hRC : RdC S7 [.int .i64 hd'.kind, .int .i64 hd'.n, .string hd'.name, kn, kb1] (clO o) := by
      rw [hcl]
      exact ⟨_, _, rfl, hnR, hkb⟩
    have hone : ∀ x ∈ ([.int .i64 hd'.kind, .int .i64 hd'.n, .string hd'.name, kn, kb1] : List Value), x.oneCell' = true := hRC.one
    refine ⟨fun D x6 x5 x75 x74 x73 w_ => (D 0 = true → x73 = .agg #[.int .i64 hd'.kind, .int .i64 hd'.n, .string hd'.name, kn, kb1]) ∧ (D 1 = true → x74 = .agg #[.int .i64 hd'.kind, .int .i64 hd'.n, .string hd'.name, kn, kb1]) ∧ (D 2 = true → x75 = .bool (clauseB (clO o))) ∧ (D 3 = true → True) ∧ (D 4 = true → x5 = .bool true) ∧ (D 5 = true → x6 = .bool (clauseB (clO o))) ∧ Inv w [] [.blk b2 (.cells #[.int .i64 c0.head.kind, .int .i64 c0.head.n, .string c0.head.name, kc0, .slice (some ⟨bb, bo, none⟩) c0.body.length bcap] t_iClause), .blk b3 (.cells ds.toArray t_iClause), .blk b4 (.cells (cond (D 3) #[.int .i64 hd'.kind, .int .i64 hd'.n, .string hd'.name, kn, kb1] #[.int .i64 0, .int .i64 0, .string ⟨#[]⟩, .slice none 0 0, .slice none 0 0]) t_iClause), .blk b8 (.cells #[.int .i64 e0.head.kind, .int .i64 e0.head.n, .string e0.head.name, ke0, .slice ea e0.body.length ecap] t_iClause), .blk b15 (.cells #[.int .i64 hd'.kind, .int .i64 hd'.n, .string hd'.name, kn, kb1] t_iClause)] S7 w_, ⟨fun h => Bool.noConfusion h, fun h => Bool.noConfusion h, fun h => Bool.noConfusion h, fun h => Bool.noConfusion h, fun h => Bool.noConfusion h, fun h => Bool.noConfusion h, hI.draw⟩, ⟨?_, ?_, ?_, ?_, ?_, ?_, trivial⟩, ?_⟩
    · intro D hD_  x6 x5 x75 x74 x73 w_
      rintro ⟨h0_, h1_, h2_, h3_, h4_, h5_, hI⟩
      refine r_loadW hI 4 ag_iClause rfl rfl ?_
      exact ⟨fun _ => rfl, h1_, h2_, h3_, h4_, h5_, hI⟩
    · intro D hD_  x6 x5 x75 x74 x73 w_
      rintro ⟨h0_, h1_, h2_, h3_, h4_, h5_, hI⟩
      refine r_loadW hI 4 ag_iClause rfl rfl ?_
      exact ⟨h0_, fun _ => rfl, h2_, h3_, h4_, h5_, hI⟩
    · intro D hD_ d1_0 x6 x5 x75 x74 x73 w_
      rintro ⟨h0_, h1_, h2_, h3_, h4_, h5_, hI⟩
      obtain rfl := h1_ d1_0
      refine Run.callPure fn_s_ClauseValid nm_s_ClauseValid hI (sClauseValid_calls hRC hwR) fun w_ hI => ?_
      exact ⟨h0_, h1_, fun _ => rfl, h3_, h4_, h5_, hI⟩
    · intro D hD_ d0_0 d2_1 d0_2 x6 x5 x75 x74 x73 w_
      rintro ⟨h0_, h1_, h2_, h3_, h4_, h5_, hI⟩
      obtain rfl := h0_ d0_0
      rw [hD_] at hI
      refine r_storeW hI 2 rfl ag_iClause rfl rfl hone fun w_ hI => ?_
      exact ⟨h0_, h1_, h2_, fun _ => trivial, h4_, h5_, hI⟩
    · intro D hD_ d3_0 d0_1 d3_2 x6 x5 x75 x74 x73 w_
      rintro ⟨h0_, h1_, h2_, h3_, h4_, h5_, hI⟩
      exact ⟨h0_, h1_, h2_, h3_, fun _ => rfl, h5_, hI⟩
    · intro D hD_ d2_0 d4_1 d0_2 d1_3 d2_4 d3_5 d4_6 x6 x5 x75 x74 x73 w_
      rintro ⟨h0_, h1_, h2_, h3_, h4_, h5_, hI⟩
      obtain rfl := h2_ d2_0
      exact ⟨h0_, h1_, h2_, h3_, h4_, fun _ => rfl, hI⟩
    intro D d5_ d4_ d3_ d2_ d1_ d0_ x6 x5 x75 x74 x73 w_
    rintro ⟨h0_, h1_, h2_, h3_, h4_, h5_, hI⟩
    obtain rfl := h5_ d5_
    obtain rfl := h4_ d4_
    obtain rfl := h2_ d2_
    obtain rfl := h1_ d1_
    obtain rfl := h0_ d0_
    clear h0_ h1_ h2_ h3_ h4_ h5_
    rw [d3_] at hI
    refine loadV_W (c := #[.int .i64 hd'.kind, .int .i64 hd'.n, .string hd'.name, kn, kb1]) hI 2 ag_iClause rfl rfl ?_
    exact ⟨_, _, _, rfl, hI.nil, hEc, rfl, [.int .i64 hd'.kind, .int .i64 hd'.n, .string hd'.name, kn, kb1], by rw [hfo, hok], hRC⟩
end

end Go.Proofs.YtaaihodhhacapaaGreat

/- impl: walks and occurrence. -/
namespace Go.Proofs.YtaaihodhhacapaaGreat
open Go Go.RowKit
section
variable {P : Program} {w w0 : World} {X : List Nat} {L : List Item} {S : Store} {K : Value → World → Prop}
attribute [local irreducible] Run CondV GuardV LoadV
theorem lookup_run {T kt et ty : TypeId} {b clock : Nat} {es : Array MapEntry} {n : Int} {z v : Value} {ok c : Bool} (hb : w.heap[b]? = some (.map es clock)) (hT : P.underlying T = some (.map kt et)) (hkt : P.underlying kt = some (.int .i64))
    (hz : zeroOf P et = some z) (hf : (∃ j, Instr.findNow (.int .i64) (.int .i64 n) es.toList 0 = some (some (j, v)) ∧ ok = true) ∨ (Instr.findNow (.int .i64) (.int .i64 n) es.toList 0 = some none ∧ v = z ∧ ok = false))
    (hk : K (cond c (.tuple #[v, .bool ok]) v) w) : Run P (sOp (.lookup T (.const (.map (some b))) (.const (.int .i64 n)) c) ty) w K := by
  have hck : ∀ e, (Instr.checkKey e 10000 kt (.int .i64 n)).run P w = .ok () w := fun e => by
    rw [show (10000 : Nat) = 9999 + 1 from rfl, Instr.checkKey]
    simp [run_underlying hkt]
  obtain ⟨inf, hi1, hi2⟩ : ∃ inf, P.info? et = some inf ∧ inf.zero = some z := by
    unfold zeroOf at hz
    cases hinf : P.info? et with
    | none => rw [hinf] at hz; simp at hz
    | some inf => rw [hinf] at hz; exact ⟨inf, rfl, by simpa using hz⟩
  have hzv : (zeroValue et).run P w = .ok z w := by simp [zeroValue, typeInfo, hi1, hi2]
  refine Run.of ?_ hk
  have hg : (getObj b).run P w = .ok (.map es clock) w := by simp [getObj, Sem.run, hb]
  rcases hf with ⟨j, hf, rfl⟩ | ⟨hf, rfl, rfl⟩
  · have hfk := run_findKeyI (P := P) (w := w) hkt hf
    cases c <;> simp [sOp, execOp, ev0, evE, Instr.lookup, run_underlying hT, hg, hck, hfk]
  · have hfk := run_findKeyI (P := P) (w := w) hkt hf
    cases c <;> simp [sOp, execOp, ev0, evE, Instr.lookup, run_underlying hT, hg, hck, hfk, hzv]
end
section
attribute [local irreducible] Run CondV GuardV LoadV
/- slices.ContainsFunc with a function that changes what it is lent -/
theorem IndexFunc_rel {f : FuncId} {fn : Func} {cap : List Value} {S0 S : Store} {v : Value} {xs : List T} (hf : Tryz.prog.funcs[f]? = some fn) (hn : (fn.name == "runtime.NumGoroutine" || fn.body.isNone) = false) (hle : Sle S0 S)
    (h : RdSl S0 4 (RdT S0) v xs) {J : Nat → List Item → Prop} {Fin : List Item → Prop}
    (hcall : ∀ i (_ : i < xs.length) (cs : List Value) (I : List Item), RdT S0 cs xs[i] → J i I → Tri Tryz.prog f (.agg cs.toArray :: cap) I S fun r I' S' => S' = S ∧ ∃ b, r = .bool b ∧ (b = true → Fin I') ∧ (b = false → J (i + 1) I'))
    {I : List Item} (hJ : J 0 I) : Tri Tryz.prog n_x_IndexFunc_Term [v, fv f cap] I S fun r I' S' => S' = S ∧ ∃ k : Int, r = .int .i64 k ∧ (0 ≤ k → Fin I') ∧ (k < 0 → J xs.length I') := by
  intro w hI
  have h : RdSl S 4 (RdT S0) v xs := h.mono hle fun _ _ h => h
  have hlen := h.le
  simp only [maxLen] at hlen
  obtain ⟨X, hX⟩ : ∃ X, X = feet I := ⟨_, rfl⟩
  rw [← hX] at hI ⊢
  refine calls_x_IndexFunc_Term ?_
  unfold sh_x_IndexFunc_Term
  refine r_lenSl h sl_SiTerm ?_
  refine ⟨fun i w' => ∃ (j : Nat) (I' : List Item), j ≤ xs.length ∧ i = .int .i64 j ∧ J j I' ∧ Inv w X I' S w', fun i _ => xs.length - (intOf i).toNat, ⟨0, I, Nat.zero_le _, rfl, hJ, hI⟩, ?_⟩
  intro t8 _ _ _ _ _ _ _ _ _ _ _ _ w'
  rintro ⟨j, I', hj, rfl, hJ', hI⟩
  refine r_lss ?_
  refine condP (fun hji => ?_) (fun hji => ?_)
  · have hj' : j < xs.length := by omega
    refine r_elem hI h sl_SiTerm ag_iTerm hj' (fun _ _ => RdT.length) fun cs hcs => ?_
    have hI : Inv w X ([] ++ I') S w' := hI
    refine Run.callVE (A := []) hf hn hI (hcall j hj' cs I' hcs hJ') fun v' I2 S2 w' => ?_
    rintro ⟨eS, b, rfl, hb1, hb2⟩ _ hI
    rw [eS] at hI
    clear eS
    have hI : Inv w X I2 S w' := hI
    refine condV (fun hb => ?_) (fun hb => ?_)
    · exact ⟨_, _, _, rfl, hI, Ext.refl _ _ _, rfl, j, rfl, fun _ => hb1 hb, fun h => by omega⟩
    · refine r_add (by omega) ?_
      exact ⟨⟨j + 1, I2, hj', rfl, hb2 hb, hI⟩, by simp [intOf]; omega⟩
  · have : j = xs.length := by omega
    subst this
    exact ⟨_, _, _, rfl, hI, Ext.refl _ _ _, rfl, -1, rfl, fun h => by omega, fun _ => hJ'⟩
theorem ContainsFunc_rel {f : FuncId} {fn : Func} {cap : List Value} {S0 S : Store} {v : Value} {xs : List T} (hf : Tryz.prog.funcs[f]? = some fn) (hn : (fn.name == "runtime.NumGoroutine" || fn.body.isNone) = false) (hle : Sle S0 S)
    (h : RdSl S0 4 (RdT S0) v xs) {J : Nat → List Item → Prop} {Fin : List Item → Prop}
    (hcall : ∀ i (_ : i < xs.length) (cs : List Value) (I : List Item), RdT S0 cs xs[i] → J i I → Tri Tryz.prog f (.agg cs.toArray :: cap) I S fun r I' S' => S' = S ∧ ∃ b, r = .bool b ∧ (b = true → Fin I') ∧ (b = false → J (i + 1) I'))
    {I : List Item} (hJ : J 0 I) : Tri Tryz.prog n_x_ContainsFunc_Term [v, fv f cap] I S fun r I' S' => S' = S ∧ ∃ b, r = .bool b ∧ (b = true → Fin I') ∧ (b = false → J xs.length I') := by
  intro w hI
  obtain ⟨X, hX⟩ : ∃ X, X = feet I := ⟨_, rfl⟩
  rw [← hX] at hI ⊢
  refine calls_x_ContainsFunc_Term ?_
  unfold sh_x_ContainsFunc_Term
  have hI : Inv w X ([] ++ I) S w := hI
  refine Run.callE (A := []) fn_x_IndexFunc_Term nm_x_IndexFunc_Term hI (IndexFunc_rel hf hn hle h hcall hJ) fun v' I2 S2 w' => ?_
  rintro ⟨eS, k, rfl, h1, h2⟩ _ hI
  rw [eS] at hI
  refine r_geq ?_
  exact ⟨_, _, _, rfl, hI, Ext.refl _ _ _, rfl, _, rfl, fun hb => h1 (of_decide_eq_true hb), fun hb => h2 (by have := of_decide_eq_false hb; omega)⟩
/- the store of impl in published memory -/
def StS (S0 S : Store) (sb : Nat) (st : Known) : Prop := ∃ mb tv es ck E, S sb = some (.cells #[.map (some mb), tv] E) ∧ S mb = some (.map es ck) ∧ KnownM S0 es st
theorem StS.mono {S0 S S' : Store} {sb : Nat} {st : Known} (h : StS S0 S sb st) (hs : Sle S S') : StS S0 S' sb st := by
  obtain ⟨mb, tv, es, ck, E, h1, h2, h3⟩ := h
  exact ⟨mb, tv, es, ck, E, hs _ _ h1, hs _ _ h2, h3⟩
theorem StS.find {S0 S : Store} {sb : Nat} {N : Nat} {st : Known} (h : StS S0 S sb st) {t : T} (hk : t.kind = 1) (ht : okU N t) : ∃ mb tv es ck E vv ok, S sb = some (.cells #[.map (some mb), tv] E) ∧ S mb = some (.map es ck) ∧
    ((∃ j, Instr.findNow (.int .i64) (.int .i64 t.n) es.toList 0 = some (some (j, .agg (List.toArray vv))) ∧ ok = true) ∨ (Instr.findNow (.int .i64) (.int .i64 t.n) es.toList 0 = some none ∧ (Value.agg (List.toArray vv)) = .agg #[.int .i64 0, .int .i64 0, .string ⟨#[]⟩, .slice none 0 0] ∧ ok = false)) ∧
    vv.length = 4 ∧ (∀ x ∈ vv, x.oneCell' = true) ∧ (ok = true → ∃ u, look st t = some u ∧ RdT S0 vv u) ∧ (ok = false → look st t = none) := by
  obtain ⟨mb, tv, es, ck, E, h1, h2, h3⟩ := h
  obtain ⟨hn0, _⟩ := ht.var hk
  obtain ⟨j, hj⟩ : ∃ j : Nat, t.n = j := ⟨t.n.toNat, by omega⟩
  have hlk : look st t = (st[j]?).join := by rw [look, if_pos hk, hj, Int.toNat_natCast]
  rw [hj, hlk]
  rcases h3.find j with ⟨q, v, u, cs, hf, rfl, hR, hs⟩ | ⟨hno, hf⟩
  · exact ⟨mb, tv, es, ck, E, cs, true, h1, h2, .inl ⟨q, hf, rfl⟩, hR.length, hR.one, fun _ => ⟨u, by rw [hs]; rfl, hR⟩, fun h => by cases h⟩
  · refine ⟨mb, tv, es, ck, E, [.int .i64 0, .int .i64 0, .string ⟨#[]⟩, .slice none 0 0], false, h1, h2, .inr ⟨hf, rfl, rfl⟩, rfl, by simp [Value.oneCell'], fun h => (by cases h), fun _ => ?_⟩
    cases hs : st[j]? with
    | none => rfl
    | some o =>
      cases o with
      | none => rfl
      | some u => exact absurd hs (hno u)
theorem i_walk_calls {N : Nat} {st : Known} (hg : Good N st) {t v : T} (hw : WalkR st t v) (ht : okU N t) {S0 S : Store} {cs : List Value} {sb : Nat} (hst : StS S0 S sb st) (h : RdT S0 cs t) :
    Tri Tryz.prog n_i_store_walk [.pointer (some ⟨sb, 0, none⟩), .agg cs.toArray] [] S fun r I' S' => S' = S ∧ I' = [] ∧ ∃ cs', r = .agg cs'.toArray ∧ RdT S0 cs' v := by
  intro w hI
  have hI : Inv w [] [] S w := hI
  obtain ⟨r, hr⟩ := hg.rk
  refine calls_i_store_walk ?_
  unfold sh_i_store_walk
  refine r_box hI fun b3 w' hI => ?_
  refine r_alloc hI zo_iTerm fun b4 w' hI => ?_
  have hI : Inv w [] [.blk b3 (.cells cs.toArray t_iTerm), .blk b4 (.cells #[.int .i64 0, .int .i64 0, .string ⟨#[]⟩, .slice none 0 0] t_iTerm)] S w' := hI
  refine ⟨fun w' => ∃ cs', RdT S0 cs' v ∧ Inv w [] [.blk b3 (.cells cs'.toArray t_iTerm), .blk b4 (.cells #[.int .i64 0, .int .i64 0, .string ⟨#[]⟩, .slice none 0 0] t_iTerm)] S w', ?_, ?_⟩
  · refine ⟨fun w' => ∃ (t' : T) (cs' : List Value), WalkR st t' v ∧ okU N t' ∧ RdT S0 cs' t' ∧ Inv w [] [.blk b3 (.cells cs'.toArray t_iTerm), .blk b4 (.cells #[.int .i64 0, .int .i64 0, .string ⟨#[]⟩, .slice none 0 0] t_iTerm)] S w',
      fun w' => rankW b3 r st w', ⟨t, cs, hw, ht, h, hI⟩, ?_⟩
    intro _ _ _ t6 t5 t19 t18 t10 t17 t16 t15 t14 t13 t12 t11 _ _ _ w'
    rintro ⟨t', cs', hw', ht', hcs', hI⟩
    have hrank := rankW_eq hI (i := 0) rfl hcs' r st
    have hcs0 := hcs'
    obtain ⟨kv, rfl, _⟩ := RdT.iff.1 hcs'
    refine r_fieldL hI 0 rfl fo_iTerm_0 sc_int rfl ?_
    refine r_eql ?_
    refine condP (fun hk1 => ?_) (fun hk1 => ?_)
    · obtain ⟨mb, tv, es, ck, E, vv, ok, hsb, hmb, hfind, hvl, hvo, hyes, hno⟩ := hst.find hk1 ht'
      refine ⟨fun D x6 x5 x19 x18 x10 x17 x16 x15 x14 x13 x12 x11 w_ => (D 0 = true → x11 = .pointer (some ⟨sb, 0, none⟩)) ∧ (D 1 = true → x12 = .pointer (some ⟨sb, 0, none⟩)) ∧ (D 2 = true → x13 = .pointer (some ⟨sb, 0, none⟩)) ∧ (D 3 = true → x14 = .map (some mb)) ∧ (D 4 = true → x15 = .pointer (some ⟨b3, 1, none⟩)) ∧ (D 5 = true → x16 = .int .i64 t'.n) ∧ (D 6 = true → x17 = .tuple #[.agg vv.toArray, .bool ok]) ∧ (D 7 = true → x10 = .tuple #[.agg vv.toArray, .bool ok]) ∧ (D 8 = true → x18 = .agg vv.toArray) ∧ (D 9 = true → x19 = .bool ok) ∧ (D 10 = true → True) ∧ (D 11 = true → True) ∧ (D 12 = true → x6 = .bool ok) ∧ ∃ b5, (D 10 = true → x5 = .pointer (some ⟨b5, 0, none⟩)) ∧ (D 11 = true → D 10 = true) ∧ Inv w [] ([.blk b3 (.cells #[.int .i64 t'.kind, .int .i64 t'.n, .string t'.name, kv] t_iTerm), .blk b4 (.cells #[.int .i64 0, .int .i64 0, .string ⟨#[]⟩, .slice none 0 0] t_iTerm)] ++ cond (D 10) [.blk b5 (.cells (cond (D 11) vv.toArray #[.int .i64 0, .int .i64 0, .string ⟨#[]⟩, .slice none 0 0]) t_iTerm)] []) S w_, ⟨fun h => Bool.noConfusion h, fun h => Bool.noConfusion h, fun h => Bool.noConfusion h, fun h => Bool.noConfusion h, fun h => Bool.noConfusion h, fun h => Bool.noConfusion h, fun h => Bool.noConfusion h, fun h => Bool.noConfusion h, fun h => Bool.noConfusion h, fun h => Bool.noConfusion h, fun h => Bool.noConfusion h, fun h => Bool.noConfusion h, fun h => Bool.noConfusion h, ⟨0, fun h => Bool.noConfusion h, fun h => Bool.noConfusion h, hI.draw⟩⟩, ⟨?_, ?_, ?_, ?_, ?_, ?_, ?_, ?_, ?_, ?_, ?_, ?_, ?_, trivial⟩, ?_⟩
      · intro D hD_  x6 x5 x19 x18 x10 x17 x16 x15 x14 x13 x12 x11 w_
        rintro ⟨h0_, h1_, h2_, h3_, h4_, h5_, h6_, h7_, h8_, h9_, h10_, h11_, h12_, ⟨b5, e5, k11, hI⟩⟩
        exact ⟨fun _ => rfl, h1_, h2_, h3_, h4_, h5_, h6_, h7_, h8_, h9_, h10_, h11_, h12_, ⟨b5, e5, k11, hI⟩⟩
      · intro D hD_ d0_0 x6 x5 x19 x18 x10 x17 x16 x15 x14 x13 x12 x11 w_
        rintro ⟨h0_, h1_, h2_, h3_, h4_, h5_, h6_, h7_, h8_, h9_, h10_, h11_, h12_, ⟨b5, e5, k11, hI⟩⟩
        obtain rfl := h0_ d0_0
        refine r_nilCheck ?_
        exact ⟨h0_, fun _ => rfl, h2_, h3_, h4_, h5_, h6_, h7_, h8_, h9_, h10_, h11_, h12_, ⟨b5, e5, k11, hI⟩⟩
      · intro D hD_ d1_0 x6 x5 x19 x18 x10 x17 x16 x15 x14 x13 x12 x11 w_
        rintro ⟨h0_, h1_, h2_, h3_, h4_, h5_, h6_, h7_, h8_, h9_, h10_, h11_, h12_, ⟨b5, e5, k11, hI⟩⟩
        obtain rfl := h1_ d1_0
        refine r_field fo_istore_0 ?_
        exact ⟨h0_, h1_, fun _ => rfl, h3_, h4_, h5_, h6_, h7_, h8_, h9_, h10_, h11_, h12_, ⟨b5, e5, k11, hI⟩⟩
      · intro D hD_ d2_0 x6 x5 x19 x18 x10 x17 x16 x15 x14 x13 x12 x11 w_
        rintro ⟨h0_, h1_, h2_, h3_, h4_, h5_, h6_, h7_, h8_, h9_, h10_, h11_, h12_, ⟨b5, e5, k11, hI⟩⟩
        obtain rfl := h2_ d2_0
        refine r_load (by decide +kernel) (by rw [hI.cellS hsb]; rfl) ?_
        exact ⟨h0_, h1_, h2_, fun _ => rfl, h4_, h5_, h6_, h7_, h8_, h9_, h10_, h11_, h12_, ⟨b5, e5, k11, hI⟩⟩
      · intro D hD_  x6 x5 x19 x18 x10 x17 x16 x15 x14 x13 x12 x11 w_
        rintro ⟨h0_, h1_, h2_, h3_, h4_, h5_, h6_, h7_, h8_, h9_, h10_, h11_, h12_, ⟨b5, e5, k11, hI⟩⟩
        refine r_field fo_iTerm_1 ?_
        exact ⟨h0_, h1_, h2_, h3_, fun _ => rfl, h5_, h6_, h7_, h8_, h9_, h10_, h11_, h12_, ⟨b5, e5, k11, hI⟩⟩
      · intro D hD_ d4_0 x6 x5 x19 x18 x10 x17 x16 x15 x14 x13 x12 x11 w_
        rintro ⟨h0_, h1_, h2_, h3_, h4_, h5_, h6_, h7_, h8_, h9_, h10_, h11_, h12_, ⟨b5, e5, k11, hI⟩⟩
        obtain rfl := h4_ d4_0
        refine r_loadL hI 0 sc_int rfl rfl ?_
        exact ⟨h0_, h1_, h2_, h3_, h4_, fun _ => rfl, h6_, h7_, h8_, h9_, h10_, h11_, h12_, ⟨b5, e5, k11, hI⟩⟩
      · intro D hD_ d3_0 d5_1 x6 x5 x19 x18 x10 x17 x16 x15 x14 x13 x12 x11 w_
        rintro ⟨h0_, h1_, h2_, h3_, h4_, h5_, h6_, h7_, h8_, h9_, h10_, h11_, h12_, ⟨b5, e5, k11, hI⟩⟩
        obtain rfl := h3_ d3_0
        obtain rfl := h5_ d5_1
        refine lookup_run (ok := ok) (v := .agg vv.toArray) (hI.pub _ _ hmb).1 un_Mint_iTerm un_int zo_iTerm hfind ?_
        exact ⟨h0_, h1_, h2_, h3_, h4_, h5_, fun _ => rfl, h7_, h8_, h9_, h10_, h11_, h12_, ⟨b5, e5, k11, hI⟩⟩
      · intro D hD_ d6_0 x6 x5 x19 x18 x10 x17 x16 x15 x14 x13 x12 x11 w_
        rintro ⟨h0_, h1_, h2_, h3_, h4_, h5_, h6_, h7_, h8_, h9_, h10_, h11_, h12_, ⟨b5, e5, k11, hI⟩⟩
        obtain rfl := h6_ d6_0
        exact ⟨h0_, h1_, h2_, h3_, h4_, h5_, h6_, fun _ => rfl, h8_, h9_, h10_, h11_, h12_, ⟨b5, e5, k11, hI⟩⟩
      · intro D hD_ d7_0 x6 x5 x19 x18 x10 x17 x16 x15 x14 x13 x12 x11 w_
        rintro ⟨h0_, h1_, h2_, h3_, h4_, h5_, h6_, h7_, h8_, h9_, h10_, h11_, h12_, ⟨b5, e5, k11, hI⟩⟩
        obtain rfl := h7_ d7_0
        refine r_extract rfl ?_
        exact ⟨h0_, h1_, h2_, h3_, h4_, h5_, h6_, h7_, fun _ => rfl, h9_, h10_, h11_, h12_, ⟨b5, e5, k11, hI⟩⟩
      · intro D hD_ d7_0 x6 x5 x19 x18 x10 x17 x16 x15 x14 x13 x12 x11 w_
        rintro ⟨h0_, h1_, h2_, h3_, h4_, h5_, h6_, h7_, h8_, h9_, h10_, h11_, h12_, ⟨b5, e5, k11, hI⟩⟩
        obtain rfl := h7_ d7_0
        refine r_extract rfl ?_
        exact ⟨h0_, h1_, h2_, h3_, h4_, h5_, h6_, h7_, h8_, fun _ => rfl, h10_, h11_, h12_, ⟨b5, e5, k11, hI⟩⟩
      · intro D hD_  x6 x5 x19 x18 x10 x17 x16 x15 x14 x13 x12 x11 w_
        rintro ⟨h0_, h1_, h2_, h3_, h4_, h5_, h6_, h7_, h8_, h9_, h10_, h11_, h12_, ⟨b5, e5, k11, hI⟩⟩
        have f11 : D 11 = false := Bool.eq_false_iff.2 fun h => by rw [k11 h] at hD_; cases hD_
        rw [hD_] at hI
        refine r_alloc hI zo_iTerm fun b5 w_ hI => ?_
        have e5 := fun (_ : setD D 10 10 = true) => (rfl : Value.pointer (some ⟨b5, 0, none⟩) = _)
        have k11 := fun (_ : setD D 10 11 = true) => (rfl : setD D 10 10 = true)
        have hI : Inv w [] ([.blk b3 (.cells #[.int .i64 t'.kind, .int .i64 t'.n, .string t'.name, kv] t_iTerm), .blk b4 (.cells #[.int .i64 0, .int .i64 0, .string ⟨#[]⟩, .slice none 0 0] t_iTerm)] ++ cond true [.blk b5 (.cells (cond (D 11) vv.toArray #[.int .i64 0, .int .i64 0, .string ⟨#[]⟩, .slice none 0 0]) t_iTerm)] []) S w_ := by rw [f11]; exact hI
        exact ⟨h0_, h1_, h2_, h3_, h4_, h5_, h6_, h7_, h8_, h9_, fun _ => by first | assumption | trivial, h11_, h12_, ⟨b5, e5, k11, hI⟩⟩
      · intro D hD_ d10_0 d8_1 d0_2 d1_3 d2_4 d3_5 d4_6 d5_7 d6_8 d7_9 d8_10 d10_11 x6 x5 x19 x18 x10 x17 x16 x15 x14 x13 x12 x11 w_
        rintro ⟨h0_, h1_, h2_, h3_, h4_, h5_, h6_, h7_, h8_, h9_, h10_, h11_, h12_, ⟨b5, e5, k11, hI⟩⟩
        have g10_ := h10_ d10_0
        obtain rfl := h8_ d8_1
        have q5 := e5 d10_0
        subst q5
        rw [hD_, d10_0] at hI
        refine r_storeW hI 2 rfl ag_iTerm (by simpa using hvl) rfl (by simpa using hvo) fun w_ hI => ?_
        have k11 := fun (_ : setD D 11 11 = true) => d10_0
        have hI : Inv w [] ([.blk b3 (.cells #[.int .i64 t'.kind, .int .i64 t'.n, .string t'.name, kv] t_iTerm), .blk b4 (.cells #[.int .i64 0, .int .i64 0, .string ⟨#[]⟩, .slice none 0 0] t_iTerm)] ++ cond (D 10) [.blk b5 (.cells (cond true vv.toArray #[.int .i64 0, .int .i64 0, .string ⟨#[]⟩, .slice none 0 0]) t_iTerm)] []) S w_ := by rw [d10_0]; exact hI
        exact ⟨h0_, h1_, h2_, h3_, h4_, h5_, h6_, h7_, h8_, h9_, h10_, fun _ => trivial, h12_, ⟨b5, e5, k11, hI⟩⟩
      · intro D hD_ d9_0 d11_1 d0_2 d1_3 d2_4 d3_5 d4_6 d5_7 d6_8 d7_9 d8_10 d9_11 d10_12 d11_13 x6 x5 x19 x18 x10 x17 x16 x15 x14 x13 x12 x11 w_
        rintro ⟨h0_, h1_, h2_, h3_, h4_, h5_, h6_, h7_, h8_, h9_, h10_, h11_, h12_, ⟨b5, e5, k11, hI⟩⟩
        obtain rfl := h9_ d9_0
        exact ⟨h0_, h1_, h2_, h3_, h4_, h5_, h6_, h7_, h8_, h9_, h10_, h11_, fun _ => rfl, ⟨b5, e5, k11, hI⟩⟩
      intro D d12_ d11_ d10_ d9_ d8_ d7_ d6_ d5_ d4_ d3_ d2_ d1_ d0_ x6 x5 x19 x18 x10 x17 x16 x15 x14 x13 x12 x11 w_
      rintro ⟨h0_, h1_, h2_, h3_, h4_, h5_, h6_, h7_, h8_, h9_, h10_, h11_, h12_, ⟨b5, e5, k11, hI⟩⟩
      obtain rfl := h12_ d12_
      have g10_ := h10_ d10_
      obtain rfl := h9_ d9_
      obtain rfl := h8_ d8_
      obtain rfl := h7_ d7_
      obtain rfl := h6_ d6_
      obtain rfl := h5_ d5_
      obtain rfl := h4_ d4_
      obtain rfl := h3_ d3_
      obtain rfl := h2_ d2_
      obtain rfl := h1_ d1_
      obtain rfl := h0_ d0_
      clear h0_ h1_ h2_ h3_ h4_ h5_ h6_ h7_ h8_ h9_ h10_ h11_ h12_
      have q5 := e5 d10_
      subst q5
      rw [d10_, d11_] at hI
      have hI : Inv w [] [.blk b3 (.cells #[.int .i64 t'.kind, .int .i64 t'.n, .string t'.name, kv] t_iTerm), .blk b4 (.cells #[.int .i64 0, .int .i64 0, .string ⟨#[]⟩, .slice none 0 0] t_iTerm), .blk b5 (.cells vv.toArray t_iTerm)] S w_ := hI
      refine r_not ?_
      refine condV (fun hb => ?_) (fun hb => ?_)
      · have hok : ok = false := by simpa using hb
        have hl := hno hok
        have hv : v = t' := by
          cases hw' with
          | stop _ => rfl
          | step h1 _ => rw [h1] at hl; cases hl
        subst hv
        exact ⟨_, hcs0, hI.pick [true, true, false]⟩
      · have hok : ok = true := by simpa using hb
        obtain ⟨u, hl, hRu⟩ := hyes hok
        have hwu : WalkR st u v := by
          cases hw' with
          | stop h0 => rw [hl] at h0; cases h0
          | step h1 h2 => rw [hl, Option.some.injEq] at h1; rw [h1]; exact h2
        refine r_loadW hI 2 ag_iTerm rfl (by simpa using hvl) ?_
        refine r_storeW hI 0 rfl ag_iTerm (by simpa using hvl) rfl (by simpa using hvo) fun w' hI => ?_
        have hI : Inv w [] [.blk b3 (.cells vv.toArray t_iTerm), .blk b4 (.cells #[.int .i64 0, .int .i64 0, .string ⟨#[]⟩, .slice none 0 0] t_iTerm)] S w' := hI.pick [true, true, false]
        refine ⟨⟨u, vv, hwu, (hg.look_ok hl).1, hRu, hI⟩, ?_⟩
        have hrank2 := rankW_eq hI (i := 0) rfl hRu r st
        show rankW b3 r st w' < rankW b3 r st _
        have hl1 : (look st t').isSome = true := by rw [hl]; rfl
        rw [hrank, hrank2, if_pos hl1]
        split
        · rename_i hl2
          obtain ⟨u2, hl2⟩ := Option.isSome_iff_exists.1 hl2
          have := hr _ u (look_some.1 hl).2 u.n.toNat (by rw [vT_var (look_some.1 hl2).1]; exact List.mem_singleton.2 rfl)
          omega
        · omega
    · have hv : v = t' := by
        cases hw' with
        | stop _ => rfl
        | step h1 _ => exact absurd (look_some.1 h1).1 hk1
      subst hv
      exact ⟨_, hcs0, hI⟩
  · intro _ _ _ _ _ _ _ _ _ _ _ _ _ _ _ _ _ _ w'
    rintro ⟨cs', hcs', hI⟩
    have hlc := hcs'.length
    refine r_loadW hI 0 ag_iTerm rfl (by simpa using hlc) ?_
    refine r_storeW hI 1 rfl ag_iTerm (by simpa using hlc) rfl (by simpa using hcs'.one) fun w' hI => ?_
    refine loadV_W hI 1 ag_iTerm rfl (by simpa using hlc) ?_
    exact ⟨_, _, _, rfl, hI.nil, Ext.refl _ _ _, rfl, rfl, _, rfl, hcs'⟩
/- the variables that impl.occurs has met -/
def MetM (es : Array MapEntry) (met : Nat → Prop) : Prop := (∀ e ∈ es.toList, ∃ n : Nat, e.key = .int .i64 n ∧ e.val = .bool true ∧ met n) ∧ ∀ n, met n → ∃ e ∈ es.toList, e.key = .int .i64 (n : Nat)
theorem MetM.find {es : Array MapEntry} {met : Nat → Prop} (h : MetM es met) (n : Nat) : (met n ∧ ∃ j, Instr.findNow (.int .i64) (.int .i64 n) es.toList 0 = some (some (j, .bool true))) ∨ (¬ met n ∧ Instr.findNow (.int .i64) (.int .i64 n) es.toList 0 = some none) := by
  rcases findNow_int (n := n) es.toList 0 (fun e he => by obtain ⟨m, hk, _⟩ := h.1 e he; exact ⟨m, hk⟩) with ⟨j, e, he, hk, hf⟩ | ⟨hk, hf⟩
  · obtain ⟨m, hk2, hv, hm⟩ := h.1 e he
    rw [hk] at hk2
    simp only [Value.int.injEq, true_and] at hk2
    have : n = m := by omega
    subst this
    rw [hv] at hf
    exact .inl ⟨hm, j, hf⟩
  · refine .inr ⟨fun hm => ?_, hf⟩
    obtain ⟨e, he, hk2⟩ := h.2 n hm
    exact hk e he hk2
theorem MetM.push {es : Array MapEntry} {met : Nat → Prop} (h : MetM es met) (n : Nat) (ck : Nat) : MetM (es.push { key := .int .i64 n, val := .bool true, born := ck }) (fun m => met m ∨ m = n) := by
  refine ⟨fun e he => ?_, fun m hm => ?_⟩
  · rw [Array.toList_push] at he
    rcases List.mem_append.1 he with he | he
    · obtain ⟨m, hk, hv, hm⟩ := h.1 e he
      exact ⟨m, hk, hv, .inl hm⟩
    · simp at he
      subst he
      exact ⟨n, rfl, rfl, .inr rfl⟩
  · rw [Array.toList_push]
    rcases hm with hm | rfl
    · obtain ⟨x, hx, hk⟩ := h.2 m hm
      exact ⟨x, List.mem_append_left _ hx, hk⟩
    · exact ⟨_, List.mem_append_right _ (List.mem_singleton.2 rfl), rfl⟩
theorem MetM.empty : MetM #[] (fun _ => False) := ⟨fun e he => by simp at he, fun n h => h.elim⟩
theorem walk_rank {st : Known} {r : Nat → Nat} (hr : ∀ (n : Nat) (u : T), st[n]? = some (some u) → ∀ m ∈ vT u, r m < r n) {t v : T} (hw : WalkR st t v) : ∀ u, look st t = some u → ∀ y ∈ vT v, r y < r t.n.toNat := by
  induction hw with
  | stop h => intro u hu; rw [h] at hu; cases hu
  | step hl hw' ih =>
    rename_i t u v
    intro u' _ y hy
    have h1 := hr _ u (look_some.1 hl).2
    cases hl2 : look st u with
    | none =>
      have : v = u := by
        cases hw' with
        | stop _ => rfl
        | step h3 _ => rw [h3] at hl2; cases hl2
      subst this
      exact h1 y hy
    | some u2 =>
      have h2 := ih u2 hl2 y hy
      have h3 := h1 u.n.toNat (by rw [vT_var (look_some.1 hl2).1]; exact List.mem_singleton.2 rfl)
      omega
theorem okU_walk {N : Nat} {st : Known} {t v : T} (h : Good N st) (hw : WalkR st t v) (ht : okU N t) : okU N v := by
  induction hw with
  | stop => exact ht
  | step hl _ ih => exact ih (h.look_ok hl).1
theorem rch_rank {st : Known} {r : Nat → Nat} (hr : ∀ (n : Nat) (u : T), st[n]? = some (some u) → ∀ m ∈ vT u, r m < r n) {a c : Nat} (h : Rch st a c) : r c ≤ r a := by
  induction h with
  | refl => exact Nat.le_refl _
  | step h1 h2 _ ih => have := hr _ _ h1 _ h2; omega
theorem walk_reach {st : Known} {t v : T} (hw : WalkR st t v) : ∀ u, look st t = some u → ∀ y ∈ vT v, Rch st t.n.toNat y := by
  induction hw with
  | stop h => intro u hu; rw [h] at hu; cases hu
  | step hl hw' ih =>
    rename_i t u v
    intro u' _ y hy
    cases hl2 : look st u with
    | none =>
      have : v = u := by
        cases hw' with
        | stop _ => rfl
        | step h3 _ => rw [h3] at hl2; cases hl2
      subst this
      exact .step (look_some.1 hl).2 hy (.refl y)
    | some u2 => exact .step (look_some.1 hl).2 (by rw [vT_var (look_some.1 hl2).1]; exact List.mem_singleton.2 rfl) (ih u2 hl2 y hy)
/- what impl.occurs does -/
def OC (st : Known) (sb n : Nat) (t : T) : Prop := ∀ (S0 S : Store) (cs : List Value) (mm ck : Nat) (es : Array MapEntry) (met : Nat → Prop), Sle S0 S → StS S0 S sb st → RdT S0 cs t → MetM es met → (∀ m, met m → (∃ x ∈ vT t, Rch st x m) → ¬ Rch st m n) →
  Tri Tryz.prog n_i_store_occurs [.pointer (some ⟨sb, 0, none⟩), .int .i64 n, .agg cs.toArray, .map (some mm)] [.blk mm (.map es ck)] S fun r I' S' => S' = S ∧ ∃ es' ck', I' = [.blk mm (.map es' ck')] ∧
    ((OccP st n t ∧ r = .bool true) ∨ (¬ OccP st n t ∧ r = .bool false ∧ ∃ met', MetM es' met' ∧ (∀ m, met m → met' m) ∧ ∀ m, met' m → met m ∨ ¬ Rch st m n))
theorem occurs_1_calls {st : Known} {sb n : Nat} {t : T} (hoc : OC st sb n t) {S0 S : Store} {cs : List Value} {mm ck b4 b5 b7 : Nat} {E4 E5 E7 : TypeId} {es : Array MapEntry} {met : Nat → Prop} (hle : Sle S0 S) (hst : StS S0 S sb st) (h : RdT S0 cs t) (hm : MetM es met)
    (hpre : ∀ m, met m → (∃ x ∈ vT t, Rch st x m) → ¬ Rch st m n) (h4 : S b4 = some (.cells #[.pointer (some ⟨sb, 0, none⟩)] E4)) (h5 : S b5 = some (.cells #[.int .i64 n] E5)) (h7 : S b7 = some (.cells #[.map (some mm)] E7)) :
    Tri Tryz.prog n_i_store_occurs_1 [.agg cs.toArray, .pointer (some ⟨b4, 0, none⟩), .pointer (some ⟨b5, 0, none⟩), .pointer (some ⟨b7, 0, none⟩)] [.blk mm (.map es ck)] S fun r I' S' => S' = S ∧ ∃ es' ck', I' = [.blk mm (.map es' ck')] ∧
    ((OccP st n t ∧ r = .bool true) ∨ (¬ OccP st n t ∧ r = .bool false ∧ ∃ met', MetM es' met' ∧ (∀ m, met m → met' m) ∧ ∀ m, met' m → met m ∨ ¬ Rch st m n)) := by
  intro w hI
  have hlc := h.length
  obtain ⟨X, hX⟩ : ∃ X, X = feet [Item.blk mm (.map es ck)] := ⟨_, rfl⟩
  rw [← hX] at hI ⊢
  refine calls_i_store_occurs_1 ?_
  unfold sh_i_store_occurs_1
  refine r_box hI fun b1 w' hI => ?_
  have hI : Inv w X ([.blk b1 (.cells cs.toArray t_iTerm)] ++ [.blk mm (.map es ck)]) S w' := hI.perm (List.Perm.swap ..)
  refine r_load sc_Pistore (by rw [hI.cellS h4]; rfl) ?_
  refine r_load sc_int (by rw [hI.cellS h5]; rfl) ?_
  refine r_loadW hI 0 ag_iTerm rfl (by simpa using hlc) ?_
  refine r_load (by decide +kernel) (by rw [hI.cellS h7]; rfl) ?_
  refine Run.callE fn_i_store_occurs nm_i_store_occurs hI (hoc S0 S cs mm ck es met hle hst h hm hpre) fun v' I' S' w' => ?_
  rintro ⟨eS, es', ck', rfl, hres⟩ _ hI
  rw [eS] at hI
  exact ⟨_, _, _, rfl, hI.pick [false, true], Ext.refl _ _ _, rfl, es', ck', rfl, hres⟩
theorem occurs_body {N : Nat} {st : Known} (hg : Good N st) {sb n : Nat} (hn : ∀ u, st[n]? ≠ some (some u)) (hnN : n < 1000000000) {t v : T} (ho : okU N t) (hwv : WalkR st t v)
    (hv : t.kind = 1 → v.kind ≠ 1 → OC st sb n v) (hk : t.kind ≠ 1 → ∀ x ∈ t.kids, OC st sb n x) : OC st sb n t := by
  intro S0 S cs mm ck es met hle hst h hmet hpre w hI
  have hlc := h.length
  obtain ⟨X, hX⟩ : ∃ X, X = feet [Item.blk mm (.map es ck)] := ⟨_, rfl⟩
  rw [← hX] at hI ⊢
  have h0 := h
  obtain ⟨kv, rfl, _, _, _, hks⟩ := RdT.iff.1 h
  refine calls_i_store_occurs ?_
  unfold sh_i_store_occurs
  refine r_box hI fun b4 w' hI => ?_
  refine r_box hI fun b5 w' hI => ?_
  refine r_box hI fun b6 w' hI => ?_
  refine r_box hI fun b7 w' hI => ?_
  have hI : Inv w X [.blk mm (.map es ck), .blk b4 (.cells #[.pointer (some ⟨sb, 0, none⟩)] t_Pistore), .blk b5 (.cells #[.int .i64 n] t_int), .blk b6 (.cells #[.int .i64 t.kind, .int .i64 t.n, .string t.name, kv] t_iTerm), .blk b7 (.cells #[.map (some mm)] t_Mint_bool)] S w' := hI
  refine r_fieldL hI 3 rfl fo_iTerm_0 sc_int rfl ?_
  refine r_eql ?_
  refine condP (fun hk1 => ?_) (fun hk1 => ?_)
  · obtain ⟨hn0, _⟩ := ho.var hk1
    obtain ⟨j, hj⟩ : ∃ j : Nat, t.n = j := ⟨t.n.toNat, by omega⟩
    have hvt : vT t = [j] := by rw [vT_var hk1, hj, Int.toNat_natCast]
    have hzb : zeroOf Tryz.prog t_bool = some (.bool false) := by kernel_rfl
    have hun : Tryz.prog.underlying t_Mint_bool = some (.map t_int t_bool) := by kernel_rfl
    refine r_loadL hI 4 (by decide +kernel) rfl rfl ?_
    refine r_fieldL hI 3 rfl fo_iTerm_1 sc_int rfl ?_
    rw [hj] at hI ⊢
    rcases hmet.find j with ⟨hmj, q, hf⟩ | ⟨hmj, hf⟩
    · refine lookup_run (c := false) (ok := true) (v := .bool true) (hI.its (.blk mm (.map es ck)) (by simp)) hun un_int hzb (.inl ⟨q, hf, rfl⟩) ?_
      refine condV (fun _ => ?_) (fun hb => by cases hb)
      have hno : ¬ OccP st n t := by
        rintro ⟨x, hx, hr⟩
        have hxj := hx
        rw [hvt, List.mem_singleton] at hxj
        subst hxj
        exact hpre x hmj ⟨x, hx, .refl x⟩ hr
      exact ⟨_, _, _, rfl, hI.pick [true, false, false, false, false], Ext.refl _ _ _, rfl, es, ck, rfl, .inr ⟨hno, rfl, met, hmet, fun _ h => h, fun _ h => .inl h⟩⟩
    refine lookup_run (c := false) (ok := false) (v := .bool false) (hI.its (.blk mm (.map es ck)) (by simp)) hun un_int hzb (.inr ⟨hf, rfl, rfl⟩) ?_
    refine condV (fun hb => by cases hb) (fun _ => ?_)
    refine r_loadL hI 4 (by decide +kernel) rfl rfl ?_
    refine r_fieldL hI 3 rfl fo_iTerm_1 sc_int rfl ?_
    refine r_mapNew hI 0 hun un_int rfl hf fun w' hI => ?_
    have hmet2 := hmet.push j ck
    generalize hes2 : es.push { key := .int .i64 (j : Int), val := .bool true, born := ck } = es2 at hmet2
    rw [hes2] at hI
    have hI : Inv w X [.blk mm (.map es2 (ck + 1)), .blk b4 (.cells #[.pointer (some ⟨sb, 0, none⟩)] t_Pistore), .blk b5 (.cells #[.int .i64 n] t_int), .blk b6 (.cells #[.int .i64 t.kind, .int .i64 j, .string t.name, kv] t_iTerm), .blk b7 (.cells #[.map (some mm)] t_Mint_bool)] S w' := hI
    refine r_loadL hI 1 sc_Pistore rfl rfl ?_
    refine r_loadW hI 3 ag_iTerm rfl rfl ?_
    rw [hj] at h0
    refine Run.call0 fn_i_store_walk nm_i_store_walk hI (i_walk_calls hg hwv ho hst h0) fun v' I' S' w' => ?_
    rintro ⟨eS, rfl, cs', rfl, hcs'⟩ _ hI
    rw [eS] at hI
    clear eS
    have hlc' := hcs'.length
    refine r_alloc hI zo_iTerm fun b9 w' hI => ?_
    have hI : Inv w X [.blk mm (.map es2 (ck + 1)), .blk b4 (.cells #[.pointer (some ⟨sb, 0, none⟩)] t_Pistore), .blk b5 (.cells #[.int .i64 n] t_int), .blk b6 (.cells #[.int .i64 t.kind, .int .i64 j, .string t.name, kv] t_iTerm), .blk b7 (.cells #[.map (some mm)] t_Mint_bool), .blk b9 _] S w' := hI
    refine r_storeW hI 5 rfl ag_iTerm (by simpa using hlc') rfl (by simpa using hcs'.one) fun w' hI => ?_
    have hcs0 := hcs'
    obtain ⟨kv', rfl, _⟩ := RdT.iff.1 hcs'
    have hI : Inv w X [.blk mm (.map es2 (ck + 1)), .blk b4 (.cells #[.pointer (some ⟨sb, 0, none⟩)] t_Pistore), .blk b5 (.cells #[.int .i64 n] t_int), .blk b6 (.cells #[.int .i64 t.kind, .int .i64 j, .string t.name, kv] t_iTerm), .blk b7 (.cells #[.map (some mm)] t_Mint_bool), .blk b9 (.cells #[.int .i64 v.kind, .int .i64 v.n, .string v.name, kv'] t_iTerm)] S w' := hI
    have hocc := walk_rch hwv hn
    have hmj2 : ∀ m, (met m ∨ m = j) → ¬ OccP st n t → met m ∨ ¬ Rch st m n := by
      rintro m (hm | rfl) hno
      · exact .inl hm
      · exact .inr fun hr => hno ⟨m, by rw [hvt]; exact List.mem_singleton.2 rfl, hr⟩
    refine r_fieldL hI 5 rfl fo_iTerm_0 sc_int rfl ?_
    refine r_eql ?_
    refine condP (fun hv1 => ?_) (fun hv1 => ?_)
    · refine r_fieldL hI 5 rfl fo_iTerm_1 sc_int rfl ?_
      refine r_loadL hI 2 sc_int rfl rfl ?_
      refine r_eql ?_
      have hiff : OccP st n v ↔ v.n.toNat = n := by
        have hfree := look_none.1 (walk_none hwv) hv1
        constructor
        · rintro ⟨x, hx, hr⟩
          rw [vT_var hv1, List.mem_singleton] at hx
          subst hx
          cases hr with
          | refl => rfl
          | step h1 _ _ =>
            rcases hfree with e | e
            · rw [e] at h1; cases h1
            · rw [e] at h1; cases h1
        · intro e
          exact ⟨n, by rw [vT_var hv1, e]; exact List.mem_singleton.2 rfl, .refl n⟩
      have hvn0 : 0 ≤ v.n := by
        exact ((okU_walk hg hwv ho).var hv1).1
      have hres : decide (v.n = (n : Int)) = decide (v.n.toNat = n) := by
        rw [Bool.eq_iff_iff, decide_eq_true_eq, decide_eq_true_eq]
        omega
      rw [hres]
      refine ⟨_, _, _, rfl, hI.pick [true, false, false, false, false, false], Ext.refl _ _ _, rfl, es2, ck + 1, rfl, ?_⟩
      by_cases e : v.n.toNat = n
      · left
        exact ⟨hocc.2 (hiff.2 e), by rw [decide_eq_true e]⟩
      · right
        have hno : ¬ OccP st n t := fun h => e (hiff.1 (hocc.1 h))
        exact ⟨hno, by rw [decide_eq_false e], _, hmet2, fun m hm => .inl hm, fun m hm => hmj2 m hm hno⟩
    · refine r_loadL hI 1 sc_Pistore rfl rfl ?_
      refine r_loadL hI 2 sc_int rfl rfl ?_
      refine r_loadW hI 5 ag_iTerm rfl rfl ?_
      refine r_loadL hI 4 (by decide +kernel) rfl rfl ?_
      have hI : Inv w X ([.blk b4 (.cells #[.pointer (some ⟨sb, 0, none⟩)] t_Pistore)] ++ [.blk mm (.map es2 (ck + 1))]) S w' := (hI.pick [true, true, false, false, false, false]).perm (List.Perm.swap ..)
      have hlk : ∃ u, look st t = some u := by
        cases hl : look st t with
        | some u => exact ⟨u, rfl⟩
        | none =>
          have : v = t := by
            cases hwv with
            | stop _ => rfl
            | step h1 _ => rw [h1] at hl; cases hl
          rw [this] at hv1
          exact absurd hk1 hv1
      obtain ⟨u, hl⟩ := hlk
      obtain ⟨rk, hrk⟩ := hg.rk
      have hwr := walk_rank hrk hwv u hl
      have hpre2 : ∀ m, (met m ∨ m = j) → (∃ x ∈ vT v, Rch st x m) → ¬ Rch st m n := by
        rintro m (hm | rfl) ⟨x, hx, hr⟩
        · refine hpre m hm ⟨j, by rw [hvt]; exact List.mem_singleton.2 rfl, ?_⟩
          have h1 := walk_reach hwv u hl x hx
          rw [hj, Int.toNat_natCast] at h1
          exact h1.trans hr
        · exfalso
          have h1 := hwr x hx
          have h2 := rch_rank hrk hr
          rw [hj, Int.toNat_natCast] at h1
          omega
      refine Run.callE fn_i_store_occurs nm_i_store_occurs hI (hv hk1 hv1 S0 S _ mm (ck + 1) es2 _ hle hst hcs0 hmet2 hpre2) fun v' I' S' w' => ?_
      rintro ⟨eS, es3, ck3, rfl, hres⟩ _ hI
      rw [eS] at hI
      refine ⟨_, _, _, rfl, hI.pick [false, true], Ext.refl _ _ _, rfl, es3, ck3, rfl, ?_⟩
      rcases hres with ⟨h1, rfl⟩ | ⟨h1, rfl, met3, hm3, h2, h3⟩
      · exact .inl ⟨hocc.2 h1, rfl⟩
      · have hno : ¬ OccP st n t := fun h => h1 (hocc.1 h)
        refine .inr ⟨hno, rfl, met3, hm3, fun m hm => h2 m (.inl hm), fun m hm => ?_⟩
        rcases h3 m hm with h4 | h4
        · exact hmj2 m h4 hno
        · exact .inr h4
  · refine r_fieldL hI 3 rfl fo_iTerm_3 sc_SiTerm rfl ?_
    refine r_makeFunc ?_
    have hvt : vT t = vTL t.kids := vT_kids hk1
    have hI : Inv w X ([.blk mm (.map es ck)] ++ blks [(b4, .cells #[.pointer (some ⟨sb, 0, none⟩)] t_Pistore), (b5, .cells #[.int .i64 n] t_int), (b7, .cells #[.map (some mm)] t_Mint_bool)]) S w' := hI.pick [true, true, true, false, true]
    obtain ⟨S1, hle1, hins, hI1, hback⟩ := Inv.lendAll _ hI
    have h4 := hins _ (List.mem_cons_self ..)
    have h5 := hins _ (List.mem_cons_of_mem _ (List.mem_cons_self ..))
    have h7 := hins _ (List.mem_cons_of_mem _ (List.mem_cons_of_mem _ (List.mem_cons_self ..)))
    have hI1 : Inv w X ([] ++ [.blk mm (.map es ck)]) S1 w' := hI1
    refine Run.callE (A := []) fn_x_ContainsFunc_Term nm_x_ContainsFunc_Term hI1 (ContainsFunc_rel fn_i_store_occurs_1 nm_i_store_occurs_1 (hle.trans hle1) hks
      (J := fun i I => ∃ es' ck' met', I = [.blk mm (.map es' ck')] ∧ MetM es' met' ∧ (∀ m, met m → met' m) ∧ (∀ m, met' m → met m ∨ ¬ Rch st m n) ∧ ∀ k (_ : k < t.kids.length), k < i → ¬ OccP st n t.kids[k])
      (Fin := fun I => ∃ es' ck', I = [.blk mm (.map es' ck')] ∧ OccP st n t) ?_ ⟨es, ck, met, rfl, hmet, fun _ h => h, fun _ h => .inl h, fun k _ h => by omega⟩) fun v' I2 S2 w' => ?_
    · rintro i hi cs I hcs ⟨es', ck', met', rfl, hm', hsub, hnew, hdone⟩
      have hpre2 : ∀ m, met' m → (∃ x ∈ vT t.kids[i], Rch st x m) → ¬ Rch st m n := by
        rintro m hm ⟨x, hx, hr⟩
        rcases hnew m hm with h1 | h1
        · exact hpre m h1 ⟨x, by rw [hvt]; exact vTL_mem.2 ⟨_, List.getElem_mem hi, hx⟩, hr⟩
        · exact h1
      intro w1 hI1
      refine (occurs_1_calls (hk hk1 _ (List.getElem_mem hi)) (hle.trans hle1) (hst.mono hle1) hcs hm' hpre2 h4 h5 h7 w1 hI1).mono ?_
      rintro e w2 ⟨v', I', S', rfl, hI2, hE, hS, es3, ck3, rfl, hres⟩
      refine ⟨_, _, _, rfl, hI2, hE, hS, ?_⟩
      rcases hres with ⟨h1, rfl⟩ | ⟨h1, rfl, met3, hm3, h2, h3⟩
      · obtain ⟨x, hx, hr⟩ := h1
        exact ⟨true, rfl, fun _ => ⟨es3, ck3, rfl, x, by rw [hvt]; exact vTL_mem.2 ⟨_, List.getElem_mem hi, hx⟩, hr⟩, fun e => by cases e⟩
      · refine ⟨false, rfl, fun e => (by cases e), fun _ => ⟨es3, ck3, met3, rfl, hm3, fun m hm => h2 m (hsub m hm), fun m hm => ?_, fun k hk2 hki => ?_⟩⟩
        · rcases h3 m hm with h4 | h4
          · exact hnew m h4
          · exact .inr h4
        · by_cases e : k = i
          · subst e; exact h1
          · exact hdone k hk2 (by omega)
    rintro ⟨eS, b, rfl, hb1, hb2⟩ _ hI
    rw [eS] at hI
    have hI : Inv w X I2 S1 w' := hI
    have hI := hback _ _ hI
    cases b with
    | true =>
      obtain ⟨es', ck', rfl, hocc⟩ := hb1 rfl
      exact ⟨_, _, _, rfl, hI.sub (List.sublist_append_left _ _), Ext.refl _ _ _, rfl, es', ck', rfl, .inl ⟨hocc, rfl⟩⟩
    | false =>
      obtain ⟨es', ck', met', rfl, hm', hsub, hnew, hdone⟩ := hb2 rfl
      have hno : ¬ OccP st n t := by
        rintro ⟨x, hx, hr⟩
        rw [hvt] at hx
        obtain ⟨y, hy, hx⟩ := vTL_mem.1 hx
        obtain ⟨k, hk2, rfl⟩ := List.mem_iff_getElem.1 hy
        exact hdone k hk2 hk2 ⟨x, hx, hr⟩
      exact ⟨_, _, _, rfl, hI.sub (List.sublist_append_left _ _), Ext.refl _ _ _, rfl, es', ck', rfl, .inr ⟨hno, rfl, met', hm', hsub, hnew⟩⟩
theorem occurs_calls {N : Nat} {st : Known} (hg : Good N st) {sb n : Nat} (hn : ∀ u, st[n]? ≠ some (some u)) (hnN : n < 1000000000) : ∀ t : T, okU N t → OC st sb n t := by
  obtain ⟨rk, hrk⟩ := hg.rk
  have hone : ∀ (m : Nat) (a : T), (∀ x ∈ vT a, ∀ u, st[x]? = some (some u) → rk x < m) → okU N a → OC st sb n a := by
    intro m
    induction m using Nat.strongRecOn with
    | _ m ihm =>
      refine T.ind fun k n' s ks ih hr ho => ?_
      obtain ⟨v, hwv⟩ := walk_ex hg (.mk k n' s ks)
      refine occurs_body hg hn hnN ho hwv (fun hk1 hv1 => ?_) (fun hk1 x hx => ?_)
      · cases hl : look st (.mk k n' s ks) with
        | none =>
          have : v = .mk k n' s ks := by
            cases hwv with
            | stop _ => rfl
            | step h1 _ => rw [h1] at hl; cases hl
          rw [this] at hv1
          exact absurd hk1 hv1
        | some u =>
          have hs := (look_some.1 hl).2
          have hlt := hr _ (by rw [vT_var hk1]; exact List.mem_singleton.2 rfl) u hs
          exact ihm _ hlt v (fun x hx _ _ => walk_rank hrk hwv u hl x hx) (okU_walk hg hwv ho)
      · exact ih x hx (fun y hy u hs => hr y (by rw [vT_kids hk1]; exact vTL_mem.2 ⟨x, hx, hy⟩) u hs) (okUL_mem ho.kids x hx)
  have hM : ∀ l : List Nat, ∃ M, ∀ m ∈ l, rk m < M := by
    intro l
    induction l with
    | nil => exact ⟨0, by simp⟩
    | cons x l ih =>
      obtain ⟨M, hM⟩ := ih
      refine ⟨M + rk x + 1, fun m hm => ?_⟩
      rcases List.mem_cons.1 hm with rfl | hm
      · omega
      · have := hM m hm; omega
  intro t ho
  obtain ⟨M, hM⟩ := hM (vT t)
  exact hone M t (fun x hx _ _ => hM x hx) ho
end

end Go.Proofs.YtaaihodhhacapaaGreat

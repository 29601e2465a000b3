/- spec.UnfoldClause. -/
import Derived.Test.YtaaihodhhacapaaGreatZUf8
import Derived.Test.YtaaihodhhacapaaGreatZUf4
import Derived.Test.YtaaihodhhacapaaGreatZUf3
import Derived.Test.YtaaihodhhacapaaGreatZUf2
namespace Go.Proofs.YtaaihodhhacapaaGreat
open Go Go.RowKit
attribute [local irreducible] Run CondV GuardV LoadV
set_option maxHeartbeats 2000000 in
theorem s_UnfoldClause_calls {p r : List C} {S : Store} {v : Value} {i : Int} {b : Bool} (hr : UB p i r b) (h : RdSl S 5 (RdC S) v p) (hw : p.length + wP p ≤ 1048576) : Tri Tryz.prog n_s_UnfoldClause [v, .int .i64 i] [] S (PostCO r b) := by
  intro w hI
  refine calls_s_UnfoldClause ?_
  unfold sh_s_UnfoldClause
  refine Run.callPure fn_s_CanUnfold nm_s_CanUnfold hI (sCanUnfold_calls i h hw) fun w' hI => ?_
  refine r_not ?_
  rcases hr with ⟨hu, rfl, rfl⟩ | ⟨hu, os, hos, hcase⟩
  · rw [hu]
    refine condV (fun _ => ?_) (fun hb => by cases hb)
    refine r_slice0 hI mk_SiClause fun v0 w' hI => ?_
    have hI : Inv w [] ([] ++ (rowG v0 t_iClause 5 [] :: blks ([] : List Heaplet).flatten)) S w' := hI
    obtain ⟨L, hT, hI⟩ := Inv.rowTree (R := TrC) hI (Grown.nil 5 TrC)
    exact ⟨_, _, _, rfl, hI, Ext.refl _ _ _, _, L, rfl, rfl, hT⟩
  rw [hu]
  refine condV (fun hb => by cases hb) (fun _ => ?_)
  obtain ⟨hpv, j, hj, rfl, hfst⟩ := unf_info hu
  obtain ⟨g, gs, hbd, hpl⟩ := first_iff hfst
  obtain ⟨hp20, hpall⟩ := prog_all hpv
  obtain ⟨hosw, hosl, hqw⟩ := unfP_w hu hos
  rw [ksOf_eq hj hbd] at hos
  rw [Int.toNat_natCast] at hos
  have hunf : ∀ os, unfP p j os = (p.take j ++ outL os) ++ p.drop (j + 1) := fun os => by rw [unfP, Int.toNat_natCast]
  rw [hunf] at hcase hqw
  have hbne : p[j].body ≠ [] := by rw [hbd]; simp
  have hbl : 0 < p[j].body.length := by rw [hbd]; simp
  have hg0 : p[j].body[0] = g := by simp [hbd]
  obtain ⟨vb, vo, vcap, rfl⟩ := h.some (by omega)
  obtain ⟨c1, E1, fz1, cs1, hS1, ec1, hR1⟩ := h.clauseAt hj
  have hlc1 := hR1.length
  refine r_slice0 hI mk_SiClause fun v0 w' hI => ?_
  refine r_sliceTo sl_SiClause h (by omega) fun v3 e3 => ?_
  refine r_appendRd (css := []) hI 0 mk_SiClause (by omega) rfl e3 (fun _ _ => RdC.length) (fun _ _ => RdC.one) (by simp; omega) (by omega) fun v4 w' c0 hR0 hI => ?_
  have hI : Inv w [] [rowG v4 t_iClause 5 c0] S w' := hI
  refine r_elemX hI h sl_SiClause fo_iClause_1 sc_SiTerm hj fun cs' hcs' => ?_
  obtain ⟨hd, ks', rfl, h1, h2⟩ := hcs'
  obtain ⟨kv, rfl, _⟩ := RdT.iff.1 h1
  refine ⟨ks', rfl, ?_⟩
  refine r_elem (i := 0) hI h2 sl_SiTerm ag_iTerm hbl (fun _ _ => RdT.length) fun cs' hcs' => ?_
  rw [hg0] at hcs'
  refine Run.call0 fn_s_l4For nm_s_l4For hI (l4For_calls h hcs' (by omega)) fun v1 I' S' w' => ?_
  rintro ⟨rfl, eS⟩ _ hI
  rw [eS] at hI
  have hI : Inv w [] ([rowG v4 t_iClause 5 c0] ++ [rowI v1 (forL p g)]) S w' := hI
  obtain ⟨S1, hE1, hrd, hI⟩ := hI.lendExtR
  have hkr := hrd.ints
  have hmem : ∀ n ∈ forL p g, ∃ m : Nat, n = m ∧ m < p.length := fun n hn => forL_mem hn
  have hll : (forL p g).length ≤ p.length := posOf_len _ p 0
  generalize forL p g = ks at hkr hmem hll hos
  obtain ⟨hol, hro⟩ := hos
  refine ⟨fun i t w' => ∃ (m : Nat) (css : List (List Value)) (Sm : Store), m ≤ ks.length ∧ i = .int .i64 m ∧ (os.take m).all okSO = true ∧ Rows 5 (RdC Sm) css (p.take j ++ outL (os.take m)) ∧ Ext w.heap.size [] S1 Sm ∧ Inv w [] [rowG t t_iClause 5 css] Sm w',
    fun i _ _ => ks.length - (intOf i).toNat, ⟨0, c0, S1, Nat.zero_le _, rfl, by rw [List.take_zero]; rfl, by rw [List.take_zero, outL, List.append_nil]; exact hR0.monoR fun _ _ h => h.mono hE1.1, Ext.refl _ _ _, hI⟩, ?_⟩
  intro t8 _ _ t6 _ _ _ _ _ _ _ _ _ _ t11 t10 t9 t52 t51 t50 t37 t49 t48 t47 t46 t45 t44 t43 t42 t41 t40 t39 t38 _ _ _ _ w'
  rintro ⟨m, css, Sm, hm, rfl, hok, hRm, hEm, hI⟩
  refine r_lenSl hkr sl_Sint ?_
  refine r_lss ?_
  have hcl := hRm.hc
  have hotl := outL_w (os := os.take m) fun o ho => hosw o (List.mem_of_mem_take ho)
  have htl : (os.take m).length ≤ 20 := by simp only [List.length_take]; omega
  have hcl20 : css.length ≤ 40 := by
    rw [hcl, List.length_append, List.length_take]
    omega
  refine condP (fun hmi => ?_) (fun hmi => ?_)
  · have hm' : m < ks.length := by omega
    have hmo : m < os.length := by omega
    obtain ⟨n, hn, hnp⟩ := hmem _ (List.getElem_mem hm')
    obtain ⟨_, hk1, hro1⟩ := hro m hm' hmo
    have hpn : p[ks[m].toNat] = p[n] := by congr 1; omega
    rw [hpn] at hro1
    have hstep := outL_take hmo
    have hclj := hpall _ (List.getElem_mem hj)
    have hcln := hpall _ (List.getElem_mem hnp)
    have hcase' : okSO os[m] = false → r = [] ∧ b = false := fun hk => by
      have : os.all okSO = false := by
        cases ha : os.all okSO with
        | false => rfl
        | true =>
          rw [List.all_eq_true] at ha
          rw [ha _ (List.getElem_mem hmo)] at hk
          cases hk
      rcases hcase with ⟨_, h1, h2⟩ | ⟨h1, _⟩
      · exact ⟨h1, h2⟩
      · rw [this] at h1; cases h1
    have hallm : okSO os[m] = true → (os.take (m + 1)).all okSO = true := fun hk => all_take hmo hok hk
    generalize os[m] = o at hro1 hstep hcase' hallm
    have hIk := hI
    obtain ⟨kb, ko, kcap, rfl⟩ := hkr.some (by omega)
    have hI := hIk
    obtain ⟨kc, kE, kfz, hkS, hkv⟩ := hkr.intAt hm'
    rw [hn] at hkv
    obtain ⟨c2, E2, fz2, cs2, hS2, ec2, hR2⟩ := h.clauseAt hnp
    have hlc2 := hR2.length
    have hEa := hE1.trans hEm
    refine ⟨fun t w' => ∃ css' SN, Rows 5 (RdC SN) css' (p.take j ++ outL (os.take (m + 1))) ∧ (os.take (m + 1)).all okSO = true ∧ Ext w.heap.size [] S1 SN ∧ Inv w [] [rowG t t_iClause 5 css'] SN w', ?_, ?_⟩
    · skip
      refine ⟨fun D x11 x10 x9 x52 x51 x50 x37 x49 x48 x47 x46 x45 x44 x43 x42 x41 x40 x39 x38 w_ => (D 0 = true → x38 = .slice (some ⟨vb, vo, none⟩) p.length vcap) ∧ (D 1 = true → x39 = .int .i64 j) ∧ (D 2 = true → x40 = .pointer (some ⟨vb, vo + j * 5, none⟩)) ∧ (D 3 = true → x41 = .agg (List.toArray cs1)) ∧ (D 4 = true → x42 = .slice (some ⟨vb, vo, none⟩) p.length vcap) ∧ (D 5 = true → x43 = .slice (some ⟨kb, ko, none⟩) ks.length kcap) ∧ (D 6 = true → x44 = .int .i64 m) ∧ (D 7 = true → x45 = .pointer (some ⟨kb, ko + m * 1, none⟩)) ∧ (D 8 = true → x46 = .int .i64 n) ∧ (D 9 = true → x47 = .pointer (some ⟨vb, vo + n * 5, none⟩)) ∧ (D 10 = true → x48 = .agg (List.toArray cs2)) ∧ (D 11 = true → True) ∧ (D 12 = true → True) ∧ (D 13 = true → True) ∧ (D 14 = true → x51 = .bool (fitsO o)) ∧ (D 15 = true → x52 = .bool (okSO o)) ∧ (D 16 = true → True) ∧ (D 17 = true → True) ∧ (D 18 = true → x10 = .bool (fitsO o)) ∧ (D 19 = true → x11 = .bool (okSO o)) ∧ ∃ SN b9 q9, Ext w.heap.size [] Sm SN ∧ (D 11 = true → IsTO SN o x49) ∧ (D 12 = true → IsTO SN o x37) ∧ (D 13 = true → IsC SN (clO o) x50) ∧ (D 16 = true → x9 = .pointer (some ⟨b9, 0, none⟩)) ∧ (D 17 = true → IsC SN (clO o) (.agg q9)) ∧ (D 17 = true → D 16 = true) ∧ q9.size = 5 ∧ Inv w [] (rowG t6 t_iClause 5 css :: cond (D 16) [.blk b9 (.cells q9 t_iClause)] []) SN w_, ⟨fun h => Bool.noConfusion h, fun h => Bool.noConfusion h, fun h => Bool.noConfusion h, fun h => Bool.noConfusion h, fun h => Bool.noConfusion h, fun h => Bool.noConfusion h, fun h => Bool.noConfusion h, fun h => Bool.noConfusion h, fun h => Bool.noConfusion h, fun h => Bool.noConfusion h, fun h => Bool.noConfusion h, fun h => Bool.noConfusion h, fun h => Bool.noConfusion h, fun h => Bool.noConfusion h, fun h => Bool.noConfusion h, fun h => Bool.noConfusion h, fun h => Bool.noConfusion h, fun h => Bool.noConfusion h, fun h => Bool.noConfusion h, fun h => Bool.noConfusion h, ⟨Sm, 0, #[.int .i64 0, .int .i64 0, .string ⟨#[]⟩, .slice none 0 0, .slice none 0 0], Ext.refl _ _ _, fun h => Bool.noConfusion h, fun h => Bool.noConfusion h, fun h => Bool.noConfusion h, fun h => Bool.noConfusion h, fun h => Bool.noConfusion h, fun h => Bool.noConfusion h, rfl, hI.draw⟩⟩, ⟨?_, ?_, ?_, ?_, ?_, ?_, ?_, ?_, ?_, ?_, ?_, ?_, ?_, ?_, ?_, ?_, ?_, ?_, ?_, ?_, trivial⟩, ?_⟩
      · intro D hD_  x11 x10 x9 x52 x51 x50 x37 x49 x48 x47 x46 x45 x44 x43 x42 x41 x40 x39 x38 w_
        rintro ⟨h0_, h1_, h2_, h3_, h4_, h5_, h6_, h7_, h8_, h9_, h10_, h11_, h12_, h13_, h14_, h15_, h16_, h17_, h18_, h19_, ⟨SN, b9, q9, hN, e11, e12, e13, e16, e17, k17, hq9, hI⟩⟩
        exact ⟨fun _ => rfl, h1_, h2_, h3_, h4_, h5_, h6_, h7_, h8_, h9_, h10_, h11_, h12_, h13_, h14_, h15_, h16_, h17_, h18_, h19_, ⟨SN, b9, q9, hN, e11, e12, e13, e16, e17, k17, hq9, hI⟩⟩
      · intro D hD_  x11 x10 x9 x52 x51 x50 x37 x49 x48 x47 x46 x45 x44 x43 x42 x41 x40 x39 x38 w_
        rintro ⟨h0_, h1_, h2_, h3_, h4_, h5_, h6_, h7_, h8_, h9_, h10_, h11_, h12_, h13_, h14_, h15_, h16_, h17_, h18_, h19_, ⟨SN, b9, q9, hN, e11, e12, e13, e16, e17, k17, hq9, hI⟩⟩
        exact ⟨h0_, fun _ => rfl, h2_, h3_, h4_, h5_, h6_, h7_, h8_, h9_, h10_, h11_, h12_, h13_, h14_, h15_, h16_, h17_, h18_, h19_, ⟨SN, b9, q9, hN, e11, e12, e13, e16, e17, k17, hq9, hI⟩⟩
      · intro D hD_ d0_0 d1_1 x11 x10 x9 x52 x51 x50 x37 x49 x48 x47 x46 x45 x44 x43 x42 x41 x40 x39 x38 w_
        rintro ⟨h0_, h1_, h2_, h3_, h4_, h5_, h6_, h7_, h8_, h9_, h10_, h11_, h12_, h13_, h14_, h15_, h16_, h17_, h18_, h19_, ⟨SN, b9, q9, hN, e11, e12, e13, e16, e17, k17, hq9, hI⟩⟩
        obtain rfl := h0_ d0_0
        obtain rfl := h1_ d1_1
        refine r_indexAddr (i := j) sl_SiClause hj ?_
        exact ⟨h0_, h1_, fun _ => rfl, h3_, h4_, h5_, h6_, h7_, h8_, h9_, h10_, h11_, h12_, h13_, h14_, h15_, h16_, h17_, h18_, h19_, ⟨SN, b9, q9, hN, e11, e12, e13, e16, e17, k17, hq9, hI⟩⟩
      · intro D hD_ d2_0 x11 x10 x9 x52 x51 x50 x37 x49 x48 x47 x46 x45 x44 x43 x42 x41 x40 x39 x38 w_
        rintro ⟨h0_, h1_, h2_, h3_, h4_, h5_, h6_, h7_, h8_, h9_, h10_, h11_, h12_, h13_, h14_, h15_, h16_, h17_, h18_, h19_, ⟨SN, b9, q9, hN, e11, e12, e13, e16, e17, k17, hq9, hI⟩⟩
        obtain rfl := h2_ d2_0
        refine r_loadA (cs := cs1) ag_iClause hlc1 (fun j v hj => by rw [hI.cellS ((hEa.trans hN).1 _ _ hS1)]; exact cellsAt_get ec1 j v hj) ?_
        exact ⟨h0_, h1_, h2_, fun _ => rfl, h4_, h5_, h6_, h7_, h8_, h9_, h10_, h11_, h12_, h13_, h14_, h15_, h16_, h17_, h18_, h19_, ⟨SN, b9, q9, hN, e11, e12, e13, e16, e17, k17, hq9, hI⟩⟩
      · intro D hD_  x11 x10 x9 x52 x51 x50 x37 x49 x48 x47 x46 x45 x44 x43 x42 x41 x40 x39 x38 w_
        rintro ⟨h0_, h1_, h2_, h3_, h4_, h5_, h6_, h7_, h8_, h9_, h10_, h11_, h12_, h13_, h14_, h15_, h16_, h17_, h18_, h19_, ⟨SN, b9, q9, hN, e11, e12, e13, e16, e17, k17, hq9, hI⟩⟩
        exact ⟨h0_, h1_, h2_, h3_, fun _ => rfl, h5_, h6_, h7_, h8_, h9_, h10_, h11_, h12_, h13_, h14_, h15_, h16_, h17_, h18_, h19_, ⟨SN, b9, q9, hN, e11, e12, e13, e16, e17, k17, hq9, hI⟩⟩
      · intro D hD_  x11 x10 x9 x52 x51 x50 x37 x49 x48 x47 x46 x45 x44 x43 x42 x41 x40 x39 x38 w_
        rintro ⟨h0_, h1_, h2_, h3_, h4_, h5_, h6_, h7_, h8_, h9_, h10_, h11_, h12_, h13_, h14_, h15_, h16_, h17_, h18_, h19_, ⟨SN, b9, q9, hN, e11, e12, e13, e16, e17, k17, hq9, hI⟩⟩
        exact ⟨h0_, h1_, h2_, h3_, h4_, fun _ => rfl, h6_, h7_, h8_, h9_, h10_, h11_, h12_, h13_, h14_, h15_, h16_, h17_, h18_, h19_, ⟨SN, b9, q9, hN, e11, e12, e13, e16, e17, k17, hq9, hI⟩⟩
      · intro D hD_  x11 x10 x9 x52 x51 x50 x37 x49 x48 x47 x46 x45 x44 x43 x42 x41 x40 x39 x38 w_
        rintro ⟨h0_, h1_, h2_, h3_, h4_, h5_, h6_, h7_, h8_, h9_, h10_, h11_, h12_, h13_, h14_, h15_, h16_, h17_, h18_, h19_, ⟨SN, b9, q9, hN, e11, e12, e13, e16, e17, k17, hq9, hI⟩⟩
        exact ⟨h0_, h1_, h2_, h3_, h4_, h5_, fun _ => rfl, h7_, h8_, h9_, h10_, h11_, h12_, h13_, h14_, h15_, h16_, h17_, h18_, h19_, ⟨SN, b9, q9, hN, e11, e12, e13, e16, e17, k17, hq9, hI⟩⟩
      · intro D hD_ d5_0 d6_1 x11 x10 x9 x52 x51 x50 x37 x49 x48 x47 x46 x45 x44 x43 x42 x41 x40 x39 x38 w_
        rintro ⟨h0_, h1_, h2_, h3_, h4_, h5_, h6_, h7_, h8_, h9_, h10_, h11_, h12_, h13_, h14_, h15_, h16_, h17_, h18_, h19_, ⟨SN, b9, q9, hN, e11, e12, e13, e16, e17, k17, hq9, hI⟩⟩
        obtain rfl := h5_ d5_0
        obtain rfl := h6_ d6_1
        refine r_indexAddr (i := m) sl_Sint hm' ?_
        exact ⟨h0_, h1_, h2_, h3_, h4_, h5_, h6_, fun _ => rfl, h8_, h9_, h10_, h11_, h12_, h13_, h14_, h15_, h16_, h17_, h18_, h19_, ⟨SN, b9, q9, hN, e11, e12, e13, e16, e17, k17, hq9, hI⟩⟩
      · intro D hD_ d7_0 x11 x10 x9 x52 x51 x50 x37 x49 x48 x47 x46 x45 x44 x43 x42 x41 x40 x39 x38 w_
        rintro ⟨h0_, h1_, h2_, h3_, h4_, h5_, h6_, h7_, h8_, h9_, h10_, h11_, h12_, h13_, h14_, h15_, h16_, h17_, h18_, h19_, ⟨SN, b9, q9, hN, e11, e12, e13, e16, e17, k17, hq9, hI⟩⟩
        obtain rfl := h7_ d7_0
        refine r_load sc_int (by rw [hI.cellS ((hEm.trans hN).1 _ _ hkS)]; exact hkv) ?_
        exact ⟨h0_, h1_, h2_, h3_, h4_, h5_, h6_, h7_, fun _ => rfl, h9_, h10_, h11_, h12_, h13_, h14_, h15_, h16_, h17_, h18_, h19_, ⟨SN, b9, q9, hN, e11, e12, e13, e16, e17, k17, hq9, hI⟩⟩
      · intro D hD_ d4_0 d8_1 x11 x10 x9 x52 x51 x50 x37 x49 x48 x47 x46 x45 x44 x43 x42 x41 x40 x39 x38 w_
        rintro ⟨h0_, h1_, h2_, h3_, h4_, h5_, h6_, h7_, h8_, h9_, h10_, h11_, h12_, h13_, h14_, h15_, h16_, h17_, h18_, h19_, ⟨SN, b9, q9, hN, e11, e12, e13, e16, e17, k17, hq9, hI⟩⟩
        obtain rfl := h4_ d4_0
        obtain rfl := h8_ d8_1
        refine r_indexAddr (i := n) sl_SiClause hnp ?_
        exact ⟨h0_, h1_, h2_, h3_, h4_, h5_, h6_, h7_, h8_, fun _ => rfl, h10_, h11_, h12_, h13_, h14_, h15_, h16_, h17_, h18_, h19_, ⟨SN, b9, q9, hN, e11, e12, e13, e16, e17, k17, hq9, hI⟩⟩
      · intro D hD_ d9_0 x11 x10 x9 x52 x51 x50 x37 x49 x48 x47 x46 x45 x44 x43 x42 x41 x40 x39 x38 w_
        rintro ⟨h0_, h1_, h2_, h3_, h4_, h5_, h6_, h7_, h8_, h9_, h10_, h11_, h12_, h13_, h14_, h15_, h16_, h17_, h18_, h19_, ⟨SN, b9, q9, hN, e11, e12, e13, e16, e17, k17, hq9, hI⟩⟩
        obtain rfl := h9_ d9_0
        refine r_loadA (cs := cs2) ag_iClause hlc2 (fun j v hj => by rw [hI.cellS ((hEa.trans hN).1 _ _ hS2)]; exact cellsAt_get ec2 j v hj) ?_
        exact ⟨h0_, h1_, h2_, h3_, h4_, h5_, h6_, h7_, h8_, h9_, fun _ => rfl, h11_, h12_, h13_, h14_, h15_, h16_, h17_, h18_, h19_, ⟨SN, b9, q9, hN, e11, e12, e13, e16, e17, k17, hq9, hI⟩⟩
      · intro D hD_ d3_0 d10_1 x11 x10 x9 x52 x51 x50 x37 x49 x48 x47 x46 x45 x44 x43 x42 x41 x40 x39 x38 w_
        rintro ⟨h0_, h1_, h2_, h3_, h4_, h5_, h6_, h7_, h8_, h9_, h10_, h11_, h12_, h13_, h14_, h15_, h16_, h17_, h18_, h19_, ⟨SN, b9, q9, hN, e11, e12, e13, e16, e17, k17, hq9, hI⟩⟩
        obtain rfl := h3_ d3_0
        obtain rfl := h10_ d10_1
        refine Run.call0E fn_s_l15Resolvent nm_s_l15Resolvent hI (l15Resolvent_calls hclj.1 hcln.1 (by omega) (by omega) hbne hro1 (hR1.mono (hEa.trans hN).1) (hR2.mono (hEa.trans hN).1)) fun v' I' SN w_ => ?_
        rintro ⟨rfl, es, rfl, hes⟩ hl_ hI
        have hN := hN.trans hl_
        have e12 := fun h => (e12 h).mono hl_.1
        have e13 := fun h => (e13 h).mono hl_.1
        have e17 := fun h => (e17 h).mono hl_.1
        have e11 := fun (_ : setD D 11 11 = true) => (⟨es, rfl, hes⟩ : IsTO SN o (.tuple #[.agg es.toArray, .bool (fitsO o), .bool (okSO o)]))
        rw [List.append_nil] at hI
        exact ⟨h0_, h1_, h2_, h3_, h4_, h5_, h6_, h7_, h8_, h9_, h10_, fun _ => by first | assumption | trivial, h12_, h13_, h14_, h15_, h16_, h17_, h18_, h19_, ⟨SN, b9, q9, hN, e11, e12, e13, e16, e17, k17, hq9, hI⟩⟩
      · intro D hD_ d11_0 x11 x10 x9 x52 x51 x50 x37 x49 x48 x47 x46 x45 x44 x43 x42 x41 x40 x39 x38 w_
        rintro ⟨h0_, h1_, h2_, h3_, h4_, h5_, h6_, h7_, h8_, h9_, h10_, h11_, h12_, h13_, h14_, h15_, h16_, h17_, h18_, h19_, ⟨SN, b9, q9, hN, e11, e12, e13, e16, e17, k17, hq9, hI⟩⟩
        have g11_ := h11_ d11_0
        have e12 := fun (_ : setD D 12 12 = true) => e11 d11_0
        exact ⟨h0_, h1_, h2_, h3_, h4_, h5_, h6_, h7_, h8_, h9_, h10_, h11_, fun _ => by first | assumption | trivial, h13_, h14_, h15_, h16_, h17_, h18_, h19_, ⟨SN, b9, q9, hN, e11, e12, e13, e16, e17, k17, hq9, hI⟩⟩
      · intro D hD_ d12_0 x11 x10 x9 x52 x51 x50 x37 x49 x48 x47 x46 x45 x44 x43 x42 x41 x40 x39 x38 w_
        rintro ⟨h0_, h1_, h2_, h3_, h4_, h5_, h6_, h7_, h8_, h9_, h10_, h11_, h12_, h13_, h14_, h15_, h16_, h17_, h18_, h19_, ⟨SN, b9, q9, hN, e11, e12, e13, e16, e17, k17, hq9, hI⟩⟩
        have g12_ := h12_ d12_0
        obtain ⟨us, q5, hus⟩ := e12 d12_0
        subst q5
        refine r_extract rfl ?_
        have e13 := fun (_ : setD D 13 13 = true) => (⟨us, rfl, hus⟩ : IsC SN (clO o) (.agg us.toArray))
        exact ⟨h0_, h1_, h2_, h3_, h4_, h5_, h6_, h7_, h8_, h9_, h10_, h11_, h12_, fun _ => by first | assumption | trivial, h14_, h15_, h16_, h17_, h18_, h19_, ⟨SN, b9, q9, hN, e11, e12, e13, e16, e17, k17, hq9, hI⟩⟩
      · intro D hD_ d12_0 x11 x10 x9 x52 x51 x50 x37 x49 x48 x47 x46 x45 x44 x43 x42 x41 x40 x39 x38 w_
        rintro ⟨h0_, h1_, h2_, h3_, h4_, h5_, h6_, h7_, h8_, h9_, h10_, h11_, h12_, h13_, h14_, h15_, h16_, h17_, h18_, h19_, ⟨SN, b9, q9, hN, e11, e12, e13, e16, e17, k17, hq9, hI⟩⟩
        have g12_ := h12_ d12_0
        obtain ⟨us, q5, hus⟩ := e12 d12_0
        subst q5
        refine r_extract rfl ?_
        exact ⟨h0_, h1_, h2_, h3_, h4_, h5_, h6_, h7_, h8_, h9_, h10_, h11_, h12_, h13_, fun _ => rfl, h15_, h16_, h17_, h18_, h19_, ⟨SN, b9, q9, hN, e11, e12, e13, e16, e17, k17, hq9, hI⟩⟩
      · intro D hD_ d12_0 x11 x10 x9 x52 x51 x50 x37 x49 x48 x47 x46 x45 x44 x43 x42 x41 x40 x39 x38 w_
        rintro ⟨h0_, h1_, h2_, h3_, h4_, h5_, h6_, h7_, h8_, h9_, h10_, h11_, h12_, h13_, h14_, h15_, h16_, h17_, h18_, h19_, ⟨SN, b9, q9, hN, e11, e12, e13, e16, e17, k17, hq9, hI⟩⟩
        have g12_ := h12_ d12_0
        obtain ⟨us, q5, hus⟩ := e12 d12_0
        subst q5
        refine r_extract rfl ?_
        exact ⟨h0_, h1_, h2_, h3_, h4_, h5_, h6_, h7_, h8_, h9_, h10_, h11_, h12_, h13_, h14_, fun _ => rfl, h16_, h17_, h18_, h19_, ⟨SN, b9, q9, hN, e11, e12, e13, e16, e17, k17, hq9, hI⟩⟩
      · intro D hD_  x11 x10 x9 x52 x51 x50 x37 x49 x48 x47 x46 x45 x44 x43 x42 x41 x40 x39 x38 w_
        rintro ⟨h0_, h1_, h2_, h3_, h4_, h5_, h6_, h7_, h8_, h9_, h10_, h11_, h12_, h13_, h14_, h15_, h16_, h17_, h18_, h19_, ⟨SN, b9, q9, hN, e11, e12, e13, e16, e17, k17, hq9, hI⟩⟩
        rw [hD_] at hI
        refine r_alloc hI zo_iClause fun b9 w_ hI => ?_
        have f17 : D 17 = false := Bool.eq_false_iff.2 fun h => by rw [k17 h] at hD_; cases hD_
        have e16 := fun (_ : setD D 16 16 = true) => (rfl : Value.pointer (some ⟨b9, 0, none⟩) = .pointer (some ⟨b9, 0, none⟩))
        obtain ⟨q9, hqe_⟩ : ∃ q : Array Value, q = #[.int .i64 0, .int .i64 0, .string ⟨#[]⟩, .slice none 0 0, .slice none 0 0] := ⟨_, rfl⟩
        have hq9 : q9.size = 5 := by rw [hqe_]; rfl
        have e17 := fun (h : setD D 16 17 = true) => (False.elim (by rw [show setD D 16 17 = D 17 from rfl, f17] at h; cases h) : IsC SN (clO o) (.agg q9))
        have k17 := fun (_ : setD D 16 17 = true) => (rfl : setD D 16 16 = true)
        have hI : Inv w [] (rowG t6 t_iClause 5 css :: cond true [.blk b9 (.cells q9 t_iClause)] []) SN w_ := by rw [hqe_]; exact hI
        exact ⟨h0_, h1_, h2_, h3_, h4_, h5_, h6_, h7_, h8_, h9_, h10_, h11_, h12_, h13_, h14_, h15_, fun _ => by first | assumption | trivial, h17_, h18_, h19_, ⟨SN, b9, q9, hN, e11, e12, e13, e16, e17, k17, hq9, hI⟩⟩
      · intro D hD_ d16_0 d13_1 d11_2 d0_3 d1_4 d2_5 d3_6 d4_7 d5_8 d6_9 d7_10 d8_11 d9_12 d10_13 d11_14 d12_15 d13_16 d16_17 x11 x10 x9 x52 x51 x50 x37 x49 x48 x47 x46 x45 x44 x43 x42 x41 x40 x39 x38 w_
        rintro ⟨h0_, h1_, h2_, h3_, h4_, h5_, h6_, h7_, h8_, h9_, h10_, h11_, h12_, h13_, h14_, h15_, h16_, h17_, h18_, h19_, ⟨SN, b9, q9, hN, e11, e12, e13, e16, e17, k17, hq9, hI⟩⟩
        have g16_ := h16_ d16_0
        have g13_ := h13_ d13_1
        have q8 := e16 d16_0
        obtain ⟨us, q7, hus⟩ := e13 d13_1
        subst q8
        subst q7
        rw [d16_0] at hI
        refine r_storeW hI 1 rfl ag_iClause (by simpa using hus.length) hq9 (by simpa using hus.one) fun w_ hI => ?_
        have k17 := fun (_ : setD D 17 17 = true) => d16_0
        have e17 := fun (_ : setD D 17 17 = true) => (⟨us, rfl, hus⟩ : IsC SN (clO o) (.agg us.toArray))
        have hq9 : us.toArray.size = 5 := by simpa using hus.length
        obtain ⟨q9, hqe_⟩ : ∃ q : Array Value, q = us.toArray := ⟨_, rfl⟩
        have hI : Inv w [] (rowG t6 t_iClause 5 css :: cond (setD D 17 16) [.blk b9 (.cells q9 t_iClause)] []) SN w_ := by rw [show setD D 17 16 = D 16 from rfl, d16_0, hqe_]; exact hI
        rw [← hqe_] at e17 hq9
        exact ⟨h0_, h1_, h2_, h3_, h4_, h5_, h6_, h7_, h8_, h9_, h10_, h11_, h12_, h13_, h14_, h15_, h16_, fun _ => trivial, h18_, h19_, ⟨SN, b9, q9, hN, e11, e12, e13, e16, e17, k17, hq9, hI⟩⟩
      · intro D hD_ d14_0 d17_1 d0_2 d1_3 d2_4 d3_5 d4_6 d5_7 d6_8 d7_9 d8_10 d9_11 d10_12 d11_13 d12_14 d13_15 d14_16 d16_17 d17_18 x11 x10 x9 x52 x51 x50 x37 x49 x48 x47 x46 x45 x44 x43 x42 x41 x40 x39 x38 w_
        rintro ⟨h0_, h1_, h2_, h3_, h4_, h5_, h6_, h7_, h8_, h9_, h10_, h11_, h12_, h13_, h14_, h15_, h16_, h17_, h18_, h19_, ⟨SN, b9, q9, hN, e11, e12, e13, e16, e17, k17, hq9, hI⟩⟩
        obtain rfl := h14_ d14_0
        exact ⟨h0_, h1_, h2_, h3_, h4_, h5_, h6_, h7_, h8_, h9_, h10_, h11_, h12_, h13_, h14_, h15_, h16_, h17_, fun _ => rfl, h19_, ⟨SN, b9, q9, hN, e11, e12, e13, e16, e17, k17, hq9, hI⟩⟩
      · intro D hD_ d15_0 d18_1 d0_2 d1_3 d2_4 d3_5 d4_6 d5_7 d6_8 d7_9 d8_10 d9_11 d10_12 d11_13 d12_14 d13_15 d14_16 d15_17 d16_18 d17_19 d18_20 x11 x10 x9 x52 x51 x50 x37 x49 x48 x47 x46 x45 x44 x43 x42 x41 x40 x39 x38 w_
        rintro ⟨h0_, h1_, h2_, h3_, h4_, h5_, h6_, h7_, h8_, h9_, h10_, h11_, h12_, h13_, h14_, h15_, h16_, h17_, h18_, h19_, ⟨SN, b9, q9, hN, e11, e12, e13, e16, e17, k17, hq9, hI⟩⟩
        obtain rfl := h15_ d15_0
        exact ⟨h0_, h1_, h2_, h3_, h4_, h5_, h6_, h7_, h8_, h9_, h10_, h11_, h12_, h13_, h14_, h15_, h16_, h17_, h18_, fun _ => rfl, ⟨SN, b9, q9, hN, e11, e12, e13, e16, e17, k17, hq9, hI⟩⟩
      intro D d19_ d18_ d17_ d16_ d15_ d14_ d13_ d12_ d11_ d10_ d9_ d8_ d7_ d6_ d5_ d4_ d3_ d2_ d1_ d0_ x11 x10 x9 x52 x51 x50 x37 x49 x48 x47 x46 x45 x44 x43 x42 x41 x40 x39 x38 w_
      rintro ⟨h0_, h1_, h2_, h3_, h4_, h5_, h6_, h7_, h8_, h9_, h10_, h11_, h12_, h13_, h14_, h15_, h16_, h17_, h18_, h19_, ⟨SN, b9, q9, hN, e11, e12, e13, e16, e17, k17, hq9, hI⟩⟩
      obtain rfl := h19_ d19_
      obtain rfl := h18_ d18_
      have g16_ := h16_ d16_
      obtain rfl := h15_ d15_
      obtain rfl := h14_ d14_
      have g13_ := h13_ d13_
      have g12_ := h12_ d12_
      have g11_ := h11_ d11_
      obtain rfl := h10_ d10_
      obtain rfl := h9_ d9_
      obtain rfl := h8_ d8_
      obtain rfl := h7_ d7_
      obtain rfl := h6_ d6_
      obtain rfl := h5_ d5_
      obtain rfl := h4_ d4_
      obtain rfl := h3_ d3_
      obtain rfl := h2_ d2_
      obtain rfl := h1_ d1_
      obtain rfl := h0_ d0_
      clear h0_ h1_ h2_ h3_ h4_ h5_ h6_ h7_ h8_ h9_ h10_ h11_ h12_ h13_ h14_ h15_ h16_ h17_ h18_ h19_
      have q8 := e16 d16_
      subst q8
      obtain ⟨us, qe, hus⟩ := e17 d17_
      obtain rfl : q9 = us.toArray := by injection qe
      rw [d16_] at hI
      clear e11 e12 e13 e16 e17 k17
      have hI : Inv w [] [rowG t6 t_iClause 5 css, .blk b9 (.cells us.toArray t_iClause)] SN w_ := hI
      have hRN := hRm.monoR fun _ _ h => RdC.mono hN.1 h
      refine r_not ?_
      cases hk : okSO o
      · refine condV (fun _ => ?_) (fun hb => by cases hb)
        obtain ⟨rfl, rfl⟩ := hcase' hk
        refine r_slice0 hI mk_SiClause fun v0 w' hI => ?_
        have hI : Inv w [] ([] ++ (rowG v0 t_iClause 5 [] :: blks ([] : List Heaplet).flatten)) SN w' := hI.pick [false, false, true]
        obtain ⟨L, hT, hI⟩ := Inv.rowTree (R := TrC) hI (Grown.nil 5 TrC)
        exact ⟨_, _, _, rfl, hI, hE1.trans (hEm.trans hN), _, L, rfl, rfl, hT⟩
      refine condV (fun hb => by cases hb) (fun _ => ?_)
      cases hf : fitsO o
      · refine condV (fun hb => by cases hb) (fun _ => ?_)
        refine ⟨css, SN, ?_, hallm hk, hEm.trans hN, hI.pick [true, false]⟩
        rw [hstep, clK_none hf, List.append_nil]
        exact hRN
      · refine condV (fun _ => ?_) (fun hb => by cases hb)
        refine r_loadW hI 1 ag_iClause rfl (by simpa using hus.length) ?_
        refine r_append1 hI 0 us mk_SiClause (by omega) (by omega) rfl hus.length hus.one (by omega) (by omega) fun v' w' hI => ?_
        refine ⟨css ++ [us], SN, ?_, hallm hk, hEm.trans hN, hI.pick [true, false]⟩
        rw [hstep, clK_fits hf hk, ← List.append_assoc]
        exact hRN.snoc hus hus.length
    intro t6' _ _ _ _ _ _ _ _ _ _ _ _ _ _ _ _ _ _ _ _ _ _ _ _ _ _ _ _ _ w'
    rintro ⟨css', SN, hRN, hokN, hEN, hI⟩
    refine r_add (by omega) ?_
    exact ⟨⟨m + 1, css', SN, hm', rfl, hokN, hRN, hEN, hI⟩, by simp [intOf]; omega⟩
  · have hme : m = os.length := by omega
    subst hme
    rw [List.take_length] at hok hRm
    refine r_add (by omega) ?_
    rw [show ((j : Int) + 1) = ((j + 1 : Nat) : Int) by omega]
    refine r_sliceFrom sl_SiClause h (by omega) fun v8 e8 => ?_
    have hEa := hE1.trans hEm
    refine r_appendRd hI 0 mk_SiClause (by omega) rfl (e8.monoC hEa.1) (fun _ _ => RdC.length) (fun _ _ => RdC.one) (by rw [List.length_drop]; omega) (by omega) fun v9 w' c2 hR2 hI => ?_
    have hRq := hRm.append hR2
    have hI : Inv w [] ([] ++ [rowG v9 t_iClause 5 (css ++ c2)]) Sm w' := hI
    obtain ⟨S2, hE2, hrd2, hI⟩ := hI.lendExt
    have hrr : RdSl S2 5 (RdC S2) v9 ((p.take j ++ outL os) ++ p.drop (j + 1)) := (RowRd.rows hRq hrd2).mono (Sle.refl _) fun _ _ h => h.mono hE2.1
    generalize hq : (p.take j ++ outL os) ++ p.drop (j + 1) = q at hrr hqw hcase
    rw [hok] at hcase
    have hEb := hEa.trans hE2
    refine Run.callPure fn_s_ProgramValid nm_s_ProgramValid hI (s_ProgramValid_calls hrr (by omega)) fun w' hI => ?_
    refine r_not ?_
    rcases hcase with ⟨h0, _⟩ | ⟨_, ⟨hv, rfl, rfl⟩ | ⟨hv, rfl, rfl⟩⟩
    · cases h0
    · rw [hv]
      refine condV (fun hb => by cases hb) (fun _ => ?_)
      refine Run.call0 fn_s_l14Copy nm_s_l14Copy hI (l14Copy_calls hrr (by omega)) fun v10 I' S' w' => ?_
      rintro ⟨rfl, M, rfl, hT⟩ _ hI
      exact ⟨_, _, _, rfl, hI, hEb, _, M, rfl, rfl, hT⟩
    · rw [hv]
      refine condV (fun _ => ?_) (fun hb => by cases hb)
      refine r_slice0 hI mk_SiClause fun v0 w' hI => ?_
      have hI : Inv w [] ([] ++ (rowG v0 t_iClause 5 [] :: blks ([] : List Heaplet).flatten)) S2 w' := hI
      obtain ⟨L, hT, hI⟩ := Inv.rowTree (R := TrC) hI (Grown.nil 5 TrC)
      exact ⟨_, _, _, rfl, hI, hEb, _, L, rfl, rfl, hT⟩

end Go.Proofs.YtaaihodhhacapaaGreat

/- impl.UnfoldClause. -/
namespace Go.Proofs.YtaaihodhhacapaaGreat
open Go Go.RowKit
theorem Grown.append {α : Type} {k : Nat} {R : Heaplet → List Value → α → Prop} {Ls Ls' : List Heaplet} {css css' : List (List Value)} {ys ys' : List α} (h : Grown k R Ls css ys) (h' : Grown k R Ls' css' ys') : Grown k R (Ls ++ Ls') (css ++ css') (ys ++ ys') := by
  have e := h.hc
  have e' := h'.hc
  have f := h.hL
  have f' := h'.hL
  refine ⟨by simp [f, f'], by simp [e, e'], fun c hc => ?_, fun i h0 h1 h2 => ?_⟩
  · rcases List.mem_append.1 hc with hc | hc
    · exact h.hk c hc
    · exact h'.hk c hc
  · by_cases hi : i < ys.length
    · rw [List.getElem_append_left (by omega), List.getElem_append_left (by omega), List.getElem_append_left hi]
      exact h.hR i hi (by omega) (by omega)
    · have hi' : i - ys.length < ys'.length := by simp at h0; omega
      rw [List.getElem_append_right (by omega), List.getElem_append_right (by omega), List.getElem_append_right (by omega)]
      have := h'.hR (i - ys.length) hi' (by omega) (by omega)
      simpa only [e, f] using this
theorem Grown.one {Ls : List Heaplet} {css : List (List Value)} {ys : List C} (h : Grown 5 TrC Ls css ys) : ∀ cs ∈ css, ∀ u ∈ cs, u.oneCell' = true := by
  intro cs hcs
  obtain ⟨i, hi, rfl⟩ := List.mem_iff_getElem.1 hcs
  have h1 := h.hc
  have h2 := h.hL
  exact (h.hR i (by omega) (by omega) hi).one
attribute [local irreducible] Run CondV GuardV LoadV
theorem ownProgram_row {p : List C} {S : Store} {v : Value} (h : RdSl S 5 (RdC S) v p) (hw : p.length + wP p ≤ 1048576) : Tri Tryz.prog n_i_ownProgram [v] [] S fun r I' S' => S' = S ∧ ∃ Ls css, I' = rowG r t_iClause 5 css :: blks Ls.flatten ∧ Grown 5 TrC Ls css p := by
  intro w hI
  refine calls_i_ownProgram ?_
  unfold sh_i_ownProgram
  refine r_lenSl h sl_SiClause ?_
  refine ⟨fun i t w' => ∃ (k : Nat) (Ls : List Heaplet) (css : List (List Value)), k ≤ p.length ∧ i = .int .i64 k ∧ Grown 5 TrC Ls css (p.take k) ∧ Inv w [] (rowG t t_iClause 5 css :: blks Ls.flatten) S w',
    fun i _ _ => p.length - (intOf i).toNat, ⟨0, [], [], Nat.zero_le _, rfl, Grown.nil _ _, hI.rowNil t_iClause 5⟩, ?_⟩
  intro t8 _ t3 _ _ _ _ _ _ _ _ _ w'
  rintro ⟨k, Ls, css, hk, rfl, hg, hI⟩
  refine r_lss ?_
  refine condP (fun hki => ?_) (fun hki => ?_)
  · have hk' : k < p.length := by omega
    have htl : (p.take k).length = k := by simp; omega
    have hcl := hg.hc
    refine r_elem hI h sl_SiClause ag_iClause hk' (fun _ _ => RdC.length) fun cs hcs => ?_
    have hm := List.getElem_mem hk'
    have hwm := wP_mem hm
    have hlc := hcs.length
    refine r_alloc hI zo_iClause fun b6 w' hI => ?_
    have hI := hI.perm (M := .blk b6 _ :: (rowG t3 t_iClause 5 css :: blks Ls.flatten)) (List.perm_append_comm (l₁ := [_]))
    refine r_storeW hI 0 rfl ag_iClause (by simpa using hlc) rfl (by simpa using hcs.one) fun w' hI => ?_
    refine r_loadW hI 0 ag_iClause rfl (by simpa using hlc) ?_
    have hI : Inv w [] (rowG t3 t_iClause 5 css :: blks Ls.flatten) S w' := hI.sub (List.sublist_cons_self _ _)
    refine Run.call0 fn_i_ownClause nm_i_ownClause hI (ownClause_calls hcs (by omega)) fun v' I' S' w' => ?_
    rintro ⟨rfl, cs', L, rfl, rfl, hT⟩ _ hI
    refine r_append1 hI 0 cs' mk_SiClause (by omega) (by omega) rfl hT.length hT.one (by omega) (by omega) fun v' w' hI => ?_
    refine r_add (by omega) ?_
    refine ⟨⟨k + 1, Ls ++ [L], css ++ [cs'], hk', rfl, ?_, ?_⟩, by simp [intOf]; omega⟩
    · rw [List.take_succ_eq_append_getElem hk']
      exact hg.snoc hT hT.length
    · simp only [List.flatten_append, List.flatten_cons, List.flatten_nil, List.append_nil, blks_append]
      exact hI
  · have : k = p.length := by omega
    subst this
    rw [List.take_length] at hg
    exact ⟨_, _, _, rfl, hI, Ext.refl _ _ _, rfl, Ls, css, rfl, hg⟩
set_option maxHeartbeats 2000000 in
theorem i_UnfoldClause_calls {p r : List C} {S : Store} {v : Value} {i : Int} {b : Bool} (hr : UB p i r b) (h : RdSl S 5 (RdC S) v p) (hw : p.length + wP p ≤ 1048576) : Tri Tryz.prog n_i_UnfoldClause [v, .int .i64 i] [] S (PostCO r b) := by
  intro w hI
  refine calls_i_UnfoldClause ?_
  unfold sh_i_UnfoldClause
  refine Run.callPure fn_i_CanUnfold nm_i_CanUnfold hI (iCanUnfold_calls i h hw) fun w' hI => ?_
  refine r_not ?_
  rcases hr with ⟨hu, rfl, rfl⟩ | ⟨hu, os, hos, hcase⟩
  · rw [hu]
    refine condV (fun _ => ?_) (fun hb => by cases hb)
    exact ⟨_, _, _, rfl, hI, Ext.refl _ _ _, _, [], rfl, rfl, TrSl.nil (by simp [maxLen])⟩
  rw [hu]
  refine condV (fun hb => by cases hb) (fun _ => ?_)
  obtain ⟨hpv, j, hj, rfl, hfst⟩ := unf_info hu
  obtain ⟨g, gs, hbd, hpl⟩ := first_iff hfst
  obtain ⟨hp20, hpall⟩ := prog_all hpv
  obtain ⟨hosw, hosl, hqw⟩ := unfP_w hu hos
  rw [ksOf_eq hj hbd] at hos
  rw [Int.toNat_natCast] at hos
  have hunf : ∀ os, unfP p j os = (p.take j ++ outL os) ++ p.drop (j + 1) := fun os => by rw [unfP, Int.toNat_natCast]
  rw [hunf] at hcase hqw
  have hbne : p[j].body ≠ [] := by rw [hbd]; simp
  have hbl : 0 < p[j].body.length := by rw [hbd]; simp
  have hg0 : p[j].body[0] = g := by simp [hbd]
  obtain ⟨vb, vo, vcap, rfl⟩ := h.some (by omega)
  obtain ⟨c1, E1, fz1, cs1, hS1, ec1, hR1⟩ := h.clauseAt hj
  have hlc1 := hR1.length
  have hwt : (p.take j).length + wP (p.take j) ≤ 1048576 := by
    have := wP_le (b := 6000) (p := p.take j) fun c hc => (hpall c (List.mem_of_mem_take hc)).2
    have h2 : (p.take j).length ≤ 20 := by simp only [List.length_take]; omega
    have h3 : (p.take j).length * 6000 ≤ 20 * 6000 := Nat.mul_le_mul_right _ h2
    omega
  have hwd : (p.drop (j + 1)).length + wP (p.drop (j + 1)) ≤ 1048576 := by
    have := wP_le (b := 6000) (p := p.drop (j + 1)) fun c hc => (hpall c (List.mem_of_mem_drop hc)).2
    have h2 : (p.drop (j + 1)).length ≤ 20 := by simp only [List.length_drop]; omega
    have h3 : (p.drop (j + 1)).length * 6000 ≤ 20 * 6000 := Nat.mul_le_mul_right _ h2
    omega
  refine r_sliceTo sl_SiClause h (by omega) fun v3 e3 => ?_
  refine Run.call0 fn_i_ownProgram nm_i_ownProgram hI (ownProgram_row e3 hwt) fun v4 I' S' w' => ?_
  rintro ⟨eS, Ls0, css0, rfl, hg00⟩ _ hI
  rw [eS] at hI
  have hI : Inv w [] (rowG v4 t_iClause 5 css0 :: blks Ls0.flatten) S w' := hI
  refine r_elemX hI h sl_SiClause fo_iClause_1 sc_SiTerm hj fun cs' hcs' => ?_
  obtain ⟨hd, ks', rfl, h1, h2⟩ := hcs'
  obtain ⟨kv, rfl, _⟩ := RdT.iff.1 h1
  refine ⟨ks', rfl, ?_⟩
  refine r_elem (i := 0) hI h2 sl_SiTerm ag_iTerm hbl (fun _ _ => RdT.length) fun cs' hcs' => ?_
  rw [hg0] at hcs'
  refine Run.callPure fn_i_pred nm_i_pred hI (i_pred_calls hcs') fun w' hI => ?_
  refine Run.call0 fn_i_clausesFor nm_i_clausesFor hI (clausesFor_calls (predT g) h (by omega)) fun v1 I' S' w' => ?_
  rintro ⟨rfl, eS⟩ _ hI
  rw [eS] at hI
  have hI : Inv w [] ((rowG v4 t_iClause 5 css0 :: blks Ls0.flatten) ++ [rowI v1 (forL p g)]) S w' := hI
  obtain ⟨S1, hE1, hrd, hI⟩ := hI.lendExtR
  have hkr := hrd.ints
  have hmem : ∀ n ∈ forL p g, ∃ m : Nat, n = m ∧ m < p.length := fun n hn => forL_mem hn
  have hll : (forL p g).length ≤ p.length := posOf_len _ p 0
  generalize forL p g = ks at hkr hmem hll hos
  obtain ⟨hol, hro⟩ := hos
  refine r_lenSl hkr sl_Sint ?_
  refine ⟨fun i t w' => ∃ (m : Nat) (Ls : List Heaplet) (css : List (List Value)) (Sm : Store), m ≤ ks.length ∧ i = .int .i64 m ∧ (os.take m).all okSO = true ∧ Grown 5 TrC Ls css (p.take j ++ outL (os.take m)) ∧ Ext w.heap.size [] S1 Sm ∧ Inv w [] (rowG t t_iClause 5 css :: blks Ls.flatten) Sm w',
    fun i _ _ => ks.length - (intOf i).toNat, ⟨0, Ls0, css0, S1, Nat.zero_le _, rfl, by rw [List.take_zero]; rfl, by rw [List.take_zero, outL, List.append_nil]; exact hg00, Ext.refl _ _ _, hI⟩, ?_⟩
  intro t31 _ t6 _ _ _ _ _ _ _ _ _ _ _ _ t11 t10 t9 t47 t46 t45 t35 t44 t43 t42 t41 t40 t39 t38 t37 t36 _ _ _ _ w'
  rintro ⟨m, Ls, css, Sm, hm, rfl, hok, hGm, hEm, hI⟩
  refine r_lss ?_
  have hcl := hGm.hc
  have hotl := outL_w (os := os.take m) fun o ho => hosw o (List.mem_of_mem_take ho)
  have htl : (os.take m).length ≤ 20 := by simp only [List.length_take]; omega
  have hcl20 : css.length ≤ 40 := by
    rw [hcl, List.length_append, List.length_take]
    omega
  refine condP (fun hmi => ?_) (fun hmi => ?_)
  · have hm' : m < ks.length := by omega
    have hmo : m < os.length := by omega
    obtain ⟨n, hn, hnp⟩ := hmem _ (List.getElem_mem hm')
    obtain ⟨_, hk1, hro1⟩ := hro m hm' hmo
    have hpn : p[ks[m].toNat] = p[n] := by congr 1; omega
    rw [hpn] at hro1
    have hstep := outL_take hmo
    have hclj := hpall _ (List.getElem_mem hj)
    have hcln := hpall _ (List.getElem_mem hnp)
    have hcase' : okSO os[m] = false → r = [] ∧ b = false := fun hk => by
      have : os.all okSO = false := by
        cases ha : os.all okSO with
        | false => rfl
        | true =>
          rw [List.all_eq_true] at ha
          rw [ha _ (List.getElem_mem hmo)] at hk
          cases hk
      rcases hcase with ⟨_, h1, h2⟩ | ⟨h1, _⟩
      · exact ⟨h1, h2⟩
      · rw [this] at h1; cases h1
    have hallm : okSO os[m] = true → (os.take (m + 1)).all okSO = true := fun hk => all_take hmo hok hk
    generalize os[m] = o at hro1 hstep hcase' hallm
    obtain ⟨c2, E2, fz2, cs2, hS2, ec2, hR2⟩ := h.clauseAt hnp
    have hlc2 := hR2.length
    have hEa := hE1.trans hEm
    refine ⟨fun t w' => ∃ Ls' css' SN, Grown 5 TrC Ls' css' (p.take j ++ outL (os.take (m + 1))) ∧ (os.take (m + 1)).all okSO = true ∧ Ext w.heap.size [] S1 SN ∧ Inv w [] (rowG t t_iClause 5 css' :: blks Ls'.flatten) SN w', ?_, ?_⟩
    · refine r_elem1 hI (hkr.mono hEm.1 fun _ _ h => h) sl_Sint sc_int hm' (fun cs hcs => hcs) ?_
      rw [hn]
      refine ⟨fun D x11 x10 x9 x47 x46 x45 x35 x44 x43 x42 x41 x40 x39 x38 x37 x36 w_ => (D 0 = true → x36 = .slice (some ⟨vb, vo, none⟩) p.length vcap) ∧ (D 1 = true → x37 = .int .i64 j) ∧ (D 2 = true → x38 = .pointer (some ⟨vb, vo + j * 5, none⟩)) ∧ (D 3 = true → x39 = .agg (List.toArray cs1)) ∧ (D 4 = true → x40 = .slice (some ⟨vb, vo, none⟩) p.length vcap) ∧ (D 5 = true → x41 = .int .i64 n) ∧ (D 6 = true → x42 = .pointer (some ⟨vb, vo + n * 5, none⟩)) ∧ (D 7 = true → x43 = .agg (List.toArray cs2)) ∧ (D 8 = true → True) ∧ (D 9 = true → True) ∧ (D 10 = true → True) ∧ (D 11 = true → x46 = .bool (fitsO o)) ∧ (D 12 = true → x47 = .bool (okIO o)) ∧ (D 13 = true → True) ∧ (D 14 = true → True) ∧ (D 15 = true → x10 = .bool (fitsO o)) ∧ (D 16 = true → x11 = .bool (okIO o)) ∧ ∃ SN G es b9 q9, Ext w.heap.size [] Sm SN ∧ (D 8 = true → x44 = .tuple #[.agg es.toArray, .bool (fitsO o), .bool (okIO o)] ∧ TrC G es (clO o)) ∧ (D 9 = true → D 8 = true ∧ x35 = .tuple #[.agg es.toArray, .bool (fitsO o), .bool (okIO o)]) ∧ (D 10 = true → D 8 = true ∧ x45 = .agg es.toArray) ∧ (D 13 = true → x9 = .pointer (some ⟨b9, 0, none⟩)) ∧ (D 14 = true → D 8 = true ∧ D 13 = true ∧ q9 = es.toArray) ∧ q9.size = 5 ∧ Inv w [] (rowG t6 t_iClause 5 css :: (cond (D 13) [.blk b9 (.cells q9 t_iClause)] [] ++ (blks Ls.flatten ++ cond (D 8) (blks G) []))) SN w_, ⟨fun h => Bool.noConfusion h, fun h => Bool.noConfusion h, fun h => Bool.noConfusion h, fun h => Bool.noConfusion h, fun h => Bool.noConfusion h, fun h => Bool.noConfusion h, fun h => Bool.noConfusion h, fun h => Bool.noConfusion h, fun h => Bool.noConfusion h, fun h => Bool.noConfusion h, fun h => Bool.noConfusion h, fun h => Bool.noConfusion h, fun h => Bool.noConfusion h, fun h => Bool.noConfusion h, fun h => Bool.noConfusion h, fun h => Bool.noConfusion h, fun h => Bool.noConfusion h, ⟨Sm, [], [], 0, #[.int .i64 0, .int .i64 0, .string ⟨#[]⟩, .slice none 0 0, .slice none 0 0], Ext.refl _ _ _, fun h => Bool.noConfusion h, fun h => Bool.noConfusion h, fun h => Bool.noConfusion h, fun h => Bool.noConfusion h, fun h => Bool.noConfusion h, rfl, (by have := hI.draw; simpa using this)⟩⟩, ⟨?_, ?_, ?_, ?_, ?_, ?_, ?_, ?_, ?_, ?_, ?_, ?_, ?_, ?_, ?_, ?_, ?_, trivial⟩, ?_⟩
      · intro D hD_  x11 x10 x9 x47 x46 x45 x35 x44 x43 x42 x41 x40 x39 x38 x37 x36 w_
        rintro ⟨h0_, h1_, h2_, h3_, h4_, h5_, h6_, h7_, h8_, h9_, h10_, h11_, h12_, h13_, h14_, h15_, h16_, ⟨SN, G, es, b9, q9, hN, e8, e9, e10, e13, e14, hq9, hI⟩⟩
        exact ⟨fun _ => rfl, h1_, h2_, h3_, h4_, h5_, h6_, h7_, h8_, h9_, h10_, h11_, h12_, h13_, h14_, h15_, h16_, ⟨SN, G, es, b9, q9, hN, e8, e9, e10, e13, e14, hq9, hI⟩⟩
      · intro D hD_  x11 x10 x9 x47 x46 x45 x35 x44 x43 x42 x41 x40 x39 x38 x37 x36 w_
        rintro ⟨h0_, h1_, h2_, h3_, h4_, h5_, h6_, h7_, h8_, h9_, h10_, h11_, h12_, h13_, h14_, h15_, h16_, ⟨SN, G, es, b9, q9, hN, e8, e9, e10, e13, e14, hq9, hI⟩⟩
        exact ⟨h0_, fun _ => rfl, h2_, h3_, h4_, h5_, h6_, h7_, h8_, h9_, h10_, h11_, h12_, h13_, h14_, h15_, h16_, ⟨SN, G, es, b9, q9, hN, e8, e9, e10, e13, e14, hq9, hI⟩⟩
      · intro D hD_ d0_0 d1_1 x11 x10 x9 x47 x46 x45 x35 x44 x43 x42 x41 x40 x39 x38 x37 x36 w_
        rintro ⟨h0_, h1_, h2_, h3_, h4_, h5_, h6_, h7_, h8_, h9_, h10_, h11_, h12_, h13_, h14_, h15_, h16_, ⟨SN, G, es, b9, q9, hN, e8, e9, e10, e13, e14, hq9, hI⟩⟩
        obtain rfl := h0_ d0_0
        obtain rfl := h1_ d1_1
        refine r_indexAddr (i := j) sl_SiClause hj ?_
        exact ⟨h0_, h1_, fun _ => rfl, h3_, h4_, h5_, h6_, h7_, h8_, h9_, h10_, h11_, h12_, h13_, h14_, h15_, h16_, ⟨SN, G, es, b9, q9, hN, e8, e9, e10, e13, e14, hq9, hI⟩⟩
      · intro D hD_ d2_0 x11 x10 x9 x47 x46 x45 x35 x44 x43 x42 x41 x40 x39 x38 x37 x36 w_
        rintro ⟨h0_, h1_, h2_, h3_, h4_, h5_, h6_, h7_, h8_, h9_, h10_, h11_, h12_, h13_, h14_, h15_, h16_, ⟨SN, G, es, b9, q9, hN, e8, e9, e10, e13, e14, hq9, hI⟩⟩
        obtain rfl := h2_ d2_0
        refine r_loadA (cs := cs1) ag_iClause hlc1 (fun j v hj => by rw [hI.cellS ((hEa.trans hN).1 _ _ hS1)]; exact cellsAt_get ec1 j v hj) ?_
        exact ⟨h0_, h1_, h2_, fun _ => rfl, h4_, h5_, h6_, h7_, h8_, h9_, h10_, h11_, h12_, h13_, h14_, h15_, h16_, ⟨SN, G, es, b9, q9, hN, e8, e9, e10, e13, e14, hq9, hI⟩⟩
      · intro D hD_  x11 x10 x9 x47 x46 x45 x35 x44 x43 x42 x41 x40 x39 x38 x37 x36 w_
        rintro ⟨h0_, h1_, h2_, h3_, h4_, h5_, h6_, h7_, h8_, h9_, h10_, h11_, h12_, h13_, h14_, h15_, h16_, ⟨SN, G, es, b9, q9, hN, e8, e9, e10, e13, e14, hq9, hI⟩⟩
        exact ⟨h0_, h1_, h2_, h3_, fun _ => rfl, h5_, h6_, h7_, h8_, h9_, h10_, h11_, h12_, h13_, h14_, h15_, h16_, ⟨SN, G, es, b9, q9, hN, e8, e9, e10, e13, e14, hq9, hI⟩⟩
      · intro D hD_  x11 x10 x9 x47 x46 x45 x35 x44 x43 x42 x41 x40 x39 x38 x37 x36 w_
        rintro ⟨h0_, h1_, h2_, h3_, h4_, h5_, h6_, h7_, h8_, h9_, h10_, h11_, h12_, h13_, h14_, h15_, h16_, ⟨SN, G, es, b9, q9, hN, e8, e9, e10, e13, e14, hq9, hI⟩⟩
        exact ⟨h0_, h1_, h2_, h3_, h4_, fun _ => rfl, h6_, h7_, h8_, h9_, h10_, h11_, h12_, h13_, h14_, h15_, h16_, ⟨SN, G, es, b9, q9, hN, e8, e9, e10, e13, e14, hq9, hI⟩⟩
      · intro D hD_ d4_0 d5_1 x11 x10 x9 x47 x46 x45 x35 x44 x43 x42 x41 x40 x39 x38 x37 x36 w_
        rintro ⟨h0_, h1_, h2_, h3_, h4_, h5_, h6_, h7_, h8_, h9_, h10_, h11_, h12_, h13_, h14_, h15_, h16_, ⟨SN, G, es, b9, q9, hN, e8, e9, e10, e13, e14, hq9, hI⟩⟩
        obtain rfl := h4_ d4_0
        obtain rfl := h5_ d5_1
        refine r_indexAddr (i := n) sl_SiClause hnp ?_
        exact ⟨h0_, h1_, h2_, h3_, h4_, h5_, fun _ => rfl, h7_, h8_, h9_, h10_, h11_, h12_, h13_, h14_, h15_, h16_, ⟨SN, G, es, b9, q9, hN, e8, e9, e10, e13, e14, hq9, hI⟩⟩
      · intro D hD_ d6_0 x11 x10 x9 x47 x46 x45 x35 x44 x43 x42 x41 x40 x39 x38 x37 x36 w_
        rintro ⟨h0_, h1_, h2_, h3_, h4_, h5_, h6_, h7_, h8_, h9_, h10_, h11_, h12_, h13_, h14_, h15_, h16_, ⟨SN, G, es, b9, q9, hN, e8, e9, e10, e13, e14, hq9, hI⟩⟩
        obtain rfl := h6_ d6_0
        refine r_loadA (cs := cs2) ag_iClause hlc2 (fun j v hj => by rw [hI.cellS ((hEa.trans hN).1 _ _ hS2)]; exact cellsAt_get ec2 j v hj) ?_
        exact ⟨h0_, h1_, h2_, h3_, h4_, h5_, h6_, fun _ => rfl, h8_, h9_, h10_, h11_, h12_, h13_, h14_, h15_, h16_, ⟨SN, G, es, b9, q9, hN, e8, e9, e10, e13, e14, hq9, hI⟩⟩
      · intro D hD_ d3_0 d7_1 x11 x10 x9 x47 x46 x45 x35 x44 x43 x42 x41 x40 x39 x38 x37 x36 w_
        rintro ⟨h0_, h1_, h2_, h3_, h4_, h5_, h6_, h7_, h8_, h9_, h10_, h11_, h12_, h13_, h14_, h15_, h16_, ⟨SN, G, es, b9, q9, hN, e8, e9, e10, e13, e14, hq9, hI⟩⟩
        obtain rfl := h3_ d3_0
        obtain rfl := h7_ d7_1
        rw [hD_] at hI
        refine Run.call0E fn_i_resolvent nm_i_resolvent hI (i_resolvent_calls hclj.1 hcln.1 (by omega) (by omega) hbne hro1 (hR1.mono (hEa.trans hN).1) (hR2.mono (hEa.trans hN).1)) fun v' I' SN w_ => ?_
        rintro ⟨es, G, rfl, rfl, hG⟩ hl_ hI
        have hN := hN.trans hl_
        have e9 := fun (h : setD D 8 9 = true) => (absurd (e9 h).1 (by rw [hD_]; decide) : setD D 8 8 = true ∧ x35 = .tuple #[.agg es.toArray, .bool (fitsO o), .bool (okIO o)])
        have e10 := fun (h : setD D 8 10 = true) => (absurd (e10 h).1 (by rw [hD_]; decide) : setD D 8 8 = true ∧ x45 = .agg es.toArray)
        have e14 := fun (h : setD D 8 14 = true) => (absurd (e14 h).1 (by rw [hD_]; decide) : setD D 8 8 = true ∧ setD D 8 13 = true ∧ q9 = es.toArray)
        have e8 := fun (_ : setD D 8 8 = true) => (⟨rfl, hG⟩ : Value.tuple #[.agg es.toArray, .bool (fitsO o), .bool (okIO o)] = .tuple #[.agg es.toArray, .bool (fitsO o), .bool (okIO o)] ∧ TrC G es (clO o))
        have hI : Inv w [] (rowG t6 t_iClause 5 css :: (cond (D 13) [.blk b9 (.cells q9 t_iClause)] [] ++ (blks Ls.flatten ++ cond true (blks G) []))) SN w_ := by simpa using hI
        exact ⟨h0_, h1_, h2_, h3_, h4_, h5_, h6_, h7_, fun _ => by first | assumption | trivial, h9_, h10_, h11_, h12_, h13_, h14_, h15_, h16_, ⟨SN, G, es, b9, q9, hN, e8, e9, e10, e13, e14, hq9, hI⟩⟩
      · intro D hD_ d8_0 x11 x10 x9 x47 x46 x45 x35 x44 x43 x42 x41 x40 x39 x38 x37 x36 w_
        rintro ⟨h0_, h1_, h2_, h3_, h4_, h5_, h6_, h7_, h8_, h9_, h10_, h11_, h12_, h13_, h14_, h15_, h16_, ⟨SN, G, es, b9, q9, hN, e8, e9, e10, e13, e14, hq9, hI⟩⟩
        have g8_ := h8_ d8_0
        have e9 := fun (_ : setD D 9 9 = true) => (⟨d8_0, (e8 d8_0).1⟩ : setD D 9 8 = true ∧ x44 = .tuple #[.agg es.toArray, .bool (fitsO o), .bool (okIO o)])
        exact ⟨h0_, h1_, h2_, h3_, h4_, h5_, h6_, h7_, h8_, fun _ => by first | assumption | trivial, h10_, h11_, h12_, h13_, h14_, h15_, h16_, ⟨SN, G, es, b9, q9, hN, e8, e9, e10, e13, e14, hq9, hI⟩⟩
      · intro D hD_ d9_0 x11 x10 x9 x47 x46 x45 x35 x44 x43 x42 x41 x40 x39 x38 x37 x36 w_
        rintro ⟨h0_, h1_, h2_, h3_, h4_, h5_, h6_, h7_, h8_, h9_, h10_, h11_, h12_, h13_, h14_, h15_, h16_, ⟨SN, G, es, b9, q9, hN, e8, e9, e10, e13, e14, hq9, hI⟩⟩
        have g9_ := h9_ d9_0
        obtain ⟨f8, q5⟩ := e9 d9_0
        subst q5
        refine r_extract rfl ?_
        have e10 := fun (_ : setD D 10 10 = true) => (⟨f8, rfl⟩ : setD D 10 8 = true ∧ Value.agg es.toArray = .agg es.toArray)
        exact ⟨h0_, h1_, h2_, h3_, h4_, h5_, h6_, h7_, h8_, h9_, fun _ => by first | assumption | trivial, h11_, h12_, h13_, h14_, h15_, h16_, ⟨SN, G, es, b9, q9, hN, e8, e9, e10, e13, e14, hq9, hI⟩⟩
      · intro D hD_ d9_0 x11 x10 x9 x47 x46 x45 x35 x44 x43 x42 x41 x40 x39 x38 x37 x36 w_
        rintro ⟨h0_, h1_, h2_, h3_, h4_, h5_, h6_, h7_, h8_, h9_, h10_, h11_, h12_, h13_, h14_, h15_, h16_, ⟨SN, G, es, b9, q9, hN, e8, e9, e10, e13, e14, hq9, hI⟩⟩
        have g9_ := h9_ d9_0
        obtain ⟨f8, q5⟩ := e9 d9_0
        subst q5
        refine r_extract rfl ?_
        exact ⟨h0_, h1_, h2_, h3_, h4_, h5_, h6_, h7_, h8_, h9_, h10_, fun _ => rfl, h12_, h13_, h14_, h15_, h16_, ⟨SN, G, es, b9, q9, hN, e8, e9, e10, e13, e14, hq9, hI⟩⟩
      · intro D hD_ d9_0 x11 x10 x9 x47 x46 x45 x35 x44 x43 x42 x41 x40 x39 x38 x37 x36 w_
        rintro ⟨h0_, h1_, h2_, h3_, h4_, h5_, h6_, h7_, h8_, h9_, h10_, h11_, h12_, h13_, h14_, h15_, h16_, ⟨SN, G, es, b9, q9, hN, e8, e9, e10, e13, e14, hq9, hI⟩⟩
        have g9_ := h9_ d9_0
        obtain ⟨f8, q5⟩ := e9 d9_0
        subst q5
        refine r_extract rfl ?_
        exact ⟨h0_, h1_, h2_, h3_, h4_, h5_, h6_, h7_, h8_, h9_, h10_, h11_, fun _ => rfl, h13_, h14_, h15_, h16_, ⟨SN, G, es, b9, q9, hN, e8, e9, e10, e13, e14, hq9, hI⟩⟩
      · intro D hD_  x11 x10 x9 x47 x46 x45 x35 x44 x43 x42 x41 x40 x39 x38 x37 x36 w_
        rintro ⟨h0_, h1_, h2_, h3_, h4_, h5_, h6_, h7_, h8_, h9_, h10_, h11_, h12_, h13_, h14_, h15_, h16_, ⟨SN, G, es, b9, q9, hN, e8, e9, e10, e13, e14, hq9, hI⟩⟩
        rw [hD_] at hI
        refine r_alloc hI zo_iClause fun b9 w_ hI => ?_
        have e13 := fun (_ : setD D 13 13 = true) => (rfl : Value.pointer (some ⟨b9, 0, none⟩) = .pointer (some ⟨b9, 0, none⟩))
        obtain ⟨q9, hqe_⟩ : ∃ q : Array Value, q = #[.int .i64 0, .int .i64 0, .string ⟨#[]⟩, .slice none 0 0, .slice none 0 0] := ⟨_, rfl⟩
        have hq9 : q9.size = 5 := by rw [hqe_]; rfl
        have e14 := fun (h : setD D 13 14 = true) => (absurd (e14 h).2.1 (by rw [hD_]; decide) : setD D 13 8 = true ∧ setD D 13 13 = true ∧ q9 = es.toArray)
        have hI : Inv w [] ((rowG t6 t_iClause 5 css :: (blks Ls.flatten ++ cond (D 8) (blks G) [])) ++ [.blk b9 (.cells q9 t_iClause)]) SN w_ := by rw [hqe_]; exact hI
        have hI := hI.perm (M := rowG t6 t_iClause 5 css :: (cond true [.blk b9 (.cells q9 t_iClause)] [] ++ (blks Ls.flatten ++ cond (D 8) (blks G) []))) ((List.perm_append_comm (l₁ := [.blk b9 (.cells q9 t_iClause)]) (l₂ := blks Ls.flatten ++ cond (D 8) (blks G) [])).cons _)
        exact ⟨h0_, h1_, h2_, h3_, h4_, h5_, h6_, h7_, h8_, h9_, h10_, h11_, h12_, fun _ => by first | assumption | trivial, h14_, h15_, h16_, ⟨SN, G, es, b9, q9, hN, e8, e9, e10, e13, e14, hq9, hI⟩⟩
      · intro D hD_ d13_0 d10_1 d8_2 d0_3 d1_4 d2_5 d3_6 d4_7 d5_8 d6_9 d7_10 d8_11 d9_12 d10_13 d13_14 x11 x10 x9 x47 x46 x45 x35 x44 x43 x42 x41 x40 x39 x38 x37 x36 w_
        rintro ⟨h0_, h1_, h2_, h3_, h4_, h5_, h6_, h7_, h8_, h9_, h10_, h11_, h12_, h13_, h14_, h15_, h16_, ⟨SN, G, es, b9, q9, hN, e8, e9, e10, e13, e14, hq9, hI⟩⟩
        have g13_ := h13_ d13_0
        have g10_ := h10_ d10_1
        have q8 := e13 d13_0
        obtain ⟨f8, q7⟩ := e10 d10_1
        have hT := (e8 f8).2
        subst q8
        subst q7
        rw [d13_0] at hI
        refine r_storeW hI 1 rfl ag_iClause (by simpa using hT.length) hq9 (by simpa using hT.one) fun w_ hI => ?_
        have hq9 : es.toArray.size = 5 := by simpa using hT.length
        obtain ⟨q9, hqe_⟩ : ∃ q : Array Value, q = es.toArray := ⟨_, rfl⟩
        have e14 := fun (_ : setD D 14 14 = true) => (⟨f8, d13_0, hqe_⟩ : setD D 14 8 = true ∧ setD D 14 13 = true ∧ q9 = es.toArray)
        have hI : Inv w [] (rowG t6 t_iClause 5 css :: (cond (setD D 14 13) [.blk b9 (.cells q9 t_iClause)] [] ++ (blks Ls.flatten ++ cond (D 8) (blks G) []))) SN w_ := by rw [show setD D 14 13 = D 13 from rfl, d13_0, hqe_]; exact hI
        rw [← hqe_] at hq9
        exact ⟨h0_, h1_, h2_, h3_, h4_, h5_, h6_, h7_, h8_, h9_, h10_, h11_, h12_, h13_, fun _ => trivial, h15_, h16_, ⟨SN, G, es, b9, q9, hN, e8, e9, e10, e13, e14, hq9, hI⟩⟩
      · intro D hD_ d11_0 d14_1 d0_2 d1_3 d2_4 d3_5 d4_6 d5_7 d6_8 d7_9 d8_10 d9_11 d10_12 d11_13 d13_14 d14_15 x11 x10 x9 x47 x46 x45 x35 x44 x43 x42 x41 x40 x39 x38 x37 x36 w_
        rintro ⟨h0_, h1_, h2_, h3_, h4_, h5_, h6_, h7_, h8_, h9_, h10_, h11_, h12_, h13_, h14_, h15_, h16_, ⟨SN, G, es, b9, q9, hN, e8, e9, e10, e13, e14, hq9, hI⟩⟩
        obtain rfl := h11_ d11_0
        exact ⟨h0_, h1_, h2_, h3_, h4_, h5_, h6_, h7_, h8_, h9_, h10_, h11_, h12_, h13_, h14_, fun _ => rfl, h16_, ⟨SN, G, es, b9, q9, hN, e8, e9, e10, e13, e14, hq9, hI⟩⟩
      · intro D hD_ d12_0 d15_1 d0_2 d1_3 d2_4 d3_5 d4_6 d5_7 d6_8 d7_9 d8_10 d9_11 d10_12 d11_13 d12_14 d13_15 d14_16 d15_17 x11 x10 x9 x47 x46 x45 x35 x44 x43 x42 x41 x40 x39 x38 x37 x36 w_
        rintro ⟨h0_, h1_, h2_, h3_, h4_, h5_, h6_, h7_, h8_, h9_, h10_, h11_, h12_, h13_, h14_, h15_, h16_, ⟨SN, G, es, b9, q9, hN, e8, e9, e10, e13, e14, hq9, hI⟩⟩
        obtain rfl := h12_ d12_0
        exact ⟨h0_, h1_, h2_, h3_, h4_, h5_, h6_, h7_, h8_, h9_, h10_, h11_, h12_, h13_, h14_, h15_, fun _ => rfl, ⟨SN, G, es, b9, q9, hN, e8, e9, e10, e13, e14, hq9, hI⟩⟩
      intro D d16_ d15_ d14_ d13_ d12_ d11_ d10_ d9_ d8_ d7_ d6_ d5_ d4_ d3_ d2_ d1_ d0_ x11 x10 x9 x47 x46 x45 x35 x44 x43 x42 x41 x40 x39 x38 x37 x36 w_
      rintro ⟨h0_, h1_, h2_, h3_, h4_, h5_, h6_, h7_, h8_, h9_, h10_, h11_, h12_, h13_, h14_, h15_, h16_, ⟨SN, G, es, b9, q9, hN, e8, e9, e10, e13, e14, hq9, hI⟩⟩
      obtain rfl := h16_ d16_
      obtain rfl := h15_ d15_
      have g13_ := h13_ d13_
      obtain rfl := h12_ d12_
      obtain rfl := h11_ d11_
      have g10_ := h10_ d10_
      have g9_ := h9_ d9_
      have g8_ := h8_ d8_
      obtain rfl := h7_ d7_
      obtain rfl := h6_ d6_
      obtain rfl := h5_ d5_
      obtain rfl := h4_ d4_
      obtain rfl := h3_ d3_
      obtain rfl := h2_ d2_
      obtain rfl := h1_ d1_
      obtain rfl := h0_ d0_
      clear h0_ h1_ h2_ h3_ h4_ h5_ h6_ h7_ h8_ h9_ h10_ h11_ h12_ h13_ h14_ h15_ h16_
      have q8 := e13 d13_
      subst q8
      obtain ⟨_, _, qe⟩ := e14 d14_
      subst qe
      have hT := (e8 d8_).2
      rw [d13_, d8_] at hI
      clear e8 e9 e10 e13 e14
      have hI : Inv w [] ([rowG t6 t_iClause 5 css, .blk b9 (.cells es.toArray t_iClause)] ++ (blks Ls.flatten ++ blks G)) SN w_ := hI
      refine ⟨fun t w' => t = .bool (!okSO o) ∧ Inv w [] ([rowG t6 t_iClause 5 css, .blk b9 (.cells es.toArray t_iClause)] ++ (blks Ls.flatten ++ blks G)) SN w', ?_, ?_⟩
      · rw [← okSO_stop]
        cases hf : fitsO o
        · repeat (first | refine guard_true ?_ | refine guard_ne (by decide) ?_ | refine guard_undef ?_ | refine r_pickT ?_ | refine r_pickF ?_)
          exact ⟨rfl, hI⟩
        repeat (first | refine guard_true ?_ | refine guard_ne (by decide) ?_ | refine guard_undef ?_ | refine r_pickT ?_ | refine r_pickF ?_)
        refine r_not ?_
        repeat (first | refine guard_true ?_ | refine guard_ne (by decide) ?_ | refine guard_undef ?_ | refine r_pickT ?_ | refine r_pickF ?_)
        exact ⟨rfl, hI⟩
      intro t _ _ _ _ w'
      rintro ⟨rfl, hI⟩
      cases hk : okSO o
      · refine condV (fun _ => ?_) (fun hb => by cases hb)
        obtain ⟨rfl, rfl⟩ := hcase' hk
        exact ⟨_, _, _, rfl, hI.sub (List.nil_sublist _), hE1.trans (hEm.trans hN), _, [], rfl, rfl, TrSl.nil (by simp [maxLen])⟩
      refine condV (fun hb => by cases hb) (fun _ => ?_)
      cases hf : fitsO o
      · refine condV (fun hb => by cases hb) (fun _ => ?_)
        refine ⟨Ls, css, SN, ?_, hallm hk, hEm.trans hN, hI.sub ?_⟩
        · rw [hstep, clK_none hf, List.append_nil]
          exact hGm
        · exact (((List.sublist_append_left _ _).cons _).cons_cons _)
      · refine condV (fun _ => ?_) (fun hb => by cases hb)
        refine r_loadW hI 1 ag_iClause rfl (by simpa using hT.length) ?_
        refine r_append1 hI 0 es mk_SiClause (by omega) (by omega) rfl hT.length hT.one (by omega) (by omega) fun v' w' hI => ?_
        refine ⟨Ls ++ [G], css ++ [es], SN, ?_, hallm hk, hEm.trans hN, ?_⟩
        · rw [hstep, clK_fits hf hk, ← List.append_assoc]
          exact hGm.snoc hT hT.length
        · have hI : Inv w [] (rowG v' t_iClause 5 (css ++ [es]) :: (blks Ls.flatten ++ blks G)) SN w' := hI.sub ((List.sublist_cons_self _ _).cons_cons _)
          simp only [List.flatten_append, List.flatten_cons, List.flatten_nil, List.append_nil, blks_append]
          exact hI
    intro t6' _ _ _ _ _ _ _ _ _ _ _ _ _ _ _ _ _ _ _ _ _ _ _ _ _ _ _ _ _ _ _ w'
    rintro ⟨Ls', css', SN, hGN, hokN, hEN, hI⟩
    refine r_add (by omega) ?_
    exact ⟨⟨m + 1, Ls', css', SN, hm', rfl, hokN, hGN, hEN, hI⟩, by simp [intOf]; omega⟩
  · have hme : m = os.length := by omega
    subst hme
    rw [List.take_length] at hok hGm
    refine r_add (by omega) ?_
    rw [show ((j : Int) + 1) = ((j + 1 : Nat) : Int) by omega]
    refine r_sliceFrom sl_SiClause h (by omega) fun v8 e8 => ?_
    have hEa := hE1.trans hEm
    refine Run.call0 fn_i_ownProgram nm_i_ownProgram hI (ownProgram_row (e8.monoC hEa.1) hwd) fun v9 I' S' w' => ?_
    rintro ⟨eS, Ls2, css2, rfl, hg2⟩ _ hI
    rw [eS] at hI
    have hc2 := hg2.hc
    have hc2' : css2.length ≤ 20 := by rw [hc2, List.length_drop]; omega
    have hI := hI.perm (M := rowG t6 t_iClause 5 css :: rowG v9 t_iClause 5 css2 :: (blks Ls.flatten ++ blks Ls2.flatten)) (List.Perm.cons _ (List.perm_middle (l₁ := blks Ls.flatten) (l₂ := blks Ls2.flatten)).symm)
    refine r_appendRow hI 0 1 mk_SiClause (by omega) rfl rfl hg2.hk hg2.one (by omega) (by omega) fun v10 w' hI => ?_
    have hGq := hGm.append hg2
    have hI : Inv w [] (rowG v10 t_iClause 5 (css ++ css2) :: (blks Ls.flatten ++ blks Ls2.flatten)) Sm w' := hI.sub ((List.sublist_cons_self _ _).cons_cons _)
    have hI : Inv w [] ([] ++ (rowG v10 t_iClause 5 (css ++ css2) :: blks (Ls ++ Ls2).flatten)) Sm w' := by
      rw [List.flatten_append, blks_append]
      exact hI
    obtain ⟨M, hT, hI⟩ := Inv.rowTree (R := TrC) hI hGq
    obtain ⟨S2, hle2, hins, hI, hback⟩ := Inv.lendAll M hI
    have hrr : RdSl S2 5 (RdC S2) v10 ((p.take j ++ outL os) ++ p.drop (j + 1)) := hT.rd hins fun _ _ _ hi h => h.rd hi
    generalize hq : (p.take j ++ outL os) ++ p.drop (j + 1) = q at hrr hqw hcase hT
    rw [hok] at hcase
    refine Run.callPure fn_i_ProgramValid nm_i_ProgramValid hI (iProgramValid_calls hrr) fun w' hI => ?_
    have hI := hback _ _ hI
    refine r_not ?_
    rcases hcase with ⟨h0, _⟩ | ⟨_, ⟨hv, rfl, rfl⟩ | ⟨hv, rfl, rfl⟩⟩
    · cases h0
    · rw [hv]
      refine condV (fun hb => by cases hb) (fun _ => ?_)
      exact ⟨_, _, _, rfl, hI, hEa, _, M, rfl, rfl, hT⟩
    · rw [hv]
      refine condV (fun _ => ?_) (fun hb => by cases hb)
      exact ⟨_, _, _, rfl, hI.sub (List.nil_sublist _), hEa, _, [], rfl, rfl, TrSl.nil (by simp [maxLen])⟩

end Go.Proofs.YtaaihodhhacapaaGreat

/- FnExactUnfoldClause returns true, whatever the program and the number that come in. -/
namespace Go.Proofs.YtaaihodhhacapaaGreat
open Go Go.RowKit
section
variable {w w0 : World} {X : List Nat} {L : List Item} {S : Store} {K : Value → World → Prop}
attribute [local irreducible] Run CondV GuardV LoadV
theorem Run.pubTreeCO {f : FuncId} {fn : Func} {args : List Value} {ys : List C} {b : Bool} (hf : Tryz.prog.funcs[f]? = some fn) (hn : (fn.name == "runtime.NumGoroutine" || fn.body.isNone) = false) (hI : Inv w0 X L S w)
    (hc : Tri Tryz.prog f args [] S (PostCO ys b)) (hk : ∀ u S' w', Sle S S' → RdSl S' 5 (RdC S') u ys → Inv w0 X L S' w' → K (.tuple #[u, .bool b]) w') : Run Tryz.prog (sCall (.func (.func f) #[] #[]) args) w K := by
  refine Run.call0 hf hn hI hc fun v' I' S' w' => ?_
  rintro ⟨u, M, rfl, rfl, hT⟩ hle hI
  obtain ⟨S1, hle1, hins, hI, _⟩ := Inv.lendAll M hI
  exact hk _ _ _ (hle.trans hle1) (hT.rd hins fun _ _ _ hi h => h.rd hi) hI
end
section
attribute [local irreducible] Run CondV GuardV LoadV
theorem lawUnfold_calls {p : List C} {S : Store} {v : Value} (i : Int) (h : RdSl S 5 (RdC S) v p) : Pure Tryz.prog n_l_FnExactUnfoldClause [v, .int .i64 i] S (.bool true) := by
  intro w hI
  refine calls_l_FnExactUnfoldClause ?_
  unfold sh_l_FnExactUnfoldClause
  refine Run.callPure fn_l_szClauseS nm_l_szClauseS hI (szClauseS_calls h (by omega) (by omega)) fun w' hI => ?_
  refine r_lss ?_
  refine condP (fun _ => done hI rfl) (fun hsz => ?_)
  have hw := sz_wPs (p := p) (left := 1048576) (by omega)
  have hw : p.length + wP p ≤ 1048576 := by omega
  have hcn := cntP_wP p
  have hcp := cntP_pos p
  obtain ⟨l, ok, hub⟩ := UB.ex p i
  have hll := hub.w
  have hln := cntP_wP l
  have hlp := cntP_pos l
  have hs : ∀ {S : Store} {v : Value}, RdSl S 5 (RdC S) v p → Tri Tryz.prog n_s_UnfoldClause [v, .int .i64 i] [] S (PostCO l ok) := fun a => s_UnfoldClause_calls hub a hw
  have hi : ∀ {S : Store} {v : Value}, RdSl S 5 (RdC S) v p → Tri Tryz.prog n_i_UnfoldClause [v, .int .i64 i] [] S (PostCO l ok) := fun a => i_UnfoldClause_calls hub a hw
  refine Run.toClauseS hI h hw fun v1 S1 w' hle1 h1 hI => ?_
  refine Run.pubTreeCO fn_s_UnfoldClause nm_s_UnfoldClause hI (hs h1) fun v2 S2 w' hle2 h2 hI => ?_
  have hle := hle1.trans hle2
  refine r_extract rfl ?_
  refine r_extract rfl ?_
  refine Run.toClauseM hI (h.monoC hle) hw fun v3 M S3 w' hle3 h3 hT hI hback => ?_
  refine Run.call0 fn_i_UnfoldClause nm_i_UnfoldClause hI (hi h3) fun v4 I' S4 w' => ?_
  rintro ⟨g, G, rfl, rfl, hG⟩ hle4 hI
  refine r_extract rfl ?_
  refine r_extract rfl ?_
  refine ⟨fun t w' => t = .bool false ∧ Inv w [] ([] ++ blks G) S4 w', ?_, ?_⟩
  · refine Run.eqTreeC (A := []) hI hG (h2.monoC (hle3.trans hle4)) fun w' hI => ?_
    refine r_not ?_
    repeat (first | refine guard_true ?_ | refine guard_ne (by decide) ?_ | refine guard_undef ?_ | refine r_pickT ?_ | refine r_pickF ?_)
    refine r_bneq un_bool ?_
    repeat (first | refine guard_true ?_ | refine guard_ne (by decide) ?_ | refine guard_undef ?_ | refine r_pickT ?_ | refine r_pickF ?_)
    exact ⟨by simp, hI⟩
  intro t _ _ _ _ _ _ _ _ w'
  rintro ⟨rfl, hI⟩
  refine condV (fun hb => by cases hb) (fun _ => ?_)
  refine Run.toClauseS hI (h.monoC (hle.trans (hle3.trans hle4))) hw fun v5 S5 w' hle5 h5 hI => ?_
  refine Run.callPure fn_l_eqClauseS nm_l_eqClauseS hI (eqClauseS_calls ((h3.monoC hle4).monoC hle5) h5) fun w' hI => ?_
  refine r_not ?_
  rw [(eqP_iff p p).2 rfl]
  refine condV (fun hb => by simp at hb) (fun _ => ?_)
  have hI := hback _ _ (hI.less (hle4.trans hle5))
  refine Run.markP hI hT (by omega) (by omega) fun w' hI => ?_
  refine ⟨fun t w' => t = .bool false ∧ Inv w [] ([] ++ blks G) S2 w', ?_, ?_⟩
  · refine r_lss ?_
    rw [decide_eq_false (by omega)]
    repeat (first | refine guard_true ?_ | refine guard_ne (by decide) ?_ | refine guard_undef ?_ | refine r_pickT ?_ | refine r_pickF ?_)
    refine Run.eqTreeC (A := []) hI hG h2 fun w' hI => ?_
    refine r_not ?_
    repeat (first | refine guard_true ?_ | refine guard_ne (by decide) ?_ | refine guard_undef ?_ | refine r_pickT ?_ | refine r_pickF ?_)
    refine r_bneq un_bool ?_
    repeat (first | refine guard_true ?_ | refine guard_ne (by decide) ?_ | refine guard_undef ?_ | refine r_pickT ?_ | refine r_pickF ?_)
    exact ⟨by simp, hI⟩
  intro t _ _ _ _ _ _ _ _ _ _ _ _ w'
  rintro ⟨rfl, hI⟩
  refine condV (fun hb => by cases hb) (fun _ => ?_)
  refine Run.markTreeC hI hG (by omega) (by omega) fun G' w' hG' hI => ?_
  refine Run.heldTreeC hI hG' (by omega) (by omega) fun w' hI => ?_
  refine r_lss ?_
  refine condP (fun hb => by omega) (fun _ => ?_)
  refine r_neq ?_
  refine condV (fun hb => by simp at hb) (fun _ => ?_)
  refine Run.toClauseS hI (h.monoC hle) hw fun v6 S6 w' hle6 h6 hI => ?_
  refine Run.pubTreeCO fn_i_UnfoldClause nm_i_UnfoldClause hI (hi h6) fun v7 S7 w' hle7 h7 hI => ?_
  refine r_extract rfl ?_
  refine r_extract rfl ?_
  refine ⟨fun t w' => t = .bool false ∧ Inv w [] ([] ++ blks G') S7 w', ?_, ?_⟩
  · refine Run.callPure fn_l_eqClauseS nm_l_eqClauseS hI (eqClauseS_calls h7 (h2.monoC (hle6.trans hle7))) fun w' hI => ?_
    rw [(eqP_iff l l).2 rfl]
    refine r_not ?_
    repeat (first | refine guard_true ?_ | refine guard_ne (by decide) ?_ | refine guard_undef ?_ | refine r_pickT ?_ | refine r_pickF ?_)
    refine r_bneq un_bool ?_
    repeat (first | refine guard_true ?_ | refine guard_ne (by decide) ?_ | refine guard_undef ?_ | refine r_pickT ?_ | refine r_pickF ?_)
    exact ⟨by simp, hI⟩
  intro t _ _ _ _ _ _ _ _ w'
  rintro ⟨rfl, hI⟩
  refine condV (fun hb => by cases hb) (fun _ => ?_)
  refine Run.heldTreeC hI hG' (by omega) (by omega) fun w' hI => ?_
  refine r_lss ?_
  refine condP (fun hb => by omega) (fun _ => ?_)
  refine r_neq ?_
  have hle := hle.trans (hle6.trans hle7)
  exact condV (fun hb => by simp at hb) (fun _ => doneS hI hle rfl)
end

end Go.Proofs.YtaaihodhhacapaaGreat

/- What every row of this seat owes beside its walk: the arguments read again as they did, and nothing that was there has turned. -/
namespace Go.Proofs.YtaaihodhhacapaaGreat
open Go Go.ChangeShapes Go.WideShapes Go.ChangeAt Go.RowKit

theorem Tryz.own : ownKnob Tryz.prog.godebug = none := by kernel_rfl
theorem Tryz.kids : Kids Tryz.prog (· < Tryz.prog.types.size) := kids_rows (by kernel_rfl) (by kernel_rfl)
theorem Tryz.full : ∀ t e, t < Tryz.prog.types.size → Tryz.prog.underlying t = some (.slice e) → 0 < Tryz.prog.cellsOf e := slices_full_of Tryz.prog (by kernel_rfl)
section
variable {H : Type} {enc : TypeId × Value → H} {W W' : World}
theorem carryAll {P : Program} : ∀ {ts : List TypeId} {vs : List Value} {ds : List (DataW H)} {ps : List MemPlace}, DataW.TrodAll enc P W 0 (fun _ => true) true ts vs ds ps → (∀ p ∈ ps, W.sameAt W' p) →
    DataW.TrodAll enc P W' 0 (fun _ => true) true ts vs ds ps
  | [], [], [], _, h, _ => h
  | _ :: _, _ :: _, _ :: _, _, ⟨p, q, ⟨n, h1⟩, h2, e⟩, hs =>
    ⟨p, q, ⟨n, DataW.trod_carry n _ _ _ h1 fun x hx => hs x (by rw [e]; exact List.mem_append_left _ hx)⟩, carryAll h2 fun x hx => hs x (by rw [e]; exact List.mem_append_right _ hx), e⟩
theorem same_at {p : MemPlace} (h : ∀ b, b < W.heap.size → W'.heap[b]? = W.heap[b]?) (hp : p.block < W.heap.size) : W.sameAt W' p := by
  cases p with
  | cell b off => simp only [World.sameAt, World.cell?]; rw [h b hp]
  | map b => exact h b hp
/- a function of the program whose walk ends with 'true' and with all that was there as it was: the row's 'post' -/
theorem post_true {f : Func} {s : ChangeSpec} {args : Array Value} {ds gs : List (DataW H)} {before p q : List MemPlace}
    (hW : DataW.Whole enc Tryz.prog f.params.toList s.vars false W args.toList ds gs before) (hA : DataW.TrodAll enc Tryz.prog W 0 (fun _ => true) true f.params.toList args.toList ds p)
    (hV : DataW.TrodVars enc Tryz.prog W (fun _ => true) s.vars gs q) (hb : before = p ++ q) (hv : s.vars = []) (hts : ∀ t ∈ f.params.toList, t < Tryz.prog.types.size) (hr : f.resultTypes = #[t_bool])
    (hs : (s.fn H (ds ++ gs)).results = [.lit (.bool true)]) (ha : (s.fn H (ds ++ gs)).args = ds) (hsv : (s.fn H (ds ++ gs)).vars = []) (hI : Inv W [] [] (heapS W) W') :
    s.post enc Tryz.prog f false true false false W args (.bool true) W' := by
  have hsame : ∀ b, b < W.heap.size → W'.heap[b]? = W.heap[b]? := fun b hb => hI.same b hb
  have hlt := hW.lt
  rw [hv] at hV
  obtain ⟨hg, hq⟩ := trodVars_none hV
  subst hq
  rw [List.append_nil] at hb
  subst hb
  have hA' := carryAll (W' := W') hA fun x hx => same_at hsame (hlt x hx)
  refine ⟨ds, gs, before, [], before, [], hW, ?_, ?_, ?_, same_kept hI.os hI.output hsame, fun h => by cases h⟩
  · rw [hs, hr]
    exact trodAll_mk1 (shut_bool un_bool true)
  · rw [ha]
    exact DataW.TrodAll.respare Tryz.kids Tryz.full hts hA' fun x hx => by simpa using hlt x hx
  · rw [hv, hsv]
    rfl
end

end Go.Proofs.YtaaihodhhacapaaGreat

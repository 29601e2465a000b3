/- spec.l16Has, l16Match, l16Full. -/
import Derived.Test.YtgdibnmabnimaaaGreatZle5
import Derived.Test.YtgdibnmabnimaaaGreatZle4
import Derived.Test.YtgdibnmabnimaaaGreatZle1
namespace Go.Proofs.YtgdibnmabnimaaaGreat
open Go Go.RowKit
def hasT (l : List T) (t : T) : Bool := l.any fun x => eqT x t
def zeroT : T := .mk 0 0 ⟨#[]⟩ []
def getK (st : Known) (n : Int) : T := match st[n.toNat]? with
  | some (some t) => t
  | _ => zeroT
def fullK (st : Known) (x : T) : T := if x.kind = 1 then getK st x.n else x
def fullS (g : T) (st : Known) : T := .mk g.kind 0 g.name (g.kids.map (fullK st))
def stW (st : Known) : Prop := ∀ t, some t ∈ st → wT t ≤ 1048576
theorem getK_mem (st : Known) (n : Int) : getK st n = zeroT ∨ some (getK st n) ∈ st := by
  rw [getK]
  split
  · rename_i t h
    exact .inr (List.mem_of_getElem? h)
  · exact .inl rfl
theorem zeroT_w : wT zeroT ≤ 1048576 := by
  have : wT zeroT = 0 := rfl
  omega
theorem stW_full {st : Known} (h : stW st) {ks : List T} {j : Nat} (hj : j < ks.length) (hw : wL ks ≤ 1048576) : wT (fullK st ks[j]) ≤ 1048576 := by
  rw [fullK]
  split
  · rcases getK_mem st ks[j].n with e | e
    · rw [e]; exact zeroT_w
    · exact h _ e
  · have := wL_mem (List.getElem_mem hj)
    omega
theorem fullL_take (st : Known) (ks : List T) (j : Nat) (h : j < ks.length) : (ks.take (j + 1)).map (fullK st) = (ks.take j).map (fullK st) ++ [fullK st ks[j]] := by
  rw [List.take_succ_eq_append_getElem h, List.map_append]; rfl
theorem RdT.zero (S : Store) : RdT S noCells zeroT := RdT.iff.2 ⟨_, rfl, by simp [inI, T.kind, zeroT], by simp [inI, T.n, zeroT], by rw [zeroT, T.name]; decide +kernel, none, 0, rfl, Nat.le_refl _, Nat.zero_le _, .inl rfl⟩
theorem KnownC.get {S : Store} {kc : Array Value} {st : Known} (h : KnownC S kc st) (hst : st.length = 26) {j : Nat} (hj : j < 26) : RdT S (cellsAt kc (j * 4) 4) (getK st j) := by
  obtain ⟨h1, h2⟩ := h.2 j (by omega)
  rw [getK, Int.toNat_natCast, List.getElem?_eq_getElem (show j < st.length by omega)]
  cases e : st[j] with
  | none =>
    rw [h1 e]
    exact RdT.zero S
  | some t => exact h2 t e
/- what is known, as a row of optional terms -/
def KRel (S : Store) (cs : List Value) (o : Option T) : Prop := cs.length = 4 ∧ (o = none → cs = noCells) ∧ ∀ t, o = some t → RdT S cs t
theorem KRel.one {S : Store} {cs : List Value} {o : Option T} (h : KRel S cs o) : ∀ u ∈ cs, u.oneCell' = true := by
  cases o with
  | none => rw [h.2.1 rfl]; simp [noCells, Value.oneCell']
  | some t => exact (h.2.2 t rfl).one
theorem KnownC.rd {S : Store} {kb kp : Nat} {kc : Array Value} {st : Known} {E : TypeId} (hS : S kb = some (.cells kc E)) (h : KnownC S kc st) (hst : st.length = 26) (hkp : 26 ≤ kp) (hkm : kp ≤ maxLen) : RdSl S 4 (KRel S) (kvn kb kp) st := by
  refine ⟨some ⟨kb, 0, none⟩, kp, by rw [hst], by omega, hkm, .inr ⟨kb, 0, kc, E, (0, 0), rfl, hS, fun i hi => ?_⟩⟩
  obtain ⟨h1, h2⟩ := h.2 i hi
  rw [Nat.zero_add]
  refine ⟨?_, h1, h2⟩
  have := h.1
  rw [cellsAt, List.length_take, List.length_drop, Array.length_toList]
  omega
theorem KnownC.of_rows {S : Store} {cur : Array Value} {css : List (List Value)} {st : Known} (h : Rows 4 (KRel S) css st) (hst : st.length = 26) {cap : Nat} (hcap : 26 ≤ cap) (hs : cur.size = cap * 4) (ht : cur.toList.take (css.length * 4) = css.flatten) : KnownC S cur st := by
  have hc := h.hc
  refine ⟨by omega, fun i hi => ?_⟩
  have hi' : i < css.length := by omega
  have hfl := flatten_at 4 css i h.hk hi'
  have e : cellsAt cur (i * 4) 4 = css[i] := by
    rw [← hfl, ← ht, List.drop_take, List.take_take, Nat.min_eq_left (by omega)]
    rfl
  have hr := h.hR i hi hi'
  rw [← e] at hr
  exact ⟨hr.2.1, hr.2.2⟩
section
attribute [local irreducible] Run CondV GuardV LoadV
abbrev PostM (r : Bool × Known) : Value → List Item → Store → Prop := fun v I' S' => I' = [] ∧ ∃ kb kp kc, v = .tuple #[kvn kb kp, .bool r.1] ∧ 26 ≤ kp ∧ kp ≤ maxLen ∧ S' kb = some (.cells kc t_iTerm) ∧ KnownC S' kc r.2
theorem KnownC.mono {S S' : Store} {kc : Array Value} {st : Known} (h : KnownC S kc st) (hs : Sle S S') : KnownC S' kc st :=
  ⟨h.1, fun i hi => ⟨(h.2 i hi).1, fun t ht => ((h.2 i hi).2 t ht).mono hs⟩⟩
theorem l16Match_calls {g f : T} {S : Store} {cs ds : List Value} {kb kp : Nat} {kc : Array Value} {st : Known} (hg : RdT S cs g) (hf : RdT S ds f) (hv : okV g) (hk : okK f) (hst : stOk st) (hkp : 26 ≤ kp) (hkm : kp ≤ maxLen)
    (hS : S kb = some (.cells kc t_iTerm)) (hkc : KnownC S kc st) : Tri Tryz.prog n_s_l16Match [.agg cs.toArray, .agg ds.toArray, kvn kb kp] [] S (PostM (matchT g f st)) := by
  intro w hI
  have hlg := hg.length
  have hlf := hf.length
  refine calls_s_l16Match ?_
  unfold sh_s_l16Match
  refine r_box hI fun b3 w' hI => ?_
  refine r_box hI fun b4 w' hI => ?_
  refine r_slice0 hI mk_SiTerm fun v0 w' hI => ?_
  have hI : Inv w [] [.blk b3 (.cells cs.toArray t_iTerm), .blk b4 (.cells ds.toArray t_iTerm), rowG v0 t_iTerm 4 []] S w' := hI
  have hrd := hkc.rd hS hst.1 hkp hkm
  refine r_appendRd hI 2 (css := []) mk_SiTerm (by omega) rfl hrd (fun _ _ h => h.1) (fun _ _ => KRel.one) (by simp [hst.1]) (by omega) fun v1 w' css hR hI => ?_
  have hI : Inv w [] ([.blk b3 (.cells cs.toArray t_iTerm), .blk b4 (.cells ds.toArray t_iTerm)] ++ [rowG v1 t_iTerm 4 css]) S w' := by simpa using hI
  have hcl : css.length = 26 := by rw [hR.hc]; exact hst.1
  obtain ⟨_, ho⟩ := hI.openRow
  rcases ho with ⟨_, h0⟩ | ⟨nb, cap, cur, rfl, hnc, hcm, hcs, ht, hI⟩
  · omega
  rw [hcl] at hnc
  have hkc' := KnownC.of_rows hR hst.1 hnc hcs ht
  rw [hcl]
  refine r_loadW hI 0 ag_iTerm rfl (by simpa using hlg) ?_
  refine r_loadW hI 1 ag_iTerm rfl (by simpa using hlf) ?_
  refine Run.call (A := [_, _]) fn_s_l3Match nm_s_l3Match hI (l3Match_calls cap _ _ S _ _ nb cur st hg hf hv hk hst hkc') fun v' I' S' w' => ?_
  rintro ⟨rfl, rfl, kc2, rfl, hk2⟩ _ hI
  obtain ⟨S', hI, hE, hins⟩ := Inv.pubExt (A := [.blk b3 (.cells cs.toArray t_iTerm), .blk b4 (.cells ds.toArray t_iTerm)]) (L := [(nb, .cells kc2 t_iTerm)]) hI
  exact ⟨_, _, _, rfl, hI.pick [false, false], hE, rfl, nb, cap, kc2, rfl, hnc, hcm, hins _ (List.mem_singleton.2 rfl), hk2.mono hE.1⟩
theorem l16Full_calls {g : T} {S : Store} {cs : List Value} {kb kp : Nat} {kc : Array Value} {st : Known} (hg : RdT S cs g) (hv : okV g) (hw : wT g ≤ 1048576) (hst : stOk st) (hsw : stW st)
    (hS : S kb = some (.cells kc t_iTerm)) (hkc : KnownC S kc st) : Tri Tryz.prog n_s_l16Full [.agg cs.toArray, kvn kb kp] [] S (PostT S (fullS g st)) := by
  intro w hI
  obtain ⟨kv, rfl, h1, h2, hs, hks⟩ := RdT.iff.1 hg
  obtain ⟨k, n, s, ks⟩ := g
  simp only [T.name, T.kids, T.kind, T.n] at h1 h2 hs hks ⊢
  simp only [wT] at hw
  rw [okV] at hv
  have hvk := hv.2
  refine calls_s_l16Full ?_
  unfold sh_s_l16Full
  refine r_box hI fun b2 w' hI => ?_
  obtain ⟨hI, hle⟩ := Inv.publishLast (L := []) hI
  have hb2 : addS S b2 (.cells (Value.agg #[.int .i64 k, .int .i64 n, .string s, kv]).cells t_iTerm) b2 = some (.cells #[.int .i64 k, .int .i64 n, .string s, kv] t_iTerm) := by simp [addS, Value.cells]
  generalize addS S b2 (.cells (Value.agg #[.int .i64 k, .int .i64 n, .string s, kv]).cells t_iTerm) = S1 at hI hle hb2
  have hks1 := hks.monoT hle
  have hS1 := hle _ _ hS
  have hkc1 := hkc.mono hle
  refine r_alloc hI zo_iTerm fun b4 w' hI => ?_
  refine r_field fo_iTerm_0 ?_
  refine r_load sc_int (by rw [hI.cellS hb2]; rfl) ?_
  refine r_field fo_iTerm_2 ?_
  refine r_load sc_string (by rw [hI.cellS hb2]; rfl) ?_
  have hb : ∀ {K : Value → World → Prop} {w' : World}, K (.agg #[.int .i64 k, .int .i64 0, .string s, .slice none 0 0]) w' → Run Tryz.prog (sBuild t_iTerm [(0, .int .i64 k), (2, .string s)]) w' K := by
    intro K w' hk
    refine Run.of (v := .agg #[.int .i64 k, .int .i64 0, .string s, .slice none 0 0]) (w' := w') ?_ hk
    unfold sBuild
    rw [Sem.run_bind, run_build w' t_iTerm _ #[.int .i64 k, .int .i64 0, .string s, .slice none 0 0] (by kernel_rfl), Result.andThen_ok]
    rfl
  refine hb ?_
  refine r_alloc hI zo_iTerm fun b5 w' hI => ?_
  refine r_storeW hI 1 rfl ag_iTerm rfl rfl (by simp [Value.oneCell']) fun w' hI => ?_
  have hI := hI.rowNil t_iTerm 4
  refine ⟨fun i w' => ∃ (j : Nat) (kvc : Value) (Ls : List Heaplet) (css : List (List Value)), j ≤ ks.length ∧ i = .int .i64 j ∧ Grown 4 TrT Ls css ((ks.take j).map (fullK st)) ∧
      Inv w [] (.blk b4 (.cells #[.int .i64 0, .int .i64 0, .string ⟨#[]⟩, .slice none 0 0] t_iTerm) :: .blk b5 (.cells #[.int .i64 k, .int .i64 0, .string s, kvc] t_iTerm) :: rowG kvc t_iTerm 4 css :: blks Ls.flatten) S1 w',
    fun i _ => ks.length - (intOf i).toNat, ⟨0, _, [], [], Nat.zero_le _, rfl, Grown.nil _ _, hI⟩, ?_⟩
  intro t6 _ _ _ _ _ _ _ _ _ _ _ _ _ _ _ _ _ _ _ _ _ _ _ _ _ _ _ _ w'
  rintro ⟨j, kvc, Ls, css, hj, rfl, hg', hI⟩
  refine r_field fo_iTerm_3 ?_
  refine r_load sc_SiTerm (by rw [hI.cellS hb2]; rfl) ?_
  refine r_lenSl hks1 sl_SiTerm ?_
  refine r_lss ?_
  refine condP (fun hji => ?_) (fun hji => ?_)
  · have hj' : j < ks.length := by omega
    have hjl : (ks.take j).length = j := by simp; omega
    have hcl := hg'.hc
    rw [List.length_map] at hcl
    have hm := List.getElem_mem hj'
    have hwm := wL_mem hm
    have hvj := okVL_mem hvk _ hm
    refine r_field fo_iTerm_3 ?_
    refine r_load sc_SiTerm (by rw [hI.cellS hb2]; rfl) ?_
    refine r_elem hI hks1 sl_SiTerm ag_iTerm hj' (fun _ _ => RdT.length) fun cs0 hcs0 => ?_
    refine r_alloc hI zo_iTerm fun b7 w' hI => ?_
    have hI := hI.perm (M := .blk b7 _ :: (.blk b4 (.cells #[.int .i64 0, .int .i64 0, .string ⟨#[]⟩, .slice none 0 0] t_iTerm) :: .blk b5 (.cells #[.int .i64 k, .int .i64 0, .string s, kvc] t_iTerm) :: rowG kvc t_iTerm 4 css :: blks Ls.flatten)) (List.perm_append_comm (l₁ := [_]))
    refine r_storeW hI 0 rfl ag_iTerm (by simpa using hcs0.length) rfl (by simpa using hcs0.one) fun w' hI => ?_
    refine ⟨fun w' => ∃ c7, RdT S1 c7 (fullK st ks[j]) ∧ Inv w [] (.blk b7 (.cells c7.toArray t_iTerm) :: .blk b4 (.cells #[.int .i64 0, .int .i64 0, .string ⟨#[]⟩, .slice none 0 0] t_iTerm) :: .blk b5 (.cells #[.int .i64 k, .int .i64 0, .string s, kvc] t_iTerm) :: rowG kvc t_iTerm 4 css :: blks Ls.flatten) S1 w', ?_, ?_⟩
    · obtain ⟨x0, hc0, _⟩ := RdT.iff.1 hcs0
      refine r_fieldL hI 0 (u := .int .i64 ks[j].kind) rfl fo_iTerm_0 sc_int (by rw [hc0]; rfl) ?_
      refine r_eql ?_
      refine condP (fun hk1 => ?_) (fun hk1 => ?_)
      · have hvn : 0 ≤ ks[j].n ∧ ks[j].n ≤ 25 := by
          have hx := hvj
          generalize ks[j] = x at hx hk1
          cases x
          rw [okV] at hx
          exact hx.1 hk1
        obtain ⟨m, hm'⟩ : ∃ m : Nat, ks[j].n = m := ⟨ks[j].n.toNat, by omega⟩
        have hm26 : m < 26 := by omega
        have hget := hkc1.get hst.1 hm26
        rw [fullK, if_pos hk1, hm']
        refine r_fieldL hI 0 (u := .int .i64 ks[j].n) rfl fo_iTerm_1 sc_int (by rw [hc0]; rfl) ?_
        rw [hm']
        refine r_indexAddr sl_SiTerm hm26 ?_
        refine r_loadA (cs := cellsAt kc (m * 4) 4) ag_iTerm hget.length (fun i v hi => by rw [hI.cellS hS1, Nat.zero_add]; exact cellsAt_get rfl i v hi) ?_
        refine r_storeW hI 0 rfl ag_iTerm (by simpa using hget.length) (by simpa using hcs0.length) (by simpa using hget.one) fun w' hI => ?_
        exact ⟨_, hget, hI⟩
      · rw [fullK, if_neg hk1]
        exact ⟨_, hcs0, hI⟩
    intro _ _ _ _ _ _ _ _ w'
    rintro ⟨c7, hc7, hI⟩
    refine ⟨fun D x39 x38 x37 x36 x35 x34 x33 w_ => (D 0 = true → x33 = .pointer (some ⟨b5, 3, none⟩)) ∧ (D 1 = true → x34 = kvc) ∧ (D 2 = true → x35 = .agg c7.toArray) ∧ (D 3 = true → True) ∧ (D 4 = true → True) ∧ (D 5 = true → True) ∧ (D 6 = true → x39 = .pointer (some ⟨b5, 3, none⟩)) ∧ (D 7 = true → True) ∧ ∃ M cs7 b8, (D 3 = true → x36 = .agg cs7.toArray ∧ TrT M cs7 (fullK st ks[j])) ∧ (D 4 = true → x37 = .slice (some ⟨b8, 0, none⟩) 1 1) ∧ (D 4 = true → D 3 = true) ∧ (D 5 = true → D 4 = true) ∧ (D 7 = true → D 5 = true) ∧ (D 7 = true → D 1 = true) ∧ Inv w [] (cpItems (.blk b7 (.cells c7.toArray t_iTerm)) (.blk b4 (.cells #[.int .i64 0, .int .i64 0, .string ⟨#[]⟩, .slice none 0 0] t_iTerm)) (.blk b5 (.cells #[.int .i64 k, .int .i64 0, .string s, kvc] t_iTerm)) (.blk b5 (.cells #[.int .i64 k, .int .i64 0, .string s, x38] t_iTerm)) (rowG kvc t_iTerm 4 css) (rowG x38 t_iTerm 4 (css ++ [cs7])) (blks Ls.flatten) M (.blk b8 (.cells cs7.toArray t_iTerm)) (D 3) (D 4) (D 5) (D 7)) S1 w_, ⟨fun h => Bool.noConfusion h, fun h => Bool.noConfusion h, fun h => Bool.noConfusion h, fun h => Bool.noConfusion h, fun h => Bool.noConfusion h, fun h => Bool.noConfusion h, fun h => Bool.noConfusion h, fun h => Bool.noConfusion h, ⟨[], [], 0, fun h => Bool.noConfusion h, fun h => Bool.noConfusion h, fun h => Bool.noConfusion h, fun h => Bool.noConfusion h, fun h => Bool.noConfusion h, fun h => Bool.noConfusion h, by simpa [cpItems, blks] using hI.draw⟩⟩, ⟨?_, ?_, ?_, ?_, ?_, ?_, ?_, ?_, trivial⟩, ?_⟩
    · intro D hD_  x39 x38 x37 x36 x35 x34 x33 w_
      rintro ⟨h0_, h1_, h2_, h3_, h4_, h5_, h6_, h7_, ⟨M, cs7, b8, e7, e8, k8, k9, k11, k1, hI⟩⟩
      refine r_field fo_iTerm_3 ?_
      exact ⟨fun _ => rfl, h1_, h2_, h3_, h4_, h5_, h6_, h7_, ⟨M, cs7, b8, e7, e8, k8, k9, k11, k1, hI⟩⟩
    · intro D hD_ d0_0 x39 x38 x37 x36 x35 x34 x33 w_
      rintro ⟨h0_, h1_, h2_, h3_, h4_, h5_, h6_, h7_, ⟨M, cs7, b8, e7, e8, k8, k9, k11, k1, hI⟩⟩
      obtain rfl := h0_ d0_0
      have f11 : D 7 = false := Bool.eq_false_iff.2 fun h => by rw [k1 h] at hD_; cases hD_
      refine r_loadL (b := b5) hI 2 (c := (#[.int .i64 k, .int .i64 0, .string s, kvc])) sc_SiTerm (by rw [f11]; rfl) rfl ?_
      have k1 := fun (_ : setD D 1 7 = true) => (rfl : setD D 1 1 = true)
      exact ⟨h0_, fun _ => rfl, h2_, h3_, h4_, h5_, h6_, h7_, ⟨M, cs7, b8, e7, e8, k8, k9, k11, k1, hI⟩⟩
    · intro D hD_  x39 x38 x37 x36 x35 x34 x33 w_
      rintro ⟨h0_, h1_, h2_, h3_, h4_, h5_, h6_, h7_, ⟨M, cs7, b8, e7, e8, k8, k9, k11, k1, hI⟩⟩
      refine r_loadW hI 0 ag_iTerm rfl (by simpa using hc7.length) ?_
      exact ⟨h0_, h1_, fun _ => rfl, h3_, h4_, h5_, h6_, h7_, ⟨M, cs7, b8, e7, e8, k8, k9, k11, k1, hI⟩⟩
    · intro D hD_ d2_0 x39 x38 x37 x36 x35 x34 x33 w_
      rintro ⟨h0_, h1_, h2_, h3_, h4_, h5_, h6_, h7_, ⟨M, cs7, b8, e7, e8, k8, k9, k11, k1, hI⟩⟩
      obtain rfl := h2_ d2_0
      have f8 : D 4 = false := Bool.eq_false_iff.2 fun h => by rw [k8 h] at hD_; cases hD_
      have f9 : D 5 = false := Bool.eq_false_iff.2 fun h => by rw [k9 h] at f8; cases f8
      have f11 : D 7 = false := Bool.eq_false_iff.2 fun h => by rw [k11 h] at f9; cases f9
      rw [hD_, f8, f9, f11] at hI
      refine Run.call0 fn_s_l1Copy nm_s_l1Copy hI (l1Copy_calls _ S1 _ hc7 (stW_full hsw hj' (by omega))) fun v' I' S1 w_ => ?_
      rintro ⟨rfl, cs7, M, rfl, rfl, hT⟩ _ hI
      have e7 : setD D 3 3 = true → Value.agg cs7.toArray = Value.agg cs7.toArray ∧ TrT M cs7 (fullK st ks[j]) := fun _ => ⟨rfl, hT⟩
      have k8 := fun (_ : setD D 3 4 = true) => (rfl : setD D 3 3 = true)
      have hI : Inv w [] (cpItems (.blk b7 (.cells c7.toArray t_iTerm)) (.blk b4 (.cells #[.int .i64 0, .int .i64 0, .string ⟨#[]⟩, .slice none 0 0] t_iTerm)) (.blk b5 (.cells #[.int .i64 k, .int .i64 0, .string s, kvc] t_iTerm)) (.blk b5 (.cells #[.int .i64 k, .int .i64 0, .string s, x38] t_iTerm)) (rowG kvc t_iTerm 4 css) (rowG x38 t_iTerm 4 (css ++ [cs7])) (blks Ls.flatten) M (.blk b8 (.cells cs7.toArray t_iTerm)) true (D 4) (D 5) (D 7)) S1 w_ := by
        rw [f8, f9, f11]
        simpa [cpItems] using hI
      exact ⟨h0_, h1_, h2_, fun _ => by first | assumption | trivial, h4_, h5_, h6_, h7_, ⟨M, cs7, b8, e7, e8, k8, k9, k11, k1, hI⟩⟩
    · intro D hD_ d3_0 x39 x38 x37 x36 x35 x34 x33 w_
      rintro ⟨h0_, h1_, h2_, h3_, h4_, h5_, h6_, h7_, ⟨M, cs7, b8, e7, e8, k8, k9, k11, k1, hI⟩⟩
      have g3_ := h3_ d3_0
      have f9 : D 5 = false := Bool.eq_false_iff.2 fun h => by rw [k9 h] at hD_; cases hD_
      have f11 : D 7 = false := Bool.eq_false_iff.2 fun h => by rw [k11 h] at f9; cases f9
      obtain ⟨q7, hT⟩ := e7 d3_0
      subst q7
      rw [d3_0, hD_, f9, f11] at hI
      refine r_slice1 hI mk_SiTerm (by simp [Value.cells, hT.length]) (by omega) (by omega) fun b8 w_ hI => ?_
      have e7 : setD D 4 3 = true → Value.agg cs7.toArray = Value.agg cs7.toArray ∧ TrT M cs7 (fullK st ks[j]) := fun _ => ⟨rfl, hT⟩
      have e8 := fun (_ : setD D 4 4 = true) => (rfl : Value.slice (some ⟨b8, 0, none⟩) 1 1 = _)
      have k8 := fun (_ : setD D 4 4 = true) => d3_0
      have k9 := fun (_ : setD D 4 5 = true) => (rfl : setD D 4 4 = true)
      have hI : Inv w [] (cpItems (.blk b7 (.cells c7.toArray t_iTerm)) (.blk b4 (.cells #[.int .i64 0, .int .i64 0, .string ⟨#[]⟩, .slice none 0 0] t_iTerm)) (.blk b5 (.cells #[.int .i64 k, .int .i64 0, .string s, kvc] t_iTerm)) (.blk b5 (.cells #[.int .i64 k, .int .i64 0, .string s, x38] t_iTerm)) (rowG kvc t_iTerm 4 css) (rowG x38 t_iTerm 4 (css ++ [cs7])) (blks Ls.flatten) M (.blk b8 (.cells cs7.toArray t_iTerm)) (D 3) true (D 5) (D 7)) S1 w_ := by
        rw [d3_0, f9, f11]
        simpa [cpItems, Value.cells] using hI
      exact ⟨h0_, h1_, h2_, h3_, fun _ => by first | assumption | trivial, h5_, h6_, h7_, ⟨M, cs7, b8, e7, e8, k8, k9, k11, k1, hI⟩⟩
    · intro D hD_ d1_0 d4_1 d3_2 x39 x38 x37 x36 x35 x34 x33 w_
      rintro ⟨h0_, h1_, h2_, h3_, h4_, h5_, h6_, h7_, ⟨M, cs7, b8, e7, e8, k8, k9, k11, k1, hI⟩⟩
      obtain rfl := h1_ d1_0
      have g4_ := h4_ d4_1
      have f11 : D 7 = false := Bool.eq_false_iff.2 fun h => by rw [k11 h] at hD_; cases hD_
      have q8 := e8 d4_1
      subst q8
      obtain ⟨_, hT⟩ := e7 d3_2
      rw [d3_2, d4_1, hD_, f11] at hI
      have hblk : ((cpItems (.blk b7 (.cells c7.toArray t_iTerm)) (.blk b4 (.cells #[.int .i64 0, .int .i64 0, .string ⟨#[]⟩, .slice none 0 0] t_iTerm)) (.blk b5 (.cells #[.int .i64 k, .int .i64 0, .string s, x34] t_iTerm)) (.blk b5 (.cells #[.int .i64 k, .int .i64 0, .string s, x38] t_iTerm)) (rowG x34 t_iTerm 4 css) (rowG x38 t_iTerm 4 (css ++ [cs7])) (blks Ls.flatten) M (.blk b8 (.cells cs7.toArray t_iTerm)) true true false false))[4 + (blks Ls.flatten).length + (blks M).length]? = some (.blk b8 (.cells cs7.toArray t_iTerm)) := by
        have e4 : 4 + (blks Ls.flatten).length + (blks M).length = ((blks Ls.flatten).length + (blks M).length) + 1 + 1 + 1 + 1 := by omega
        rw [e4]
        simp only [cpItems, List.getElem?_cons_succ]
        rw [List.getElem?_append_right (by omega), Nat.add_sub_cancel_left, List.getElem?_append_right (Nat.le_refl _), Nat.sub_self]; rfl
      refine r_append hI 3 cs7 mk_SiTerm (by omega) rfl (by rw [hT.length]) (m := 1) (o := 0) ?_ hT.one (by omega) (by omega) fun v' w_ hI => ?_
      · intro i u hi
        rw [hI.cellL hblk, Nat.zero_add]
        simpa using hi
      rw [rowG_snoc] at hI
      have k9 := fun (_ : setD D 5 5 = true) => d4_1
      have k11 := fun (_ : setD D 5 7 = true) => (rfl : setD D 5 5 = true)
      have hI : Inv w [] (cpItems (.blk b7 (.cells c7.toArray t_iTerm)) (.blk b4 (.cells #[.int .i64 0, .int .i64 0, .string ⟨#[]⟩, .slice none 0 0] t_iTerm)) (.blk b5 (.cells #[.int .i64 k, .int .i64 0, .string s, x34] t_iTerm)) (.blk b5 (.cells #[.int .i64 k, .int .i64 0, .string s, v'] t_iTerm)) (rowG x34 t_iTerm 4 css) (rowG v' t_iTerm 4 (css ++ [cs7])) (blks Ls.flatten) M (.blk b8 (.cells cs7.toArray t_iTerm)) (D 3) (D 4) true (D 7)) S1 w_ := by
        rw [d3_2, d4_1, f11]
        exact hI
      exact ⟨h0_, h1_, h2_, h3_, h4_, fun _ => by first | assumption | trivial, h6_, h7_, ⟨M, cs7, b8, e7, e8, k8, k9, k11, k1, hI⟩⟩
    · intro D hD_ d0_0 d1_1 d2_2 d3_3 d4_4 d5_5 x39 x38 x37 x36 x35 x34 x33 w_
      rintro ⟨h0_, h1_, h2_, h3_, h4_, h5_, h6_, h7_, ⟨M, cs7, b8, e7, e8, k8, k9, k11, k1, hI⟩⟩
      refine r_field fo_iTerm_3 ?_
      exact ⟨h0_, h1_, h2_, h3_, h4_, h5_, fun _ => rfl, h7_, ⟨M, cs7, b8, e7, e8, k8, k9, k11, k1, hI⟩⟩
    · intro D hD_ d6_0 d5_1 d5_2 d0_3 d1_4 d2_5 d3_6 d4_7 d5_8 x39 x38 x37 x36 x35 x34 x33 w_
      rintro ⟨h0_, h1_, h2_, h3_, h4_, h5_, h6_, h7_, ⟨M, cs7, b8, e7, e8, k8, k9, k11, k1, hI⟩⟩
      obtain rfl := h6_ d6_0
      have g5_ := h5_ d5_1
      rw [d3_6, d4_7, d5_1, hD_] at hI
      obtain ⟨va, vn, vc, hv9⟩ := Inv.rowSlice hI 3 rfl
      refine r_store hI 2 (n := 1) (by rw [hv9]; rfl) (by decide +kernel) rfl (by simp) (by rw [hv9]; simp [Value.cells, Value.oneCell']) fun w_ hI => ?_
      have hcl9 : Value.cells x38 = #[x38] := by rw [hv9]; rfl
      rw [hcl9] at hI
      have k1 := fun (_ : setD D 7 7 = true) => d1_4
      have k11 := fun (_ : setD D 7 7 = true) => d5_1
      have hI : Inv w [] (cpItems (.blk b7 (.cells c7.toArray t_iTerm)) (.blk b4 (.cells #[.int .i64 0, .int .i64 0, .string ⟨#[]⟩, .slice none 0 0] t_iTerm)) (.blk b5 (.cells #[.int .i64 k, .int .i64 0, .string s, kvc] t_iTerm)) (.blk b5 (.cells #[.int .i64 k, .int .i64 0, .string s, x38] t_iTerm)) (rowG kvc t_iTerm 4 css) (rowG x38 t_iTerm 4 (css ++ [cs7])) (blks Ls.flatten) M (.blk b8 (.cells cs7.toArray t_iTerm)) (D 3) (D 4) (D 5) true) S1 w_ := by
        rw [d3_6, d4_7, d5_1]
        exact hI
      exact ⟨h0_, h1_, h2_, h3_, h4_, h5_, h6_, fun _ => trivial, ⟨M, cs7, b8, e7, e8, k8, k9, k11, k1, hI⟩⟩
    intro D d7_ d6_ d5_ d4_ d3_ d2_ d1_ d0_ x39 x38 x37 x36 x35 x34 x33 w_
    rintro ⟨h0_, h1_, h2_, h3_, h4_, h5_, h6_, h7_, ⟨M, cs7, b8, e7, e8, k8, k9, k11, k1, hI⟩⟩
    obtain rfl := h6_ d6_
    have g5_ := h5_ d5_
    have g4_ := h4_ d4_
    have g3_ := h3_ d3_
    obtain rfl := h2_ d2_
    obtain rfl := h1_ d1_
    obtain rfl := h0_ d0_
    clear h0_ h1_ h2_ h3_ h4_ h5_ h6_ h7_
    obtain ⟨_, hT⟩ := e7 d3_
    rw [d3_, d4_, d5_, d7_] at hI
    refine r_add (by omega) ?_
    refine ⟨⟨j + 1, x38, Ls ++ [M], css ++ [cs7], hj', rfl, ?_, ?_⟩, by simp [intOf]; omega⟩
    · rw [fullL_take st ks j hj']
      exact hg'.snoc hT hT.length
    · simp only [List.flatten_append, List.flatten_cons, List.flatten_nil, List.append_nil, blks_append]
      refine hI.sub ?_
      simp only [cpItems]
      rw [← List.append_assoc]
      exact ((((List.sublist_append_left _ _).cons_cons _).cons_cons _).cons_cons _).cons _
  · have : j = ks.length := by omega
    subst this
    rw [List.take_length] at hg'
    obtain ⟨va, vn, vc, hvk'⟩ := hI.rowSlice 2 rfl
    have hv1 : kvc.oneCell' = true := by rw [hvk']; rfl
    refine r_loadW hI 1 ag_iTerm rfl rfl ?_
    refine r_storeW hI 0 rfl ag_iTerm rfl rfl ?_ fun w' hI => ?_
    · intro u hu
      have hu' : u ∈ ([.int .i64 k, .int .i64 0, .string s, kvc] : List Value) := hu
      simp at hu'
      rcases hu' with rfl | rfl | rfl | rfl <;> first | rfl | exact hv1
    refine loadV_W hI 0 ag_iTerm rfl rfl ?_
    have hI : Inv w [] ([] ++ (rowG kvc t_iTerm 4 css :: blks Ls.flatten)) S1 w' := hI.sub (List.sublist_append_right [_, _] _)
    obtain ⟨L, hT, hI⟩ := Inv.rowTree hI hg'
    exact ⟨_, _, _, rfl, hI.less hle, Ext.refl _ _ _, rfl, _, L, rfl, rfl, TrT.iff.2 ⟨kvc, rfl, h1, by simp [inI, fullS, T.n], hs, hT⟩⟩
end

end Go.Proofs.YtgdibnmabnimaaaGreat

/- impl.mapVars with a function that only reads: the result is published. -/
namespace Go.Proofs.YtgdibnmabnimaaaGreat
open Go Go.RowKit
mutual
def mapR (φ : Int → T) : T → T
  | .mk k n s ks => if k = 1 then φ n else .mk k n s (mapRL φ ks)
def mapRL (φ : Int → T) : List T → List T
  | [] => []
  | t :: ts => mapR φ t :: mapRL φ ts
end
theorem mapRL_map (φ : Int → T) : ∀ ts : List T, mapRL φ ts = ts.map (mapR φ)
  | [] => rfl
  | t :: ts => by rw [mapRL, mapRL_map φ ts]; rfl
theorem mapRL_take (φ : Int → T) (ks : List T) (j : Nat) (h : j < ks.length) : mapRL φ (ks.take (j + 1)) = mapRL φ (ks.take j) ++ [mapR φ ks[j]] := by
  rw [mapRL_map, mapRL_map, List.take_succ_eq_append_getElem h, List.map_append]; rfl
/- a function from numbers to terms that only reads -/
def Fun (f : FuncId) (cap : List Value) (S : Store) (φ : Int → T) : Prop := ∀ S', Sle S S' → ∀ n : Int, 0 ≤ n → n ≤ 25 → ∃ cs, RdT S' cs (φ n) ∧ Pure Tryz.prog f (.int .i64 n :: cap) S' (.agg cs.toArray)
theorem Fun.mono {f : FuncId} {cap : List Value} {S S' : Store} {φ : Int → T} (h : Fun f cap S φ) (hs : Sle S S') : Fun f cap S' φ := fun S2 h2 => h S2 (hs.trans h2)
abbrev PostG (t : T) : Value → List Item → Store → Prop := fun v I' S' => I' = [] ∧ ∃ cs, v = .agg cs.toArray ∧ RdT S' cs t
section
attribute [local irreducible] Run CondV GuardV LoadV
theorem mapR_calls {f : FuncId} {fn : Func} (cap : List Value) (φ : Int → T) (hf : Tryz.prog.funcs[f]? = some fn) (hn : (fn.name == "runtime.NumGoroutine" || fn.body.isNone) = false) :
    ∀ (t : T) (S : Store) (cs : List Value), RdT S cs t → okV t → wT t ≤ 1048576 → Fun f cap S φ → Tri Tryz.prog n_i_mapVars [.agg cs.toArray, fv f cap] [] S (PostG (mapR φ t)) := by
  refine T.ind fun k n s ks ih S cs h hv hw hφ => ?_
  intro w hI
  obtain ⟨kv, rfl, h1, h2, hs, hks⟩ := RdT.iff.1 h
  simp only [T.name, T.kids, T.kind, T.n] at h1 h2 hs hks ⊢
  simp only [wT] at hw
  rw [okV] at hv
  have hvk := hv.2
  refine calls_i_mapVars ?_
  unfold sh_i_mapVars
  refine r_box hI fun b2 w' hI => ?_
  refine r_alloc hI zo_iTerm fun b4 w' hI => ?_
  refine r_fieldL hI 0 rfl fo_iTerm_0 sc_int rfl ?_
  refine r_eql ?_
  rw [mapR]
  refine condP (fun hk1 => ?_) (fun hk1 => ?_)
  · rw [if_pos hk1]
    obtain ⟨hn0, hn25⟩ := hv.1 hk1
    refine r_fieldL hI 0 rfl fo_iTerm_1 sc_int rfl ?_
    obtain ⟨ds, hds, hp⟩ := hφ S (Sle.refl S) n hn0 hn25
    refine Run.callVPure hf hn hI hp fun w' hI => ?_
    refine r_storeW hI 1 rfl ag_iTerm (by simpa using hds.length) rfl (by simpa using hds.one) fun w' hI => ?_
    refine loadV_W hI 1 ag_iTerm rfl (by simpa using hds.length) ?_
    exact ⟨_, _, _, rfl, hI.pick [false, false], Ext.refl _ _ _, rfl, ds, rfl, hds⟩
  rw [if_neg hk1]
  refine r_fieldL hI 0 rfl fo_iTerm_3 sc_SiTerm rfl ?_
  refine r_fieldSt hI 0 rfl fo_iTerm_3 sc_SiTerm rfl rfl rfl fun w' hI => ?_
  refine r_lenSl hks sl_SiTerm ?_
  have hI : Inv w [] [.blk b4 (.cells #[.int .i64 0, .int .i64 0, .string ⟨#[]⟩, .slice none 0 0] t_iTerm), .blk b2 (.cells #[.int .i64 k, .int .i64 n, .string s, .slice none 0 0] t_iTerm)] S w' := hI.perm (List.Perm.swap _ _ _)
  have hI := hI.rowNil t_iTerm 4
  refine ⟨fun i w' => ∃ (j : Nat) (kvc : Value) (css : List (List Value)) (S1 : Store), j ≤ ks.length ∧ i = .int .i64 j ∧ Ext w.heap.size [] S S1 ∧ Rows 4 (RdT S1) css (mapRL φ (ks.take j)) ∧
      Inv w [] [.blk b4 (.cells #[.int .i64 0, .int .i64 0, .string ⟨#[]⟩, .slice none 0 0] t_iTerm), .blk b2 (.cells #[.int .i64 k, .int .i64 n, .string s, kvc] t_iTerm), rowG kvc t_iTerm 4 css] S1 w',
    fun i _ => ks.length - (intOf i).toNat, ⟨0, _, [], S, Nat.zero_le _, rfl, Ext.refl _ _ _, Rows.nil _ _, hI⟩, ?_⟩
  intro t20 _ _ _ _ _ _ _ _ _ _ _ _ _ w'
  rintro ⟨j, kvc, css, S1, hj, rfl, hE, hg, hI⟩
  refine r_lss ?_
  refine condP (fun hji => ?_) (fun hji => ?_)
  · have hj' : j < ks.length := by omega
    have hjl : (ks.take j).length = j := by simp; omega
    have hcl := hg.hc
    rw [mapRL_map, List.length_map] at hcl
    have hm := List.getElem_mem hj'
    have hwm := wL_mem hm
    refine r_elem hI (hks.monoT hE.1) sl_SiTerm ag_iTerm hj' (fun _ _ => RdT.length) fun cs0 hcs0 => ?_
    refine r_alloc hI zo_iTerm fun b7 w' hI => ?_
    have hI := hI.perm (M := .blk b7 _ :: [.blk b4 (.cells #[.int .i64 0, .int .i64 0, .string ⟨#[]⟩, .slice none 0 0] t_iTerm), .blk b2 (.cells #[.int .i64 k, .int .i64 n, .string s, kvc] t_iTerm), rowG kvc t_iTerm 4 css]) (List.perm_append_comm (l₁ := [_]))
    refine r_storeW hI 0 rfl ag_iTerm (by simpa using hcs0.length) rfl (by simpa using hcs0.one) fun w' hI => ?_
    refine ⟨fun D x31 x30 x29 x28 x27 x26 x25 x24 w_ => (D 0 = true → x24 = .pointer (some ⟨b2, 3, none⟩)) ∧ (D 1 = true → x25 = kvc) ∧ (D 2 = true → x26 = .agg cs0.toArray) ∧ (D 3 = true → x27 = fv f cap) ∧ (D 4 = true → True) ∧ (D 5 = true → True) ∧ (D 6 = true → True) ∧ (D 7 = true → x31 = .pointer (some ⟨b2, 3, none⟩)) ∧ (D 8 = true → True) ∧ ∃ SN cs7 b8, Ext w.heap.size [] S1 SN ∧ (D 4 = true → x28 = .agg cs7.toArray ∧ RdT SN cs7 (mapR φ ks[j])) ∧ (D 5 = true → x29 = .slice (some ⟨b8, 0, none⟩) 1 1) ∧ (D 5 = true → D 4 = true) ∧ (D 6 = true → D 5 = true) ∧ (D 8 = true → D 6 = true) ∧ (D 8 = true → D 1 = true) ∧ Inv w [] (cpItems (.blk b7 (.cells cs0.toArray t_iTerm)) (.blk b4 (.cells #[.int .i64 0, .int .i64 0, .string ⟨#[]⟩, .slice none 0 0] t_iTerm)) (.blk b2 (.cells #[.int .i64 k, .int .i64 n, .string s, kvc] t_iTerm)) (.blk b2 (.cells #[.int .i64 k, .int .i64 n, .string s, x30] t_iTerm)) (rowG kvc t_iTerm 4 css) (rowG x30 t_iTerm 4 (css ++ [cs7])) [] [] (.blk b8 (.cells cs7.toArray t_iTerm)) false (D 5) (D 6) (D 8)) SN w_, ⟨fun h => Bool.noConfusion h, fun h => Bool.noConfusion h, fun h => Bool.noConfusion h, fun h => Bool.noConfusion h, fun h => Bool.noConfusion h, fun h => Bool.noConfusion h, fun h => Bool.noConfusion h, fun h => Bool.noConfusion h, fun h => Bool.noConfusion h, ⟨S1, [], 0, Ext.refl _ _ _, fun h => Bool.noConfusion h, fun h => Bool.noConfusion h, fun h => Bool.noConfusion h, fun h => Bool.noConfusion h, fun h => Bool.noConfusion h, fun h => Bool.noConfusion h, by simpa [cpItems] using hI.draw⟩⟩, ⟨?_, ?_, ?_, ?_, ?_, ?_, ?_, ?_, ?_, trivial⟩, ?_⟩
    · intro D hD_  x31 x30 x29 x28 x27 x26 x25 x24 w_
      rintro ⟨h0_, h1_, h2_, h3_, h4_, h5_, h6_, h7_, h8_, ⟨SN, cs7, b8, hN, e7, e8, k8, k9, k11, k1, hI⟩⟩
      refine r_field fo_iTerm_3 ?_
      exact ⟨fun _ => rfl, h1_, h2_, h3_, h4_, h5_, h6_, h7_, h8_, ⟨SN, cs7, b8, hN, e7, e8, k8, k9, k11, k1, hI⟩⟩
    · intro D hD_ d0_0 x31 x30 x29 x28 x27 x26 x25 x24 w_
      rintro ⟨h0_, h1_, h2_, h3_, h4_, h5_, h6_, h7_, h8_, ⟨SN, cs7, b8, hN, e7, e8, k8, k9, k11, k1, hI⟩⟩
      obtain rfl := h0_ d0_0
      have f11 : D 8 = false := Bool.eq_false_iff.2 fun h => by rw [k1 h] at hD_; cases hD_
      refine r_loadL (b := b2) hI 2 (c := (#[.int .i64 k, .int .i64 n, .string s, kvc])) sc_SiTerm (by rw [f11]; rfl) rfl ?_
      have k1 := fun (_ : setD D 1 8 = true) => (rfl : setD D 1 1 = true)
      exact ⟨h0_, fun _ => rfl, h2_, h3_, h4_, h5_, h6_, h7_, h8_, ⟨SN, cs7, b8, hN, e7, e8, k8, k9, k11, k1, hI⟩⟩
    · intro D hD_  x31 x30 x29 x28 x27 x26 x25 x24 w_
      rintro ⟨h0_, h1_, h2_, h3_, h4_, h5_, h6_, h7_, h8_, ⟨SN, cs7, b8, hN, e7, e8, k8, k9, k11, k1, hI⟩⟩
      refine r_loadW hI 0 ag_iTerm rfl (by simpa using hcs0.length) ?_
      exact ⟨h0_, h1_, fun _ => rfl, h3_, h4_, h5_, h6_, h7_, h8_, ⟨SN, cs7, b8, hN, e7, e8, k8, k9, k11, k1, hI⟩⟩
    · intro D hD_  x31 x30 x29 x28 x27 x26 x25 x24 w_
      rintro ⟨h0_, h1_, h2_, h3_, h4_, h5_, h6_, h7_, h8_, ⟨SN, cs7, b8, hN, e7, e8, k8, k9, k11, k1, hI⟩⟩
      exact ⟨h0_, h1_, h2_, fun _ => rfl, h4_, h5_, h6_, h7_, h8_, ⟨SN, cs7, b8, hN, e7, e8, k8, k9, k11, k1, hI⟩⟩
    · intro D hD_ d2_0 d3_1 x31 x30 x29 x28 x27 x26 x25 x24 w_
      rintro ⟨h0_, h1_, h2_, h3_, h4_, h5_, h6_, h7_, h8_, ⟨SN, cs7, b8, hN, e7, e8, k8, k9, k11, k1, hI⟩⟩
      obtain rfl := h2_ d2_0
      obtain rfl := h3_ d3_1
      have f8 : D 5 = false := Bool.eq_false_iff.2 fun h => by rw [k8 h] at hD_; cases hD_
      have f9 : D 6 = false := Bool.eq_false_iff.2 fun h => by rw [k9 h] at f8; cases f8
      have f11 : D 8 = false := Bool.eq_false_iff.2 fun h => by rw [k11 h] at f9; cases f9
      rw [f8, f9, f11] at hI
      refine Run.callE (I := []) fn_i_mapVars nm_i_mapVars (by simpa using hI) (ih _ (List.getElem_mem hj') SN cs0 (hcs0.mono hN.1) (okVL_mem hvk _ (List.getElem_mem hj')) (by omega) ((hφ.mono hE.1).mono hN.1)) fun v' I' SN w_ => ?_
      rintro ⟨rfl, cs7, rfl, hT⟩ hE2 hI
      have hN := hN.trans hE2
      have e7 : setD D 4 4 = true → Value.agg cs7.toArray = Value.agg cs7.toArray ∧ RdT SN cs7 (mapR φ ks[j]) := fun _ => ⟨rfl, hT⟩
      have k8 := fun (_ : setD D 4 5 = true) => (rfl : setD D 4 4 = true)
      have hI : Inv w [] (cpItems (.blk b7 (.cells cs0.toArray t_iTerm)) (.blk b4 (.cells #[.int .i64 0, .int .i64 0, .string ⟨#[]⟩, .slice none 0 0] t_iTerm)) (.blk b2 (.cells #[.int .i64 k, .int .i64 n, .string s, kvc] t_iTerm)) (.blk b2 (.cells #[.int .i64 k, .int .i64 n, .string s, x30] t_iTerm)) (rowG kvc t_iTerm 4 css) (rowG x30 t_iTerm 4 (css ++ [cs7])) [] [] (.blk b8 (.cells cs7.toArray t_iTerm)) false (D 5) (D 6) (D 8)) SN w_ := by
        rw [f8, f9, f11]
        simpa [cpItems] using hI
      exact ⟨h0_, h1_, h2_, h3_, fun _ => by first | assumption | trivial, h5_, h6_, h7_, h8_, ⟨SN, cs7, b8, hN, e7, e8, k8, k9, k11, k1, hI⟩⟩
    · intro D hD_ d4_0 x31 x30 x29 x28 x27 x26 x25 x24 w_
      rintro ⟨h0_, h1_, h2_, h3_, h4_, h5_, h6_, h7_, h8_, ⟨SN, cs7, b8, hN, e7, e8, k8, k9, k11, k1, hI⟩⟩
      have g4_ := h4_ d4_0
      have f9 : D 6 = false := Bool.eq_false_iff.2 fun h => by rw [k9 h] at hD_; cases hD_
      have f11 : D 8 = false := Bool.eq_false_iff.2 fun h => by rw [k11 h] at f9; cases f9
      obtain ⟨q7, hT⟩ := e7 d4_0
      subst q7
      rw [hD_, f9, f11] at hI
      refine r_slice1 hI mk_SiTerm (by simp [Value.cells, hT.length]) (by omega) (by omega) fun b8 w_ hI => ?_
      have e7 : setD D 5 4 = true → Value.agg cs7.toArray = Value.agg cs7.toArray ∧ RdT SN cs7 (mapR φ ks[j]) := fun _ => ⟨rfl, hT⟩
      have e8 := fun (_ : setD D 5 5 = true) => (rfl : Value.slice (some ⟨b8, 0, none⟩) 1 1 = _)
      have k8 := fun (_ : setD D 5 5 = true) => d4_0
      have k9 := fun (_ : setD D 5 6 = true) => (rfl : setD D 5 5 = true)
      have hI : Inv w [] (cpItems (.blk b7 (.cells cs0.toArray t_iTerm)) (.blk b4 (.cells #[.int .i64 0, .int .i64 0, .string ⟨#[]⟩, .slice none 0 0] t_iTerm)) (.blk b2 (.cells #[.int .i64 k, .int .i64 n, .string s, kvc] t_iTerm)) (.blk b2 (.cells #[.int .i64 k, .int .i64 n, .string s, x30] t_iTerm)) (rowG kvc t_iTerm 4 css) (rowG x30 t_iTerm 4 (css ++ [cs7])) [] [] (.blk b8 (.cells cs7.toArray t_iTerm)) false true (D 6) (D 8)) SN w_ := by
        rw [f9, f11]
        simpa [cpItems, Value.cells] using hI
      exact ⟨h0_, h1_, h2_, h3_, h4_, fun _ => by first | assumption | trivial, h6_, h7_, h8_, ⟨SN, cs7, b8, hN, e7, e8, k8, k9, k11, k1, hI⟩⟩
    · intro D hD_ d1_0 d5_1 d4_2 x31 x30 x29 x28 x27 x26 x25 x24 w_
      rintro ⟨h0_, h1_, h2_, h3_, h4_, h5_, h6_, h7_, h8_, ⟨SN, cs7, b8, hN, e7, e8, k8, k9, k11, k1, hI⟩⟩
      obtain rfl := h1_ d1_0
      have g5_ := h5_ d5_1
      have f11 : D 8 = false := Bool.eq_false_iff.2 fun h => by rw [k11 h] at hD_; cases hD_
      have q8 := e8 d5_1
      subst q8
      obtain ⟨_, hT⟩ := e7 d4_2
      rw [d5_1, hD_, f11] at hI
      have hblk : ((cpItems (.blk b7 (.cells cs0.toArray t_iTerm)) (.blk b4 (.cells #[.int .i64 0, .int .i64 0, .string ⟨#[]⟩, .slice none 0 0] t_iTerm)) (.blk b2 (.cells #[.int .i64 k, .int .i64 n, .string s, x25] t_iTerm)) (.blk b2 (.cells #[.int .i64 k, .int .i64 n, .string s, x30] t_iTerm)) (rowG x25 t_iTerm 4 css) (rowG x30 t_iTerm 4 (css ++ [cs7])) [] [] (.blk b8 (.cells cs7.toArray t_iTerm)) false true false false))[4]? = some (.blk b8 (.cells cs7.toArray t_iTerm)) := rfl
      refine r_append hI 3 cs7 mk_SiTerm (by omega) rfl (by rw [hT.length]) (m := 1) (o := 0) ?_ hT.one (by omega) (by omega) fun v' w_ hI => ?_
      · intro i u hi
        rw [hI.cellL hblk, Nat.zero_add]
        simpa using hi
      rw [rowG_snoc] at hI
      have k9 := fun (_ : setD D 6 6 = true) => d5_1
      have k11 := fun (_ : setD D 6 8 = true) => (rfl : setD D 6 6 = true)
      have hI : Inv w [] (cpItems (.blk b7 (.cells cs0.toArray t_iTerm)) (.blk b4 (.cells #[.int .i64 0, .int .i64 0, .string ⟨#[]⟩, .slice none 0 0] t_iTerm)) (.blk b2 (.cells #[.int .i64 k, .int .i64 n, .string s, x25] t_iTerm)) (.blk b2 (.cells #[.int .i64 k, .int .i64 n, .string s, v'] t_iTerm)) (rowG x25 t_iTerm 4 css) (rowG v' t_iTerm 4 (css ++ [cs7])) [] [] (.blk b8 (.cells cs7.toArray t_iTerm)) false (D 5) true (D 8)) SN w_ := by
        rw [d5_1, f11]
        exact hI
      exact ⟨h0_, h1_, h2_, h3_, h4_, h5_, fun _ => by first | assumption | trivial, h7_, h8_, ⟨SN, cs7, b8, hN, e7, e8, k8, k9, k11, k1, hI⟩⟩
    · intro D hD_ d0_0 d1_1 d2_2 d3_3 d4_4 d5_5 d6_6 x31 x30 x29 x28 x27 x26 x25 x24 w_
      rintro ⟨h0_, h1_, h2_, h3_, h4_, h5_, h6_, h7_, h8_, ⟨SN, cs7, b8, hN, e7, e8, k8, k9, k11, k1, hI⟩⟩
      refine r_field fo_iTerm_3 ?_
      exact ⟨h0_, h1_, h2_, h3_, h4_, h5_, h6_, fun _ => rfl, h8_, ⟨SN, cs7, b8, hN, e7, e8, k8, k9, k11, k1, hI⟩⟩
    · intro D hD_ d7_0 d6_1 d6_2 d0_3 d1_4 d2_5 d3_6 d4_7 d5_8 d6_9 x31 x30 x29 x28 x27 x26 x25 x24 w_
      rintro ⟨h0_, h1_, h2_, h3_, h4_, h5_, h6_, h7_, h8_, ⟨SN, cs7, b8, hN, e7, e8, k8, k9, k11, k1, hI⟩⟩
      obtain rfl := h7_ d7_0
      have g6_ := h6_ d6_1
      rw [d5_8, d6_1, hD_] at hI
      obtain ⟨va, vn, vc, hv9⟩ := Inv.rowSlice hI 3 rfl
      refine r_store hI 2 (n := 1) (by rw [hv9]; rfl) (by decide +kernel) rfl (by simp) (by rw [hv9]; simp [Value.cells, Value.oneCell']) fun w_ hI => ?_
      have hcl9 : Value.cells x30 = #[x30] := by rw [hv9]; rfl
      rw [hcl9] at hI
      have k1 := fun (_ : setD D 8 8 = true) => d1_4
      have k11 := fun (_ : setD D 8 8 = true) => d6_1
      have hI : Inv w [] (cpItems (.blk b7 (.cells cs0.toArray t_iTerm)) (.blk b4 (.cells #[.int .i64 0, .int .i64 0, .string ⟨#[]⟩, .slice none 0 0] t_iTerm)) (.blk b2 (.cells #[.int .i64 k, .int .i64 n, .string s, kvc] t_iTerm)) (.blk b2 (.cells #[.int .i64 k, .int .i64 n, .string s, x30] t_iTerm)) (rowG kvc t_iTerm 4 css) (rowG x30 t_iTerm 4 (css ++ [cs7])) [] [] (.blk b8 (.cells cs7.toArray t_iTerm)) false (D 5) (D 6) true) SN w_ := by
        rw [d5_8, d6_1]
        exact hI
      exact ⟨h0_, h1_, h2_, h3_, h4_, h5_, h6_, h7_, fun _ => trivial, ⟨SN, cs7, b8, hN, e7, e8, k8, k9, k11, k1, hI⟩⟩
    intro D d8_ d7_ d6_ d5_ d4_ d3_ d2_ d1_ d0_ x31 x30 x29 x28 x27 x26 x25 x24 w_
    rintro ⟨h0_, h1_, h2_, h3_, h4_, h5_, h6_, h7_, h8_, ⟨SN, cs7, b8, hN, e7, e8, k8, k9, k11, k1, hI⟩⟩
    obtain rfl := h7_ d7_
    have g6_ := h6_ d6_
    have g5_ := h5_ d5_
    have g4_ := h4_ d4_
    obtain rfl := h3_ d3_
    obtain rfl := h2_ d2_
    obtain rfl := h1_ d1_
    obtain rfl := h0_ d0_
    clear h0_ h1_ h2_ h3_ h4_ h5_ h6_ h7_ h8_
    obtain ⟨_, hT⟩ := e7 d4_
    rw [d5_, d6_, d8_] at hI
    refine r_add (by omega) ?_
    refine ⟨⟨j + 1, x30, css ++ [cs7], SN, hj', rfl, hE.trans hN, ?_, ?_⟩, by simp [intOf]; omega⟩
    · rw [mapRL_take φ ks j hj']
      exact (Rows.monoR hg fun _ _ h => h.mono hN.1).snoc hT hT.length
    · refine hI.sub ?_
      simp only [cpItems]
      exact ((((List.nil_sublist _).cons_cons _).cons_cons _).cons_cons _).cons _
  · have : j = ks.length := by omega
    subst this
    rw [List.take_length] at hg
    obtain ⟨va, vn, vc, hvk'⟩ := hI.rowSlice 2 rfl
    have hv1 : kvc.oneCell' = true := by rw [hvk']; rfl
    refine r_loadW hI 1 ag_iTerm rfl rfl ?_
    refine r_storeW hI 0 rfl ag_iTerm rfl rfl ?_ fun w' hI => ?_
    · intro u hu
      have hu' : u ∈ ([.int .i64 k, .int .i64 n, .string s, kvc] : List Value) := hu
      simp at hu'
      rcases hu' with rfl | rfl | rfl | rfl <;> first | rfl | exact hv1
    refine loadV_W hI 0 ag_iTerm rfl rfl ?_
    have hI : Inv w [] ([] ++ [rowG kvc t_iTerm 4 css]) S1 w' := hI.sub (List.sublist_append_right [_, _] _)
    obtain ⟨S2, hE2, hrd, hI⟩ := hI.lendExt
    exact ⟨_, _, _, rfl, hI, hE.trans hE2, rfl, _, rfl, RdT.iff.2 ⟨kvc, rfl, h1, h2, hs, (RowRd.rows hg hrd).mono (Sle.refl _) fun _ _ h => h.mono hE2.1⟩⟩
end

end Go.Proofs.YtgdibnmabnimaaaGreat

/- Matching with a map: impl.instance. -/
namespace Go.Proofs.YtgdibnmabnimaaaGreat
open Go Go.RowKit

/- the map of impl.instance -/
def KnownM (S : Store) (es : Array MapEntry) (st : Known) : Prop :=
  (∀ e ∈ es.toList, ∃ (n : Nat) (t : T) (cs : List Value), e.key = .int .i64 n ∧ e.val = .agg cs.toArray ∧ RdT S cs t ∧ st[n]? = some (some t)) ∧ (∀ (n : Nat) (t : T), st[n]? = some (some t) → ∃ e ∈ es.toList, e.key = .int .i64 n)
theorem KnownM.find {S : Store} {es : Array MapEntry} {st : Known} (h : KnownM S es st) (n : Nat) :
    (∃ j v t cs, Instr.findNow (.int .i64) (.int .i64 n) es.toList 0 = some (some (j, v)) ∧ v = .agg cs.toArray ∧ RdT S cs t ∧ st[n]? = some (some t)) ∨
    ((∀ t, st[n]? ≠ some (some t)) ∧ Instr.findNow (.int .i64) (.int .i64 n) es.toList 0 = some none) := by
  rcases findNow_int (n := n) es.toList 0 (fun e he => by obtain ⟨m, _, _, hk, _⟩ := h.1 e he; exact ⟨m, hk⟩) with ⟨j, e, he, hk, hf⟩ | ⟨hk, hf⟩
  · obtain ⟨m, t, cs, hk2, hv, hR, hs⟩ := h.1 e he
    rw [hk] at hk2
    simp only [Value.int.injEq, true_and] at hk2
    have : n = m := by omega
    subst this
    exact .inl ⟨j, e.val, t, cs, hf, hv, hR, hs⟩
  · refine .inr ⟨fun t ht => ?_, hf⟩
    obtain ⟨e, he, hk2⟩ := h.2 n t ht
    exact hk e he hk2
theorem KnownM.push {S : Store} {es : Array MapEntry} {st : Known} (h : KnownM S es st) {n : Nat} (hn : n < st.length) (hno : ∀ t, st[n]? ≠ some (some t)) {cs : List Value} {u : T} (hu : RdT S cs u) (ck : Nat) :
    KnownM S (es.push { key := .int .i64 n, val := .agg cs.toArray, born := ck }) (st.set n (some u)) := by
  refine ⟨fun e he => ?_, fun m t ht => ?_⟩
  · rw [Array.toList_push] at he
    rcases List.mem_append.1 he with he | he
    · obtain ⟨m, t, cs', hk, hv, hR, hs⟩ := h.1 e he
      refine ⟨m, t, cs', hk, hv, hR, ?_⟩
      have : n ≠ m := fun e => hno t (by rw [e]; exact hs)
      rw [List.getElem?_set_ne this]
      exact hs
    · simp at he
      subst he
      exact ⟨n, u, cs, rfl, rfl, hu, by rw [List.getElem?_set_self hn]⟩
  · rw [Array.toList_push]
    by_cases e : n = m
    · exact ⟨_, List.mem_append_right _ (List.mem_singleton.2 rfl), by rw [e]⟩
    · rw [List.getElem?_set_ne e] at ht
      obtain ⟨x, hx, hk⟩ := h.2 m t ht
      exact ⟨x, List.mem_append_left _ hx, hk⟩
theorem hdEq_comm (t u : T) : hdEq t u = hdEq u t := by
  rw [hdEq, hdEq, Bool.eq_iff_iff]
  simp only [Bool.and_eq_true, decide_eq_true_eq]
  constructor
  · rintro ⟨a, b, c, d⟩; exact ⟨a.symm, b.symm, c.symm, d.symm⟩
  · rintro ⟨a, b, c, d⟩; exact ⟨a.symm, b.symm, c.symm, d.symm⟩
section
attribute [local irreducible] Run CondV GuardV LoadV
theorem instance_calls : ∀ (t u : T) (S : Store) (cs ds : List Value) (mb ck : Nat) (es : Array MapEntry) (st : Known), RdT S cs t → RdT S ds u → okV t → okK u → stOk st → KnownM S es st →
    Tri Tryz.prog n_i_instance [.agg ds.toArray, .agg cs.toArray, .map (some mb)] [.blk mb (.map es ck)] S fun r I' S' => S' = S ∧ r = .bool (matchT t u st).1 ∧ ∃ es' ck', I' = [.blk mb (.map es' ck')] ∧ KnownM S es' (matchT t u st).2 := by
  refine T.ind fun k' n' s' ks' ih u S cs ds mb ck es st h' h hv hu hst hkc => ?_
  intro w hI
  have hds := h
  obtain ⟨kv', rfl, _, _, _, hks'⟩ := RdT.iff.1 h'
  obtain ⟨kv, rfl, _, _, _, hks⟩ := RdT.iff.1 h
  obtain ⟨k, n, s, ks⟩ := u
  simp only [T.name, T.kids, T.kind, T.n] at hks hks' ⊢
  have hlen := hks'.le
  simp only [maxLen] at hlen
  rw [okV] at hv
  obtain ⟨hv1, hv2⟩ := hv
  have huk := hu
  rw [okK] at hu
  obtain ⟨X, hX⟩ : ∃ X, X = feet [Item.blk mb (.map es ck)] := ⟨_, rfl⟩
  rw [← hX] at hI ⊢
  refine calls_i_instance ?_
  unfold sh_i_instance
  refine r_box hI fun b1 w' hI => ?_
  refine r_box hI fun b2 w' hI => ?_
  have hI : Inv w X [.blk b1 (.cells #[.int .i64 k, .int .i64 n, .string s, kv] t_iTerm), .blk b2 (.cells #[.int .i64 k', .int .i64 n', .string s', kv'] t_iTerm), .blk mb (.map es ck)] S w' := hI.perm (by
    refine (List.perm_append_comm (l₁ := [_, _]) (l₂ := [_])).trans ?_
    exact List.Perm.refl _)
  refine r_fieldL hI 1 rfl fo_iTerm_0 sc_int rfl ?_
  refine r_eql ?_
  refine condP (fun hk1 => ?_) (fun hk1 => ?_)
  · obtain ⟨hn0, hn25⟩ := hv1 hk1
    obtain ⟨j, rfl⟩ : ∃ j : Nat, n' = j := ⟨n'.toNat, by omega⟩
    have hj : j < 26 := by omega
    have hjs : j < st.length := by rw [hst.1]; exact hj
    refine r_fieldL hI 1 rfl fo_iTerm_1 sc_int rfl ?_
    rcases hkc.find j with ⟨q, v, t0, cs0, hf, rfl, hR, hst2⟩ | ⟨hno, hf⟩
    · refine r_lookup (v := .agg cs0.toArray) (ok := true) hI 2 un_Mint_iTerm un_int zo_iTerm rfl (.inl ⟨q, hf, rfl⟩) ?_
      refine r_extract rfl ?_
      refine r_extract rfl ?_
      have hlc := hR.length
      refine r_alloc hI zo_iTerm fun b7 w' hI => ?_
      refine r_storeW hI 3 rfl ag_iTerm (by simpa using hlc) rfl (by simpa using hR.one) fun w' hI => ?_
      refine r_not ?_
      refine condV (fun hb => by cases hb) (fun _ => ?_)
      refine r_loadW hI 3 ag_iTerm rfl (by simpa using hlc) ?_
      refine r_loadW hI 0 ag_iTerm rfl rfl ?_
      refine Run.callPure fn_i_TermSame nm_i_TermSame hI (i_TermSame_calls t0 _ S _ _ hR hds) fun w' hI => ?_
      have hm : matchT (.mk k' j s' ks') (.mk k n s ks) st = (eqT t0 (.mk k n s ks), st) := by
        rw [matchT, if_pos hk1, Int.toNat_natCast, hst2]
      rw [hm]
      exact ⟨_, _, _, rfl, hI.pick [false, false, true, false], Ext.refl _ _ _, rfl, rfl, _, _, rfl, hkc⟩
    · refine r_lookup (ok := false) hI 2 un_Mint_iTerm un_int zo_iTerm rfl (.inr ⟨hf, rfl, rfl⟩) ?_
      refine r_extract rfl ?_
      refine r_extract rfl ?_
      refine r_alloc hI zo_iTerm fun b7 w' hI => ?_
      refine r_storeW hI 3 rfl ag_iTerm rfl rfl (by simp [Value.oneCell']) fun w' hI => ?_
      refine r_not ?_
      refine condV (fun _ => ?_) (fun hb => by cases hb)
      refine r_fieldL hI 1 rfl fo_iTerm_1 sc_int rfl ?_
      refine r_loadW hI 0 ag_iTerm rfl rfl ?_
      refine r_mapNew hI 2 un_Mint_iTerm un_int rfl hf fun w' hI => ?_
      have hm : matchT (.mk k' j s' ks') (.mk k n s ks) st = (true, st.set j (some (.mk k n s ks))) := by
        rw [matchT, if_pos hk1, Int.toNat_natCast, List.getElem?_eq_getElem hjs]
        cases hq : st[j] with
        | none => rfl
        | some t => exact absurd (by rw [List.getElem?_eq_getElem hjs, hq]) (hno t)
      rw [hm]
      exact ⟨_, _, _, rfl, hI.pick [false, false, true, false], Ext.refl _ _ _, rfl, rfl, _, _, rfl, hkc.push hjs hno hds ck⟩
  refine ⟨fun q w' => q = .bool (!hdEq (.mk k n s ks) (.mk k' n' s' ks')) ∧ Inv w X [.blk b1 (.cells #[.int .i64 k, .int .i64 n, .string s, kv] t_iTerm), .blk b2 (.cells #[.int .i64 k', .int .i64 n', .string s', kv'] t_iTerm), .blk mb (.map es ck)] S w', ?_, ?_⟩
  · refine r_fieldL hI 0 rfl fo_iTerm_0 sc_int rfl ?_
    refine r_fieldL hI 1 rfl fo_iTerm_0 sc_int rfl ?_
    refine r_neq ?_
    by_cases e1 : k = k'
    · rw [decide_eq_true e1]
      repeat (first | refine guard_true ?_ | refine guard_ne (by decide) ?_ | refine guard_undef ?_ | refine r_pickT ?_ | refine r_pickF ?_)
      refine r_fieldL hI 0 rfl fo_iTerm_1 sc_int rfl ?_
      refine r_fieldL hI 1 rfl fo_iTerm_1 sc_int rfl ?_
      refine r_neq ?_
      by_cases e2 : n = n'
      · rw [decide_eq_true e2]
        repeat (first | refine guard_true ?_ | refine guard_ne (by decide) ?_ | refine guard_undef ?_ | refine r_pickT ?_ | refine r_pickF ?_)
        refine r_fieldL hI 0 rfl fo_iTerm_2 sc_string rfl ?_
        refine r_fieldL hI 1 rfl fo_iTerm_2 sc_string rfl ?_
        refine r_sneq ?_
        by_cases e3 : s = s'
        · rw [decide_eq_true e3]
          repeat (first | refine guard_true ?_ | refine guard_ne (by decide) ?_ | refine guard_undef ?_ | refine r_pickT ?_ | refine r_pickF ?_)
          refine r_fieldL hI 0 rfl fo_iTerm_3 sc_SiTerm rfl ?_
          refine r_lenSl hks sl_SiTerm ?_
          refine r_fieldL hI 1 rfl fo_iTerm_3 sc_SiTerm rfl ?_
          refine r_lenSl hks' sl_SiTerm ?_
          refine r_neq ?_
          repeat (first | refine guard_true ?_ | refine guard_ne (by decide) ?_ | refine guard_undef ?_ | refine r_pickT ?_ | refine r_pickF ?_)
          exact ⟨by rw [hdEq_mk, decide_eq_true e1, decide_eq_true e2, decide_eq_true e3, lenEq]; rfl, hI⟩
        · rw [decide_eq_false e3]
          repeat (first | refine guard_true ?_ | refine guard_ne (by decide) ?_ | refine guard_undef ?_ | refine r_pickT ?_ | refine r_pickF ?_)
          exact ⟨by rw [hdEq_mk, decide_eq_true e1, decide_eq_true e2, decide_eq_false e3]; rfl, hI⟩
      · rw [decide_eq_false e2]
        repeat (first | refine guard_true ?_ | refine guard_ne (by decide) ?_ | refine guard_undef ?_ | refine r_pickT ?_ | refine r_pickF ?_)
        exact ⟨by rw [hdEq_mk, decide_eq_true e1, decide_eq_false e2]; rfl, hI⟩
    · rw [decide_eq_false e1]
      repeat (first | refine guard_true ?_ | refine guard_ne (by decide) ?_ | refine guard_undef ?_ | refine r_pickT ?_ | refine r_pickF ?_)
      exact ⟨by rw [hdEq_mk, decide_eq_false e1]; rfl, hI⟩

  intro q _ _ _ _ _ _ _ _ _ _ _ _ _ _ _ _ _ _ _ _ _ _ _ _ _ _ _ w'
  rintro ⟨rfl, hI⟩
  cases hd : hdEq (.mk k n s ks) (.mk k' n' s' ks')
  · refine condV (fun _ => ?_) (fun hb => by cases hb)
    have hm : matchT (.mk k' n' s' ks') (.mk k n s ks) st = (false, st) := by rw [matchT, if_neg hk1, if_neg (by rw [hdEq_comm, hd]; decide)]
    rw [hm]
    exact ⟨_, _, _, rfl, hI.pick [false, false, true], Ext.refl _ _ _, rfl, rfl, _, _, rfl, hkc⟩
  refine condV (fun hb => by cases hb) (fun _ => ?_)
  have hle : ks.length = ks'.length := by
    rw [hdEq_mk] at hd
    simp only [Bool.and_eq_true, decide_eq_true_eq] at hd
    exact hd.2.2.2
  have hm : matchT (.mk k' n' s' ks') (.mk k n s ks) st = matchL ks' ks st := by rw [matchT, if_neg hk1, if_pos (by rw [hdEq_comm, hd])]; rfl
  rw [hm]
  have hu2 := hu.2
  refine r_fieldL hI 1 rfl fo_iTerm_3 sc_SiTerm rfl ?_
  refine r_lenSl hks' sl_SiTerm ?_
  refine ⟨fun i w' => ∃ (j : Nat) (st' : Known) (es' : Array MapEntry) (ck' : Nat), j ≤ ks'.length ∧ i = .int .i64 j ∧ matchL (ks'.drop j) (ks.drop j) st' = matchL ks' ks st ∧ stOk st' ∧ KnownM S es' st' ∧ Inv w X [.blk b1 (.cells #[.int .i64 k, .int .i64 n, .string s, kv] t_iTerm), .blk b2 (.cells #[.int .i64 k', .int .i64 n', .string s', kv'] t_iTerm), .blk mb (.map es' ck')] S w', fun i _ => ks'.length - (intOf i).toNat, ⟨0, st, es, ck, Nat.zero_le _, rfl, rfl, hst, hkc, hI⟩, ?_⟩
  intro t60 _ _ _ _ _ _ _ _ _ _ _ _ _ _ _ _ _ _ w'
  rintro ⟨j, st', es', ck', hj, rfl, hrel, hst', hkc', hI⟩
  refine r_lss ?_
  refine condP (fun hji => ?_) (fun hji => ?_)
  · have hj2 : j < ks'.length := by omega
    have hj1 : j < ks.length := by omega
    obtain ⟨c1, o1, cap1, a1, E1, fz1, rfl, hS1, hR1⟩ := hks.at_ hj1
    obtain ⟨c2, o2, cap2, a2, E2, fz2, rfl, hS2, hR2⟩ := hks'.at_ hj2
    rw [matchL_drop ks' ks st' j hj2 hj1] at hrel
    have hcall := ih _ (List.getElem_mem hj2) ks[j] S _ _ mb ck' es' st' hR2 hR1 (okVL_mem hv2 _ (List.getElem_mem hj2)) (okKL_mem hu2 _ (List.getElem_mem hj1)) hst' hkc'
    have hsn := match_ok ks'[j] ks[j] st' hst' (okKL_mem hu2 _ (List.getElem_mem hj1))
    generalize hr : matchT ks'[j] ks[j] st' = r at hrel hcall hsn
    refine ⟨fun D x75 x74 x73 x72 x71 x70 x69 x68 x67 x66 x65 x64 x63 w_ => (D 0 = true → x63 = .pointer (some ⟨b1, 3, none⟩)) ∧ (D 1 = true → x64 = .slice (some ⟨c1, o1, none⟩) ks.length cap1) ∧ (D 2 = true → x65 = .int .i64 j) ∧ (D 3 = true → x66 = .pointer (some ⟨c1, o1 + j * 4, none⟩)) ∧ (D 4 = true → x67 = .agg (cellsAt a1 (o1 + j * 4) 4).toArray) ∧ (D 5 = true → x68 = .pointer (some ⟨b2, 3, none⟩)) ∧ (D 6 = true → x69 = .slice (some ⟨c2, o2, none⟩) ks'.length cap2) ∧ (D 7 = true → x70 = .int .i64 j) ∧ (D 8 = true → x71 = .pointer (some ⟨c2, o2 + j * 4, none⟩)) ∧ (D 9 = true → x72 = .agg (cellsAt a2 (o2 + j * 4) 4).toArray) ∧ (D 10 = true → x73 = .map (some mb)) ∧ (D 11 = true → x74 = .bool r.1) ∧ (D 12 = true → x75 = .bool (!r.1)) ∧ (D 11 = false → Inv w X [.blk b1 (.cells #[.int .i64 k, .int .i64 n, .string s, .slice (some ⟨c1, o1, none⟩) ks.length cap1] t_iTerm), .blk b2 (.cells #[.int .i64 k', .int .i64 n', .string s', .slice (some ⟨c2, o2, none⟩) ks'.length cap2] t_iTerm), .blk mb (.map es' ck')] S w_) ∧ (D 11 = true → ∃ es2 ck2, KnownM S es2 r.2 ∧ Inv w X [.blk b1 (.cells #[.int .i64 k, .int .i64 n, .string s, .slice (some ⟨c1, o1, none⟩) ks.length cap1] t_iTerm), .blk b2 (.cells #[.int .i64 k', .int .i64 n', .string s', .slice (some ⟨c2, o2, none⟩) ks'.length cap2] t_iTerm), .blk mb (.map es2 ck2)] S w_) ∧ ∃ es3 ck3, Inv w X [.blk b1 (.cells #[.int .i64 k, .int .i64 n, .string s, .slice (some ⟨c1, o1, none⟩) ks.length cap1] t_iTerm), .blk b2 (.cells #[.int .i64 k', .int .i64 n', .string s', .slice (some ⟨c2, o2, none⟩) ks'.length cap2] t_iTerm), .blk mb (.map es3 ck3)] S w_, ⟨fun h => Bool.noConfusion h, fun h => Bool.noConfusion h, fun h => Bool.noConfusion h, fun h => Bool.noConfusion h, fun h => Bool.noConfusion h, fun h => Bool.noConfusion h, fun h => Bool.noConfusion h, fun h => Bool.noConfusion h, fun h => Bool.noConfusion h, fun h => Bool.noConfusion h, fun h => Bool.noConfusion h, fun h => Bool.noConfusion h, fun h => Bool.noConfusion h, ⟨fun _ => hI.draw, fun h => Bool.noConfusion h, es', ck', hI.draw⟩⟩, ⟨?_, ?_, ?_, ?_, ?_, ?_, ?_, ?_, ?_, ?_, ?_, ?_, ?_, trivial⟩, ?_⟩
    · intro D hD_  x75 x74 x73 x72 x71 x70 x69 x68 x67 x66 x65 x64 x63 w_
      rintro ⟨h0_, h1_, h2_, h3_, h4_, h5_, h6_, h7_, h8_, h9_, h10_, h11_, h12_, ⟨hI0, hI1, es3, ck3, hI⟩⟩
      refine r_field fo_iTerm_3 ?_
      exact ⟨fun _ => rfl, h1_, h2_, h3_, h4_, h5_, h6_, h7_, h8_, h9_, h10_, h11_, h12_, ⟨hI0, hI1, es3, ck3, hI⟩⟩
    · intro D hD_ d0_0 x75 x74 x73 x72 x71 x70 x69 x68 x67 x66 x65 x64 x63 w_
      rintro ⟨h0_, h1_, h2_, h3_, h4_, h5_, h6_, h7_, h8_, h9_, h10_, h11_, h12_, ⟨hI0, hI1, es3, ck3, hI⟩⟩
      obtain rfl := h0_ d0_0
      refine r_loadL hI 0 sc_SiTerm rfl rfl ?_
      exact ⟨h0_, fun _ => rfl, h2_, h3_, h4_, h5_, h6_, h7_, h8_, h9_, h10_, h11_, h12_, ⟨hI0, hI1, es3, ck3, hI⟩⟩
    · intro D hD_  x75 x74 x73 x72 x71 x70 x69 x68 x67 x66 x65 x64 x63 w_
      rintro ⟨h0_, h1_, h2_, h3_, h4_, h5_, h6_, h7_, h8_, h9_, h10_, h11_, h12_, ⟨hI0, hI1, es3, ck3, hI⟩⟩
      exact ⟨h0_, h1_, fun _ => rfl, h3_, h4_, h5_, h6_, h7_, h8_, h9_, h10_, h11_, h12_, ⟨hI0, hI1, es3, ck3, hI⟩⟩
    · intro D hD_ d1_0 d2_1 x75 x74 x73 x72 x71 x70 x69 x68 x67 x66 x65 x64 x63 w_
      rintro ⟨h0_, h1_, h2_, h3_, h4_, h5_, h6_, h7_, h8_, h9_, h10_, h11_, h12_, ⟨hI0, hI1, es3, ck3, hI⟩⟩
      obtain rfl := h1_ d1_0
      obtain rfl := h2_ d2_1
      refine r_indexAddr sl_SiTerm hj1 ?_
      exact ⟨h0_, h1_, h2_, fun _ => rfl, h4_, h5_, h6_, h7_, h8_, h9_, h10_, h11_, h12_, ⟨hI0, hI1, es3, ck3, hI⟩⟩
    · intro D hD_ d3_0 x75 x74 x73 x72 x71 x70 x69 x68 x67 x66 x65 x64 x63 w_
      rintro ⟨h0_, h1_, h2_, h3_, h4_, h5_, h6_, h7_, h8_, h9_, h10_, h11_, h12_, ⟨hI0, hI1, es3, ck3, hI⟩⟩
      obtain rfl := h3_ d3_0
      refine r_loadA ag_iTerm hR1.length (fun j v hj => by rw [hI.cellS hS1]; exact cellsAt_get rfl j v hj) ?_
      exact ⟨h0_, h1_, h2_, h3_, fun _ => rfl, h5_, h6_, h7_, h8_, h9_, h10_, h11_, h12_, ⟨hI0, hI1, es3, ck3, hI⟩⟩
    · intro D hD_  x75 x74 x73 x72 x71 x70 x69 x68 x67 x66 x65 x64 x63 w_
      rintro ⟨h0_, h1_, h2_, h3_, h4_, h5_, h6_, h7_, h8_, h9_, h10_, h11_, h12_, ⟨hI0, hI1, es3, ck3, hI⟩⟩
      refine r_field fo_iTerm_3 ?_
      exact ⟨h0_, h1_, h2_, h3_, h4_, fun _ => rfl, h6_, h7_, h8_, h9_, h10_, h11_, h12_, ⟨hI0, hI1, es3, ck3, hI⟩⟩
    · intro D hD_ d5_0 x75 x74 x73 x72 x71 x70 x69 x68 x67 x66 x65 x64 x63 w_
      rintro ⟨h0_, h1_, h2_, h3_, h4_, h5_, h6_, h7_, h8_, h9_, h10_, h11_, h12_, ⟨hI0, hI1, es3, ck3, hI⟩⟩
      obtain rfl := h5_ d5_0
      refine r_loadL hI 1 sc_SiTerm rfl rfl ?_
      exact ⟨h0_, h1_, h2_, h3_, h4_, h5_, fun _ => rfl, h7_, h8_, h9_, h10_, h11_, h12_, ⟨hI0, hI1, es3, ck3, hI⟩⟩
    · intro D hD_  x75 x74 x73 x72 x71 x70 x69 x68 x67 x66 x65 x64 x63 w_
      rintro ⟨h0_, h1_, h2_, h3_, h4_, h5_, h6_, h7_, h8_, h9_, h10_, h11_, h12_, ⟨hI0, hI1, es3, ck3, hI⟩⟩
      exact ⟨h0_, h1_, h2_, h3_, h4_, h5_, h6_, fun _ => rfl, h8_, h9_, h10_, h11_, h12_, ⟨hI0, hI1, es3, ck3, hI⟩⟩
    · intro D hD_ d6_0 d7_1 x75 x74 x73 x72 x71 x70 x69 x68 x67 x66 x65 x64 x63 w_
      rintro ⟨h0_, h1_, h2_, h3_, h4_, h5_, h6_, h7_, h8_, h9_, h10_, h11_, h12_, ⟨hI0, hI1, es3, ck3, hI⟩⟩
      obtain rfl := h6_ d6_0
      obtain rfl := h7_ d7_1
      refine r_indexAddr sl_SiTerm hj2 ?_
      exact ⟨h0_, h1_, h2_, h3_, h4_, h5_, h6_, h7_, fun _ => rfl, h9_, h10_, h11_, h12_, ⟨hI0, hI1, es3, ck3, hI⟩⟩
    · intro D hD_ d8_0 x75 x74 x73 x72 x71 x70 x69 x68 x67 x66 x65 x64 x63 w_
      rintro ⟨h0_, h1_, h2_, h3_, h4_, h5_, h6_, h7_, h8_, h9_, h10_, h11_, h12_, ⟨hI0, hI1, es3, ck3, hI⟩⟩
      obtain rfl := h8_ d8_0
      refine r_loadA ag_iTerm hR2.length (fun j v hj => by rw [hI.cellS hS2]; exact cellsAt_get rfl j v hj) ?_
      exact ⟨h0_, h1_, h2_, h3_, h4_, h5_, h6_, h7_, h8_, fun _ => rfl, h10_, h11_, h12_, ⟨hI0, hI1, es3, ck3, hI⟩⟩
    · intro D hD_  x75 x74 x73 x72 x71 x70 x69 x68 x67 x66 x65 x64 x63 w_
      rintro ⟨h0_, h1_, h2_, h3_, h4_, h5_, h6_, h7_, h8_, h9_, h10_, h11_, h12_, ⟨hI0, hI1, es3, ck3, hI⟩⟩
      exact ⟨h0_, h1_, h2_, h3_, h4_, h5_, h6_, h7_, h8_, h9_, fun _ => rfl, h11_, h12_, ⟨hI0, hI1, es3, ck3, hI⟩⟩
    · intro D hD_ d4_0 d9_1 d10_2 x75 x74 x73 x72 x71 x70 x69 x68 x67 x66 x65 x64 x63 w_
      rintro ⟨h0_, h1_, h2_, h3_, h4_, h5_, h6_, h7_, h8_, h9_, h10_, h11_, h12_, ⟨hI0, hI1, es3, ck3, hI⟩⟩
      obtain rfl := h4_ d4_0
      obtain rfl := h9_ d9_1
      obtain rfl := h10_ d10_2
      refine Run.call (A := [_, _]) fn_i_instance nm_i_instance (hI0 hD_) hcall fun v' I' S w_ => ?_
      rintro ⟨rfl, rfl, es2, ck2, rfl, hk2⟩ _ hI
      have hI0 := fun (h : setD D 11 11 = false) => (Bool.noConfusion h : Inv w X [.blk b1 (.cells #[.int .i64 k, .int .i64 n, .string s, .slice (some ⟨c1, o1, none⟩) ks.length cap1] t_iTerm), .blk b2 (.cells #[.int .i64 k', .int .i64 n', .string s', .slice (some ⟨c2, o2, none⟩) ks'.length cap2] t_iTerm), .blk mb (.map es' ck')] S w_)
      have hI1 := fun (_ : setD D 11 11 = true) => (⟨es2, ck2, hk2, hI⟩ : ∃ es2 ck2, KnownM S es2 r.2 ∧ Inv w X [.blk b1 (.cells #[.int .i64 k, .int .i64 n, .string s, .slice (some ⟨c1, o1, none⟩) ks.length cap1] t_iTerm), .blk b2 (.cells #[.int .i64 k', .int .i64 n', .string s', .slice (some ⟨c2, o2, none⟩) ks'.length cap2] t_iTerm), .blk mb (.map es2 ck2)] S w_)
      obtain ⟨es3, ck3, hI⟩ : ∃ es3 ck3, Inv w X [.blk b1 (.cells #[.int .i64 k, .int .i64 n, .string s, .slice (some ⟨c1, o1, none⟩) ks.length cap1] t_iTerm), .blk b2 (.cells #[.int .i64 k', .int .i64 n', .string s', .slice (some ⟨c2, o2, none⟩) ks'.length cap2] t_iTerm), .blk mb (.map es3 ck3)] S w_ := ⟨es2, ck2, hI⟩
      exact ⟨h0_, h1_, h2_, h3_, h4_, h5_, h6_, h7_, h8_, h9_, h10_, fun _ => rfl, h12_, ⟨hI0, hI1, es3, ck3, hI⟩⟩
    · intro D hD_ d11_0 x75 x74 x73 x72 x71 x70 x69 x68 x67 x66 x65 x64 x63 w_
      rintro ⟨h0_, h1_, h2_, h3_, h4_, h5_, h6_, h7_, h8_, h9_, h10_, h11_, h12_, ⟨hI0, hI1, es3, ck3, hI⟩⟩
      obtain rfl := h11_ d11_0
      refine r_not ?_
      exact ⟨h0_, h1_, h2_, h3_, h4_, h5_, h6_, h7_, h8_, h9_, h10_, h11_, fun _ => rfl, ⟨hI0, hI1, es3, ck3, hI⟩⟩
    intro D d12_ d11_ d10_ d9_ d8_ d7_ d6_ d5_ d4_ d3_ d2_ d1_ d0_ x75 x74 x73 x72 x71 x70 x69 x68 x67 x66 x65 x64 x63 w_
    rintro ⟨h0_, h1_, h2_, h3_, h4_, h5_, h6_, h7_, h8_, h9_, h10_, h11_, h12_, ⟨hI0, hI1, es3, ck3, hI⟩⟩
    obtain rfl := h12_ d12_
    obtain rfl := h11_ d11_
    obtain rfl := h10_ d10_
    obtain rfl := h9_ d9_
    obtain rfl := h8_ d8_
    obtain rfl := h7_ d7_
    obtain rfl := h6_ d6_
    obtain rfl := h5_ d5_
    obtain rfl := h4_ d4_
    obtain rfl := h3_ d3_
    obtain rfl := h2_ d2_
    obtain rfl := h1_ d1_
    obtain rfl := h0_ d0_
    clear h0_ h1_ h2_ h3_ h4_ h5_ h6_ h7_ h8_ h9_ h10_ h11_ h12_
    obtain ⟨es2, ck2, hk2, hI⟩ := hI1 d11_
    clear hI0 hI1
    refine condV (fun hne => ?_) (fun he' => ?_)
    · simp only [Bool.not_eq_true'] at hne
      rw [hne, if_neg (by decide)] at hrel
      rw [← hrel]
      exact ⟨_, _, _, rfl, hI.pick [false, false, true], Ext.refl _ _ _, rfl, rfl, _, _, rfl, hk2⟩
    · simp only [Bool.not_eq_false'] at he'
      rw [he', if_pos rfl] at hrel
      refine r_add (by omega) ?_
      exact ⟨⟨j + 1, r.2, es2, ck2, hj2, rfl, hrel, hsn, hk2, hI⟩, by simp [intOf]; omega⟩
  · have : j = ks'.length := by omega
    subst this
    rw [List.drop_length, ← hle, List.drop_length] at hrel
    rw [← hrel]
    exact ⟨_, _, _, rfl, hI.pick [false, false, true], Ext.refl _ _ _, rfl, rfl, _, _, rfl, hkc'⟩
end

end Go.Proofs.YtgdibnmabnimaaaGreat

/- maps.Clone of maps from numbers to terms; reading a published map. -/
namespace Go.Proofs.YtgdibnmabnimaaaGreat
open Go Go.RowKit
section
variable {P : Program} {w w0 : World} {X : List Nat} {L : List Item} {S : Store} {K : Value → World → Prop}
attribute [local irreducible] Run CondV GuardV LoadV
theorem r_lookupS (h : Inv w0 X L S w) {T kt et ty : TypeId} {b clock : Nat} {es : Array MapEntry} {n : Int} {z v : Value} (hT : P.underlying T = some (.map kt et)) (hkt : P.underlying kt = some (.int .i64))
    (hz : zeroOf P et = some z) (hS : S b = some (.map es clock))
    (hf : (∃ j, Instr.findNow (.int .i64) (.int .i64 n) es.toList 0 = some (some (j, v))) ∨ (Instr.findNow (.int .i64) (.int .i64 n) es.toList 0 = some none ∧ v = z))
    (hk : K v w) : Run P (sOp (.lookup T (.const (.map (some b))) (.const (.int .i64 n)) false) ty) w K := by
  have hb : w.heap[b]? = some (.map es clock) := (h.pub _ _ hS).1
  have hck : ∀ e, (Instr.checkKey e 10000 kt (.int .i64 n)).run P w = .ok () w := fun e => by
    rw [show (10000 : Nat) = 9999 + 1 from rfl, Instr.checkKey]
    simp [run_underlying hkt]
  obtain ⟨inf, hi1, hi2⟩ : ∃ inf, P.info? et = some inf ∧ inf.zero = some z := by
    unfold zeroOf at hz
    cases hinf : P.info? et with
    | none => rw [hinf] at hz; simp at hz
    | some inf => rw [hinf] at hz; exact ⟨inf, rfl, by simpa using hz⟩
  have hzv : (zeroValue et).run P w = .ok z w := by simp [zeroValue, typeInfo, hi1, hi2]
  refine Run.of ?_ hk
  have hg : (getObj b).run P w = .ok (.map es clock) w := by simp [getObj, Sem.run, hb]
  rcases hf with ⟨j, hf⟩ | ⟨hf, rfl⟩
  · have hfk := run_findKeyI (P := P) (w := w) hkt hf
    simp [sOp, execOp, ev0, evE, Instr.lookup, run_underlying hT, hg, hck, hfk]
  · have hfk := run_findKeyI (P := P) (w := w) hkt hf
    simp [sOp, execOp, ev0, evE, Instr.lookup, run_underlying hT, hg, hck, hfk, hzv]
theorem r_mapNil {T kt et : TypeId} {cx cy : Bool} {b : Nat} (hT : P.underlying T = some (.map kt et)) (hk : K (.bool false) w) : Run P (sBin .eql T cx cy (.map (some b)) (.map none)) w K := by
  refine Run.of (v := .bool false) (w' := w) ?_ hk
  have he : (Op.equal T (.map (some b)) (.map none)).run P w = .ok false w := by
    rw [Op.equal, Op.maxDepth, Op.equalIn.eq_def]
    simp [run_underlying hT]
  have hg : ∀ x y, (eqGuard .eql T x y (.map (some b)) (.map none)).run P w = .ok () w := fun x y => by unfold eqGuard; simp
  simp only [sBin, binOp, Sem.run_bind, hg, Result.andThen_ok, he, Sem.run_pure]
theorem r_iface {T ty kt et : TypeId} {v : Value} (hT : P.underlying T = some (.map kt et)) (hk : K (.iface T v) w) : Run P (sOp (.makeInterface T (.const v)) ty) w K := by
  refine Run.of ?_ hk
  simp [sOp, execOp, ev0, evE, Instr.makeInterface, run_underlying hT]
theorem r_assert {T U ty kt et : TypeId} {v : Value} (hT : P.underlying T = some (.map kt et)) (hk : K v w) : Run P (sOp (.typeAssert (.const (.iface T v)) U T false) ty) w K := by
  refine Run.of ?_ hk
  simp [sOp, execOp, ev0, evE, Instr.typeAssert, run_underlying hT]
theorem r_mclone (h : Inv w0 X L S w) {f : FuncId} {fn : Func} {t b clock : Nat} {es : Array MapEntry} (hf : P.funcs[f]? = some fn) (hn : (fn.name == "runtime.NumGoroutine") = false) (hb : fn.body.isNone = true)
    (hx : (Extern.findNext fn).isNone = true) (hy : Extern.find fn = some Extern.MapsClone.clone) (hS : S b = some (.map es clock))
    (hk : ∀ nb w', Inv w0 X (L ++ [.blk nb (.map es clock)]) S w' → K (.iface t (.map (some nb))) w') : Run P (sCall (.func (.func f) #[] #[]) [.iface t (.map (some b))]) w K := by
  have hbw : w.heap[b]? = some (.map es clock) := (h.pub _ _ hS).1
  refine Run.of (v := .iface t (.map (some w.heap.size))) (w' := { w with heap := w.heap.push (.map es clock) }) ?_ (hk _ _ (h.alloc _))
  have h1 : ¬ fn.name = "runtime.NumGoroutine" := by simpa using hn
  have h2 : fn.body = none := by simpa using hb
  have h3 : Extern.findNext fn = none := by simpa using hx
  have hg : (getObj b).run P w = .ok (.map es clock) w := by simp [getObj, Sem.run, hbw]
  have hc : (Extern.MapsClone.clone #[.iface t (.map (some b))]).run P w = .ok (.iface t (.map (some w.heap.size))) { w with heap := w.heap.push (.map es clock) } := by
    have e : Extern.MapsClone.clone #[.iface t (.map (some b))] = (getObj b >>= fun o => match o with
      | .map entries clock => (newObj (.map entries clock) >>= fun n => pure (.iface t (.map (some n))))
      | _ => stuck "maps.clone: a map expected") := rfl
    rw [e]
    simp [hg, newObj, Sem.run, Result.andThen]
  simp [sCall, Deferred.ofValue, invoke, callFunc, hf, h1, h2, h3, hy, hc]
end
section
attribute [local irreducible] Run CondV GuardV LoadV
theorem mClone_calls {S : Store} {mb ck : Nat} {es : Array MapEntry} (hS : S mb = some (.map es ck)) : Tri Tryz.prog n_x_mClone_Term [.map (some mb)] [] S fun r I' S' => S' = S ∧ ∃ nb, r = .map (some nb) ∧ I' = [.blk nb (.map es ck)] := by
  intro w hI
  refine calls_x_mClone_Term ?_
  unfold sh_x_mClone_Term
  refine r_mapNil (kt := t_int) (et := t_iTerm) (by kernel_rfl) ?_
  refine condV (fun hb => by cases hb) (fun _ => ?_)
  refine r_iface (kt := t_int) (et := t_iTerm) (by kernel_rfl) ?_
  refine r_mclone hI Tryz.func93 (by kernel_rfl) (by kernel_rfl) (by kernel_rfl) (by kernel_rfl) hS fun nb w' hI => ?_
  refine r_assert (kt := t_int) (et := t_iTerm) (by kernel_rfl) ?_
  exact ⟨_, _, _, rfl, hI, Ext.refl _ _ _, rfl, nb, rfl, rfl⟩
end

end Go.Proofs.YtgdibnmabnimaaaGreat

/- SubsumedClause: both sides. -/
namespace Go.Proofs.YtgdibnmabnimaaaGreat
open Go Go.RowKit

def st0 : Known := List.replicate 26 none
theorem st0_ok : stOk st0 := ⟨by simp [st0], fun t ht => by simp [st0] at ht⟩
theorem KnownM.empty (S : Store) : KnownM S #[] st0 := ⟨by simp, fun n t ht => by
  rw [st0, List.getElem?_replicate] at ht
  split at ht <;> cases ht⟩
def subG (c d : C) : Bool := clauseB c && (clauseB d && decide (d.body.length ≤ c.body.length))
def subB (c d : C) : Bool := subG c d && ((matchT d.head c.head st0).1 && (matchL d.body c.body (matchT d.head c.head st0).2).1)
theorem subB_eq (c d : C) : subB c d = (subG c d && ((matchT d.head c.head st0).1 && (matchL d.body c.body (matchT d.head c.head st0).2).1)) := rfl
theorem okVL_of : ∀ {ts : List T}, (∀ t ∈ ts, okV t) → okVL ts
  | [], _ => by simp [okVL]
  | t :: ts, h => by rw [okVL]; exact ⟨h t (List.mem_cons_self ..), okVL_of fun u hu => h u (List.mem_cons_of_mem _ hu)⟩
theorem okKL_of : ∀ {ts : List T}, (∀ t ∈ ts, okK t) → okKL ts
  | [], _ => by simp [okKL]
  | t :: ts, h => by rw [okKL]; exact ⟨h t (List.mem_cons_self ..), okKL_of fun u hu => h u (List.mem_cons_of_mem _ hu)⟩
theorem clause_ok {c : C} (h : clauseB c = true) : (okV c.head ∧ okK c.head) ∧ okVL c.body ∧ okKL c.body := by
  rw [clauseB] at h
  simp only [Bool.and_eq_true, List.all_eq_true] at h
  obtain ⟨_, h2, h3, _⟩ := h
  have hb : ∀ t ∈ c.body, okV t ∧ okK t := fun t ht => by
    have := h2 t ht
    rw [goalB, Bool.and_eq_true] at this
    exact valid_ok this.1
  exact ⟨valid_ok h3, okVL_of fun t ht => (hb t ht).1, okKL_of fun t ht => (hb t ht).2⟩
theorem subG_ok {c d : C} (h : subG c d = true) : okV d.head ∧ okK c.head ∧ okVL d.body ∧ okKL c.body ∧ d.body.length ≤ c.body.length := by
  rw [subG] at h
  simp only [Bool.and_eq_true, decide_eq_true_eq] at h
  obtain ⟨h1, h2⟩ := clause_ok h.1
  obtain ⟨h3, h4⟩ := clause_ok h.2.1
  exact ⟨h3.1, h1.2, h4.1, h2.2, h.2.2⟩
theorem noTable (z : Array Value) (hz : z = #[.int .i64 0, .int .i64 0, .string ⟨#[]⟩, .slice none 0 0]) (S : Store) : KnownC S ((Array.range 104).map (z[· % z.size]!)) st0 := by
  subst hz
  refine ⟨by simp, fun i hi => ⟨fun _ => ?_, fun t ht => ?_⟩⟩
  · simp only [st0, List.length_replicate] at hi
    apply List.ext_getElem?
    intro j
    rw [cellsAt, List.getElem?_take]
    match j with
    | 0 | 1 | 2 | 3 =>
      rw [if_pos (by omega), List.getElem?_drop, Array.getElem?_toList, Array.getElem?_map, Array.getElem?_range, if_pos (by omega)]
      simp only [Option.map_some, List.size_toArray, List.length_cons, List.length_nil]
      first
        | rw [show (i * 4 + 0) % 4 = 0 by omega]; rfl
        | rw [show (i * 4 + 1) % 4 = 1 by omega]; rfl
        | rw [show (i * 4 + 2) % 4 = 2 by omega]; rfl
        | rw [show (i * 4 + 3) % 4 = 3 by omega]; rfl
    | j + 4 =>
      rw [if_neg (by omega)]
      rfl
  · have e : st0[i] = none := by simp only [st0, List.getElem_replicate]
    rw [e] at ht
    cases ht
section
variable {P : Program} {w w0 : World} {X : List Nat} {L : List Item} {S : Store} {K : Value → World → Prop}
attribute [local irreducible] Run CondV GuardV LoadV
theorem r_makeSliceZ (h : Inv w0 X L S w) {T ty e : TypeId} {k by_ n : Nat} {z : Value} (hT : mkOf P T = some (e, k, by_, z)) (hn : n ≤ 4294967296) (hby : by_ ≤ 65536) (hn0 : n * k ≠ 0)
    (hk : ∀ b w', Inv w0 X (L ++ [.blk b (.cells ((Array.range (n * k)).map (z.cells[· % z.cells.size]!)) e)]) S w' → K (.slice (some ⟨b, 0, none⟩) n n) w') :
    Run P (sOp (.makeSlice T (.const (.int .i64 n)) (.const (.int .i64 n))) ty) w K := by
  obtain ⟨hu, i, hi, hz, hs, hb, hzs⟩ := mkOf_some hT
  have hw : IntKind.i64.wrap (n : Int) = n := IntWalk.i64_in _ (by omega)
  have hle : by_ * n ≤ 2 ^ 48 := Nat.le_trans (Nat.mul_le_mul hby hn) (by decide)
  have h1 : ¬ ((n : Int) < 0) := by omega
  have h2 : ¬ (281474976710656 < (i.bytes : Int) * (n : Int)) := by
    rw [hb]
    have : ((by_ * n : Nat) : Int) ≤ ((2 ^ 48 : Nat) : Int) := by exact_mod_cast hle
    have e : (((2 ^ 48 : Nat)) : Int) = 281474976710656 := by decide
    rw [e, Int.natCast_mul] at this
    omega
  refine Run.of (v := .slice (some ⟨w.heap.size, 0, none⟩) n n) (w' := { w with heap := w.heap.push (.cells ((Array.range (n * k)).map (z.cells[· % z.cells.size]!)) e) }) ?_ (hk _ _ (h.alloc _))
  simp [sOp, execOp, ev0, evE, Instr.makeSlice, run_underlying hu, asInt, asIntOf, typeInfo, hi, hw, h1, h2, sizeOf, hs, newRow, newObj, Sem.run, hn0, zeroValue, hz]
end
section
attribute [local irreducible] Run CondV GuardV LoadV
end

end Go.Proofs.YtgdibnmabnimaaaGreat

/- Flat programs: what follows from facts. The plain form. -/
namespace Go.Proofs.YtgdibnmabnimaaaGreat
open Go Go.RowKit

def ArgOk (y : T) : Prop := ownB y = true ∧ y.kids = [] ∧ y.kind ≠ 1
def Fct (x : T) : Prop := x.kind = 3 ∧ ownB x = true ∧ ∀ y ∈ x.kids, ArgOk y
def Gl (g : T) : Prop := g.kind = 3 ∧ ownB g = true ∧ ∀ y ∈ g.kids, ownB y = true ∧ y.kids = []
def StF (st : Known) : Prop := st.length = 26 ∧ ∀ t, some t ∈ st → ArgOk t
def bnd (st : Known) (n : Int) : Prop := ∃ t, st[n.toNat]? = some (some t)
theorem nameB_size {s : ByteArray} (h : nameB s = true) : s.size ≤ 6 := by
  rw [nameB, Bool.or_eq_true] at h
  rcases h with h | h
  · rw [wordB] at h
    simp only [Bool.and_eq_true, decide_eq_true_eq] at h
    exact h.2.2
  · simp only [List.any_eq_true, decide_eq_true_eq] at h
    obtain ⟨x, hx, rfl⟩ := h
    have : ∀ y ∈ signs, y.size ≤ 6 := by decide +kernel
    exact this x hx
theorem ownB_size {t : T} (h : ownB t = true) : t.name.size ≤ 6 ∧ t.kids.length ≤ 4 := by
  unfold ownB at h
  have he : emptyB.size = 0 := by decide +kernel
  by_cases e1 : t.kind = 1
  · rw [if_pos e1] at h
    simp only [Bool.and_eq_true, decide_eq_true_eq] at h
    rw [h.2.2.1]; omega
  · rw [if_neg e1] at h
    by_cases e2 : t.kind = 2
    · rw [if_pos e2] at h
      simp only [Bool.and_eq_true, decide_eq_true_eq] at h
      rw [h.2.2.1]; omega
    · rw [if_neg e2] at h
      by_cases e3 : t.kind = 3
      · rw [if_pos e3] at h
        simp only [Bool.and_eq_true, decide_eq_true_eq] at h
        exact ⟨nameB_size h.2.1, h.2.2⟩
      · rw [if_neg e3] at h
        cases h
theorem wT_def (t : T) : wT t = t.name.size + t.kids.length + wL t.kids := by cases t; rw [wT]; rfl
theorem okV_def (t : T) : okV t ↔ (t.kind = 1 → 0 ≤ t.n ∧ t.n ≤ 25) ∧ okVL t.kids := by cases t; rw [okV]; rfl
theorem okK_def (t : T) : okK t ↔ t.kind ≠ 0 ∧ okKL t.kids := by cases t; rw [okK]; rfl
theorem okO_def (t : T) : okO t ↔ (((t.kind = 1 ∨ t.kind = 2) ∧ t.name = emptyB ∧ t.kids = []) ∨ (t.kind = 3 ∧ t.n = 0)) ∧ okOL t.kids := by cases t; rw [okO]; rfl
theorem okOL_of : ∀ {ts : List T}, (∀ t ∈ ts, okO t) → okOL ts
  | [], _ => by simp [okOL]
  | t :: ts, h => by rw [okOL]; exact ⟨h t (List.mem_cons_self ..), okOL_of fun u hu => h u (List.mem_cons_of_mem _ hu)⟩
theorem leaf_ok {y : T} (h : ownB y = true) (hk : y.kids = []) : okV y ∧ okK y ∧ okO y ∧ wT y ≤ 6 := by
  have h1 := ownB_v h
  have h2 := ownB_okO h
  have h3 := ownB_size h
  refine ⟨(okV_def y).2 ⟨h1.1, by rw [hk]; simp [okVL]⟩, (okK_def y).2 ⟨h1.2, by rw [hk]; simp [okKL]⟩, (okO_def y).2 ⟨h2, by rw [hk]; simp [okOL]⟩, ?_⟩
  rw [wT_def, hk]
  simp only [List.length_nil, wL]
  omega
theorem wL_bound : ∀ (ts : List T) (b : Nat), (∀ t ∈ ts, wT t ≤ b) → wL ts ≤ ts.length * b
  | [], b, _ => by simp [wL]
  | t :: ts, b, h => by
    rw [wL, List.length_cons, Nat.succ_mul]
    have h1 := h t (List.mem_cons_self ..)
    have h2 := wL_bound ts b fun u hu => h u (List.mem_cons_of_mem _ hu)
    omega
theorem node_ok {x : T} (ho : ownB x = true) (hk : ∀ y ∈ x.kids, ownB y = true ∧ y.kids = []) : okV x ∧ okK x ∧ okO x ∧ wT x ≤ 34 := by
  have h1 := ownB_v ho
  have h2 := ownB_okO ho
  have h3 := ownB_size ho
  have hl := fun y hy => leaf_ok (hk y hy).1 (hk y hy).2
  refine ⟨(okV_def x).2 ⟨h1.1, okVL_of fun y hy => (hl y hy).1⟩, (okK_def x).2 ⟨h1.2, okKL_of fun y hy => (hl y hy).2.1⟩, (okO_def x).2 ⟨h2, okOL_of fun y hy => (hl y hy).2.2.1⟩, ?_⟩
  have h4 := wL_bound x.kids 6 fun y hy => (hl y hy).2.2.2
  have h5 : x.kids.length * 6 ≤ 4 * 6 := Nat.mul_le_mul_right 6 h3.2
  rw [wT_def]
  omega
theorem Fct.ok {x : T} (h : Fct x) : okV x ∧ okK x ∧ okO x ∧ wT x ≤ 34 := node_ok h.2.1 fun y hy => ⟨(h.2.2 y hy).1, (h.2.2 y hy).2.1⟩
theorem Gl.ok {x : T} (h : Gl x) : okV x ∧ okK x ∧ okO x ∧ wT x ≤ 34 := node_ok h.2.1 h.2.2
theorem StF.ok {st : Known} (h : StF st) : stOk st ∧ stW st := ⟨⟨h.1, fun t ht => (leaf_ok (h.2 t ht).1 (h.2 t ht).2.1).2.1⟩, fun t ht => by have := (leaf_ok (h.2 t ht).1 (h.2 t ht).2.1).2.2.2; omega⟩
theorem st0_F : StF st0 := ⟨by simp [st0], fun t ht => by simp [st0] at ht⟩
theorem own_range {y : T} (h : ownB y = true) (hk : y.kind = 1) : 0 ≤ y.n ∧ y.n ≤ 25 := (ownB_v h).1 hk
/- matching -/
theorem leafs_match : ∀ (ts us : List T) (st : Known), st.length = 26 → (∀ y ∈ ts, ownB y = true ∧ y.kids = []) → ts.length = us.length →
    (matchL ts us st).2.length = 26 ∧ (∀ x, some x ∈ (matchL ts us st).2 → some x ∈ st ∨ x ∈ us) ∧ (∀ n, bnd st n → bnd (matchL ts us st).2 n) ∧ ((matchL ts us st).1 = true → ∀ y ∈ ts, y.kind = 1 → bnd (matchL ts us st).2 y.n)
  | [], us, st, hst, _, _ => by
    rw [matchL]
    exact ⟨hst, fun x hx => .inl hx, fun n h => h, fun _ y hy => by cases hy⟩
  | _ :: _, [], st, _, _, hl => by simp at hl
  | t :: ts, u :: us, st, hst, hk, hl => by
    obtain ⟨ho, hks⟩ := hk t (List.mem_cons_self ..)
    have hk' := fun y hy => hk y (List.mem_cons_of_mem _ hy)
    have hl' : ts.length = us.length := by simpa using hl
    rw [matchL]
    have key : (matchT t u st).2.length = 26 ∧ (∀ x, some x ∈ (matchT t u st).2 → some x ∈ st ∨ x = u) ∧ (∀ n, bnd st n → bnd (matchT t u st).2 n) ∧ ((matchT t u st).1 = true → t.kind = 1 → bnd (matchT t u st).2 t.n) := by
      obtain ⟨k, n, s, ks⟩ := t
      rw [matchT]
      by_cases hk1 : k = 1
      · have hr := own_range ho hk1
        simp only [T.n] at hr
        rw [if_pos hk1]
        split
        · rename_i t0 h0
          refine ⟨hst, fun x hx => .inl hx, fun n h => h, fun _ _ => ⟨t0, ?_⟩⟩
          exact h0
        · refine ⟨by rw [List.length_set]; exact hst, fun x hx => ?_, fun m ⟨t1, h1⟩ => ?_, fun _ _ => ⟨u, ?_⟩⟩
          · rcases List.mem_or_eq_of_mem_set hx with hx | hx
            · exact .inl hx
            · simp only [Option.some.injEq] at hx
              exact .inr hx
          · by_cases e : n.toNat = m.toNat
            · refine ⟨u, ?_⟩
              rw [← e, List.getElem?_set_self (by omega)]
            · refine ⟨t1, ?_⟩
              rw [List.getElem?_set_ne e]
              exact h1
          · show (st.set n.toNat (some u))[n.toNat]? = _
            rw [List.getElem?_set_self (by omega)]
      · rw [if_neg hk1]
        split
        · simp only [T.kids] at hks
          subst hks
          rw [matchL]
          exact ⟨hst, fun x hx => .inl hx, fun n h => h, fun _ h => absurd h hk1⟩
        · exact ⟨hst, fun x hx => .inl hx, fun n h => h, fun _ h => absurd h hk1⟩
    obtain ⟨k1, k2, k3, k4⟩ := key
    split
    · rename_i hm
      obtain ⟨i1, i2, i3, i4⟩ := leafs_match ts us (matchT t u st).2 k1 hk' hl'
      refine ⟨i1, fun x hx => ?_, fun n h => i3 n (k3 n h), fun h y hy hy1 => ?_⟩
      · rcases i2 x hx with hx | hx
        · rcases k2 x hx with hx | rfl
          · exact .inl hx
          · exact .inr (List.mem_cons_self ..)
        · exact .inr (List.mem_cons_of_mem _ hx)
      · rcases List.mem_cons.1 hy with rfl | hy
        · exact i3 _ (k4 hm hy1)
        · exact i4 h y hy hy1
    · refine ⟨k1, fun x hx => ?_, k3, fun h => by cases h⟩
      rcases k2 x hx with hx | rfl
      · exact .inl hx
      · exact .inr (List.mem_cons_self ..)
theorem goal_match {g f : T} {st : Known} (hg : Gl g) (hf : Fct f) (hst : StF st) : StF (matchT g f st).2 ∧ (∀ n, bnd st n → bnd (matchT g f st).2 n) ∧ ((matchT g f st).1 = true → ∀ y ∈ g.kids, y.kind = 1 → bnd (matchT g f st).2 y.n) := by
  obtain ⟨k, n, s, ks⟩ := g
  have hk3 : k = 3 := hg.1
  rw [matchT, if_neg (by omega)]
  split
  · rename_i hd
    have hl : ks.length = f.kids.length := by
      rw [hdEq] at hd
      simp only [Bool.and_eq_true, decide_eq_true_eq] at hd
      exact hd.2.2.2
    obtain ⟨i1, i2, i3, i4⟩ := leafs_match ks f.kids st hst.1 hg.2.2 hl
    refine ⟨⟨i1, fun t ht => ?_⟩, i3, i4⟩
    rcases i2 t ht with h | h
    · exact hst.2 t h
    · exact hf.2.2 t h
  · exact ⟨hst, fun n h => h, fun h => by cases h⟩
theorem full_Fct {h : T} {st : Known} (hh : Gl h) (hst : StF st) (hb : ∀ y ∈ h.kids, y.kind = 1 → bnd st y.n) : Fct (fullS h st) := by
  refine ⟨hh.1, ?_, fun y hy => ?_⟩
  · have h1 := hh.2.1
    unfold ownB at h1 ⊢
    have e3 : (fullS h st).kind = 3 := hh.1
    rw [if_neg (by have := hh.1; omega), if_neg (by have := hh.1; omega), if_pos hh.1] at h1
    rw [if_neg (by omega), if_neg (by omega), if_pos e3]
    simp only [Bool.and_eq_true, decide_eq_true_eq] at h1 ⊢
    refine ⟨rfl, h1.2.1, ?_⟩
    show (h.kids.map (fullK st)).length ≤ 4
    rw [List.length_map]
    exact h1.2.2
  · have hy : y ∈ h.kids.map (fullK st) := hy
    obtain ⟨x, hx, rfl⟩ := List.mem_map.1 hy
    rw [fullK]
    split
    · rename_i hk
      obtain ⟨t, ht⟩ := hb x hx hk
      have e : getK st x.n = t := by rw [getK, ht]
      rw [e]
      exact hst.2 t (List.mem_of_getElem? ht)
    · rename_i hk
      exact ⟨(hh.2.2 x hx).1, (hh.2.2 x hx).2, hk⟩
/- what follows -/
def bodyS (hd : T) (facts : List T) : List T → List T → Known → List T
  | [], out, st => if 60 < out.length then out else insT out (fullS hd st)
  | g :: gs, out, st => if 60 < out.length then out else facts.foldl (fun out f => if (matchT g f st).1 = true then bodyS hd facts gs out (matchT g f st).2 else out) out
def follL (hd : T) (facts : List T) : List T → Known → List T
  | [], st => [fullS hd st]
  | g :: gs, st => facts.flatMap fun f => if (matchT g f st).1 = true then follL hd facts gs (matchT g f st).2 else []
def putC (out : List T) (t : T) : List T := if 60 < out.length then out else insT out t
theorem putC_stay : ∀ (l : List T) (out : List T), 60 < out.length → l.foldl putC out = out
  | [], out, _ => rfl
  | t :: l, out, h => by
    rw [List.foldl_cons, putC, if_pos h]
    exact putC_stay l out h
theorem body_foll (hd : T) (facts : List T) : ∀ (gs out : List T) (st : Known), bodyS hd facts gs out st = (follL hd facts gs st).foldl putC out
  | [], out, st => by rw [bodyS, follL]; rfl
  | g :: gs, out, st => by
    rw [bodyS, follL]
    split
    · rename_i h
      exact (putC_stay _ _ h).symm
    · rename_i h
      clear h
      have : ∀ (fs out : List T), fs.foldl (fun out f => if (matchT g f st).1 = true then bodyS hd facts gs out (matchT g f st).2 else out) out =
          (fs.flatMap fun f => if (matchT g f st).1 = true then follL hd facts gs (matchT g f st).2 else []).foldl putC out := by
        intro fs
        induction fs with
        | nil => intro out; rfl
        | cons f fs ih =>
          intro out
          rw [List.foldl_cons, List.flatMap_cons, List.foldl_append, ih]
          congr 1
          split
          · exact body_foll hd facts gs out _
          · rfl
      exact this facts out
/- the variables of the head are bound in the end -/
def covers (hd : T) (gs : List T) (st : Known) : Prop := ∀ y ∈ hd.kids, y.kind = 1 → bnd st y.n ∨ ∃ g ∈ gs, ∃ z ∈ g.kids, z.kind = 1 ∧ z.n = y.n
theorem covers_step {hd g f : T} {gs : List T} {st : Known} (h : covers hd (g :: gs) st) (hg : Gl g) (hf : Fct f) (hst : StF st) (hm : (matchT g f st).1 = true) : covers hd gs (matchT g f st).2 := by
  obtain ⟨_, h2, h3⟩ := goal_match hg hf hst
  intro y hy hk
  rcases h y hy hk with hb | ⟨x, hx, z, hz, hz1, hzn⟩
  · exact .inl (h2 _ hb)
  · rcases List.mem_cons.1 hx with rfl | hx
    · left
      rw [← hzn]
      exact h3 hm z hz hz1
    · exact .inr ⟨x, hx, z, hz, hz1, hzn⟩
theorem foll_Fct {hd : T} {facts : List T} (hh : Gl hd) (hfs : ∀ f ∈ facts, Fct f) : ∀ (gs : List T) (st : Known), (∀ g ∈ gs, Gl g) → StF st → covers hd gs st → ∀ x ∈ follL hd facts gs st, Fct x
  | [], st, _, hst, hc, x, hx => by
    rw [follL, List.mem_singleton] at hx
    subst hx
    refine full_Fct hh hst fun y hy hk => ?_
    rcases hc y hy hk with h | ⟨g, hg, _⟩
    · exact h
    · cases hg
  | g :: gs, st, hgs, hst, hc, x, hx => by
    rw [follL, List.mem_flatMap] at hx
    obtain ⟨f, hf, hx⟩ := hx
    split at hx
    · rename_i hm
      have hg := hgs g (List.mem_cons_self ..)
      exact foll_Fct hh hfs gs _ (fun g' h' => hgs g' (List.mem_cons_of_mem _ h')) (goal_match hg (hfs f hf) hst).1 (covers_step hc hg (hfs f hf) hst hm) x hx
    · cases hx
theorem putC_len (out : List T) (t : T) : out.length ≤ (putC out t).length ∧ (putC out t).length ≤ max out.length 61 := by
  unfold putC
  split
  · omega
  · have := insT_len out t
    omega
theorem fold_len : ∀ (l out : List T), out.length ≤ (l.foldl putC out).length ∧ (l.foldl putC out).length ≤ max out.length 61
  | [], out => by simp only [List.foldl_nil]; omega
  | t :: l, out => by
    rw [List.foldl_cons]
    have h1 := putC_len out t
    have h2 := fold_len l (putC out t)
    omega
theorem putC_mem {out : List T} {t y : T} (h : y ∈ putC out t) : y ∈ out ∨ y = t := by
  unfold putC at h
  split at h
  · exact .inl h
  · exact insT_mem h
theorem fold_mem : ∀ (l out : List T) (y : T), y ∈ l.foldl putC out → y ∈ out ∨ y ∈ l
  | [], out, y, h => .inl h
  | t :: l, out, y, h => by
    rw [List.foldl_cons] at h
    rcases fold_mem l _ y h with h | h
    · rcases putC_mem h with h | rfl
      · exact .inl h
      · exact .inr (List.mem_cons_self ..)
    · exact .inr (List.mem_cons_of_mem _ h)
theorem fold_keep : ∀ (l out : List T) (y : T), y ∈ out → y ∈ l.foldl putC out
  | [], out, y, h => h
  | t :: l, out, y, h => by
    rw [List.foldl_cons]
    refine fold_keep l _ y ?_
    unfold putC
    split
    · exact h
    · exact (insT_has out t).2 y h
theorem fold_has : ∀ (l out : List T) (y : T), y ∈ l → 60 < (l.foldl putC out).length ∨ y ∈ l.foldl putC out
  | t :: l, out, y, h => by
    rw [List.foldl_cons]
    rcases List.mem_cons.1 h with rfl | h
    · by_cases hc : 60 < out.length
      · left
        have h1 := putC_len out y
        have h2 := fold_len l (putC out y)
        omega
      · right
        refine fold_keep l _ _ ?_
        rw [putC, if_neg hc]
        exact (insT_has out y).1
    · exact fold_has l _ y h
theorem fold_sorted : ∀ (l out : List T), Sorted out → (∀ x ∈ out, okO x) → (∀ x ∈ l, okO x) → Sorted (l.foldl putC out)
  | [], out, h, _, _ => h
  | t :: l, out, h, ho, hl => by
    rw [List.foldl_cons]
    have ht := hl t (List.mem_cons_self ..)
    refine fold_sorted l _ ?_ (fun x hx => ?_) fun x hx => hl x (List.mem_cons_of_mem _ hx)
    · unfold putC
      split
      · exact h
      · exact insT_sorted h ho ht
    · rcases putC_mem hx with hx | rfl
      · exact ho x hx
      · exact ht
theorem hasT_iff (l : List T) (t : T) : hasT l t = true ↔ t ∈ l := by
  rw [hasT, List.any_eq_true]
  constructor
  · rintro ⟨x, hx, he⟩
    rw [eqT_iff] at he
    subst he
    exact hx
  · intro h
    exact ⟨t, h, (eqT_iff _ _).2 rfl⟩
/- a list that was cut off is longer than the facts -/
theorem closed_eq {facts l : List T} (hf : facts.length ≤ 60) (hl : ∀ x ∈ l, okO x) : (l.foldl putC []).all (hasT facts) = l.all (hasT facts) := by
  rw [Bool.eq_iff_iff, List.all_eq_true, List.all_eq_true]
  constructor
  · intro h x hx
    rcases fold_has l [] x hx with hc | hm
    · exfalso
      have hs := (fold_sorted l [] trivial (by simp) hl).nodup
      have hsub : ∀ y ∈ l.foldl putC [], y ∈ facts := fun y hy => (hasT_iff _ _).1 (h y hy)
      have := List.Nodup.length_le_of_subset hs hsub
      omega
    · exact h x hm
  · intro h x hx
    rcases fold_mem l [] x hx with hm | hm
    · cases hm
    · exact h x hm

end Go.Proofs.YtgdibnmabnimaaaGreat

/- spec.l16Body. -/
namespace Go.Proofs.YtgdibnmabnimaaaGreat
open Go Go.RowKit
def IsM (S : Store) (v : Value) (r : Bool × Known) : Prop := ∃ kb kp kc, v = .tuple #[kvn kb kp, .bool r.1] ∧ 26 ≤ kp ∧ kp ≤ maxLen ∧ S kb = some (.cells kc t_iTerm) ∧ KnownC S kc r.2
def IsKn (S : Store) (v : Value) (st : Known) : Prop := ∃ kb kp kc, v = kvn kb kp ∧ 26 ≤ kp ∧ kp ≤ maxLen ∧ S kb = some (.cells kc t_iTerm) ∧ KnownC S kc st
theorem IsM.mono {S S' : Store} {v : Value} {r : Bool × Known} (h : IsM S v r) (hs : Sle S S') : IsM S' v r := by
  obtain ⟨kb, kp, kc, h1, h2, h3, h4, h5⟩ := h
  exact ⟨kb, kp, kc, h1, h2, h3, hs _ _ h4, h5.mono hs⟩
theorem IsKn.mono {S S' : Store} {v : Value} {st : Known} (h : IsKn S v st) (hs : Sle S S') : IsKn S' v st := by
  obtain ⟨kb, kp, kc, h1, h2, h3, h4, h5⟩ := h
  exact ⟨kb, kp, kc, h1, h2, h3, hs _ _ h4, h5.mono hs⟩
theorem IsM.parts {S : Store} {v : Value} {r : Bool × Known} (h : IsM S v r) : ∃ u, v = .tuple #[u, .bool r.1] ∧ IsKn S u r.2 := by
  obtain ⟨kb, kp, kc, h1, h2⟩ := h
  exact ⟨_, h1, kb, kp, kc, rfl, h2⟩
theorem out_ok {hd : T} {facts gs out : List T} {st : Known} (hh : Gl hd) (hfs : ∀ f ∈ facts, Fct f) (hgs : ∀ g ∈ gs, Gl g) (hst : StF st) (hc : covers hd gs st) (ho : ∀ x ∈ out, okO x) (hn : out.length ≤ 1000000) :
    (∀ x ∈ bodyS hd facts gs out st, okO x) ∧ (bodyS hd facts gs out st).length ≤ 1000000 := by
  rw [body_foll]
  refine ⟨fun x hx => ?_, ?_⟩
  · rcases fold_mem _ _ x hx with h | h
    · exact ho x h
    · exact (foll_Fct hh hfs gs st hgs hst hc x h).ok.2.2.1
  · have := fold_len (follL hd facts gs st) out
    omega
theorem step_ok {hd f g : T} {facts gs out : List T} {st : Known} (hh : Gl hd) (hfs : ∀ f ∈ facts, Fct f) (hf : Fct f) (hg : Gl g) (hgs : ∀ g ∈ gs, Gl g) (hst : StF st) (hc : covers hd (g :: gs) st) (ho : ∀ x ∈ out, okO x) (hn : out.length ≤ 1000000) :
    (∀ x ∈ (if (matchT g f st).1 = true then bodyS hd facts gs out (matchT g f st).2 else out), okO x) ∧ (if (matchT g f st).1 = true then bodyS hd facts gs out (matchT g f st).2 else out).length ≤ 1000000 := by
  split
  · rename_i hm
    exact out_ok hh hfs hgs (goal_match hg hf hst).1 (covers_step hc hg hf hst hm) ho hn
  · exact ⟨ho, hn⟩
section
attribute [local irreducible] Run CondV GuardV LoadV
theorem l16Body_calls (c0 : C) (facts : List T) (hh : Gl c0.head) (hfs : ∀ f ∈ facts, Fct f) (hbs : ∀ g ∈ c0.body, Gl g) : ∀ (gs : List T) (i : Nat), i + gs.length = c0.body.length → c0.body.drop i = gs →
    ∀ (S : Store) (cs : List Value) (v fv kn : Value) (out : List T) (st : Known), RdC S cs c0 → RdSl S 4 (RdT S) v out → RdSl S 4 (RdT S) fv facts → IsKn S kn st → StF st → covers c0.head gs st → (∀ x ∈ out, okO x) → out.length ≤ 1000000 →
    Tri Tryz.prog n_s_l16Body [v, .agg cs.toArray, .int .i64 i, fv, kn] [] S (PostL (bodyS c0.head facts gs out st)) := by
  intro gs
  induction gs with
  | nil =>
    intro i hi hdr S cs v fv kn out st h hv hf hkn hst hc ho hn w hI
    obtain ⟨kb, kp, kc, rfl, hkp, hkm, hS, hkc⟩ := hkn
    obtain ⟨hd, ks, rfl, h1, h2⟩ := h
    have h1' := h1
    obtain ⟨kv, rfl, g1, g2, g3, g4⟩ := RdT.iff.1 h1
    simp only [List.length_nil, Nat.add_zero] at hi
    refine calls_s_l16Body ?_
    unfold sh_s_l16Body
    refine r_box hI fun b6 w' hI => ?_
    refine r_lenSl hv sl_SiTerm ?_
    refine r_gtr ?_
    rw [bodyS]
    refine condP (fun hb => ?_) (fun hb => ?_)
    · rw [if_pos (by omega)]
      exact ⟨_, _, _, rfl, hI.pick [false], Ext.refl _ _ _, rfl, hv⟩
    rw [if_neg (by omega)]
    refine r_fieldL hI 0 rfl fo_iClause_1 sc_SiTerm rfl ?_
    refine r_lenSl h2 sl_SiTerm ?_
    refine r_eql ?_
    refine condP (fun _ => ?_) (fun hb => absurd (by omega) hb)
    refine r_field fo_iClause_0 ?_
    refine r_loadLA hI 0 [.int .i64 c0.head.kind, .int .i64 c0.head.n, .string c0.head.name, kv] ag_iTerm rfl rfl sub4 ?_
    have hok := hh.ok
    refine Run.call0 fn_s_l16Full nm_s_l16Full hI (l16Full_calls h1' hok.1 (by omega) hst.ok.1 hst.ok.2 hS hkc) fun v' I' S' w' => ?_
    rintro ⟨rfl, cs1, L, rfl, rfl, hT⟩ _ hI
    obtain ⟨S1, hI, hE, hins⟩ := hI.pubExt
    have hct := full_Fct hh hst (fun y hy hk => by
      rcases hc y hy hk with h | ⟨g, hg, _⟩
      · exact h
      · cases hg)
    refine Run.call0E fn_s_l16Put nm_s_l16Put hI (l16Put_calls (hv.monoT hE.1) (hT.rd hins) ho hct.ok.2.2.1 hn) fun v' I' S2 w' => ?_
    rintro ⟨rfl, hr⟩ hE2 hI
    exact ⟨_, _, _, rfl, hI.pick [false], hE.trans hE2, rfl, hr⟩
  | cons g gs ih =>
    intro i hi hdr S cs v fv kn out st h hv hf hkn hst hc ho hn w hI
    obtain ⟨kb, kp, kc, rfl, hkp, hkm, hS, hkc⟩ := hkn
    have h0 := h
    obtain ⟨hd, ks, rfl, h1, h2⟩ := h
    obtain ⟨kv, rfl, g1, g2, g3, g4⟩ := RdT.iff.1 h1
    simp only [List.length_cons] at hi
    have hib : i < c0.body.length := by omega
    have hlen2 := h2.le
    have hlenf := hf.le
    simp only [maxLen] at hlen2 hlenf
    have hge : c0.body[i] = g ∧ c0.body.drop (i + 1) = gs := by
      rw [List.drop_eq_getElem_cons hib, List.cons.injEq] at hdr
      exact hdr
    have hg : Gl g := by rw [← hge.1]; exact hbs _ (List.getElem_mem hib)
    have hgs : ∀ x ∈ gs, Gl x := fun x hx => hbs x (by rw [← hge.2] at hx; exact List.mem_of_mem_drop hx)
    refine calls_s_l16Body ?_
    unfold sh_s_l16Body
    refine r_box hI fun b6 w' hI => ?_
    refine r_lenSl hv sl_SiTerm ?_
    refine r_gtr ?_
    rw [bodyS]
    refine condP (fun hb => ?_) (fun hb => ?_)
    · rw [if_pos (by omega)]
      exact ⟨_, _, _, rfl, hI.pick [false], Ext.refl _ _ _, rfl, hv⟩
    rw [if_neg (by omega)]
    refine r_fieldL hI 0 rfl fo_iClause_1 sc_SiTerm rfl ?_
    refine r_lenSl h2 sl_SiTerm ?_
    refine r_eql ?_
    refine condP (fun hb => by omega) (fun _ => ?_)
    generalize hF : (fun (out : List T) (f : T) => if (matchT g f st).1 = true then bodyS c0.head facts gs out (matchT g f st).2 else out) = F
    have hF2 : ∀ o f, F o f = if (matchT g f st).1 = true then bodyS c0.head facts gs o (matchT g f st).2 else o := fun o f => by rw [← hF]
    refine ⟨fun j t w' => ∃ (k : Nat) (o : List T) (S' : Store), k ≤ facts.length ∧ j = .int .i64 k ∧ (facts.drop k).foldl F o = facts.foldl F out ∧ (∀ x ∈ o, okO x) ∧ o.length ≤ 1000000 ∧ Ext w.heap.size [] S S' ∧ RdSl S' 4 (RdT S') t o ∧
        Inv w [] [.blk b6 (.cells #[.int .i64 c0.head.kind, .int .i64 c0.head.n, .string c0.head.name, kv, ks] t_iClause)] S' w',
      fun j _ _ => facts.length - (intOf j).toNat, ⟨0, out, S, Nat.zero_le _, rfl, rfl, ho, hn, Ext.refl _ _ _, hv, hI⟩, ?_⟩
    intro t11 _ _ t0 _ _ _ _ _ _ _ _ _ _ _ _ _ _ _ _ _ _ _ _ _ _ _ _ _ _ _ _ w'
    rintro ⟨k, o, S', hk, rfl, hrel, hoo, hno, hE, hv', hI⟩
    have hf' := hf.monoT hE.1
    refine r_lenSl hf' sl_SiTerm ?_
    refine r_lss ?_
    refine condP (fun hki => ?_) (fun hki => ?_)
    · have hk' : k < facts.length := by omega
      rw [List.drop_eq_getElem_cons hk', List.foldl_cons] at hrel
      have hfk := hfs _ (List.getElem_mem hk')
      have hso := step_ok hh hfs hfk hg hgs hst hc hoo hno
      obtain ⟨b1, o1, cap1, c1, E1, fz1, rfl, hS1, hR1⟩ := (h2.monoT hE.1).at_ hib
      obtain ⟨b2, o2, cap2, c2, E2, fz2, rfl, hS2, hR2⟩ := hf'.at_ hk'
      rw [hge.1] at hR1
      obtain ⟨r, hr⟩ : ∃ r, r = matchT g facts[k] st := ⟨_, rfl⟩
      refine ⟨fun t w' => ∃ S2, Ext w.heap.size [] S S2 ∧ RdSl S2 4 (RdT S2) t (F o facts[k]) ∧ Inv w [] [.blk b6 (.cells #[.int .i64 c0.head.kind, .int .i64 c0.head.n, .string c0.head.name, kv, .slice (some ⟨b1, o1, none⟩) c0.body.length cap1] t_iClause)] S2 w', ?_, ?_⟩
      · have hkd := hkc.1
        refine ⟨fun D x13 x12 x48 x47 x35 x46 x45 x44 x43 x42 x41 x40 x39 x38 x37 x36 w_ => (D 0 = true → x36 = .pointer (some ⟨b6, 4, none⟩)) ∧ (D 1 = true → x37 = .slice (some ⟨b1, o1, none⟩) c0.body.length cap1) ∧ (D 2 = true → x38 = .int .i64 i) ∧ (D 3 = true → x39 = .pointer (some ⟨b1, o1 + i * 4, none⟩)) ∧ (D 4 = true → x40 = .agg (cellsAt c1 (o1 + i * 4) 4).toArray) ∧ (D 5 = true → x41 = .slice (some ⟨b2, o2, none⟩) facts.length cap2) ∧ (D 6 = true → x42 = .int .i64 k) ∧ (D 7 = true → x43 = .pointer (some ⟨b2, o2 + k * 4, none⟩)) ∧ (D 8 = true → x44 = .agg (cellsAt c2 (o2 + k * 4) 4).toArray) ∧ (D 9 = true → x45 = kvn kb kp) ∧ (D 10 = true → True) ∧ (D 11 = true → True) ∧ (D 12 = true → True) ∧ (D 13 = true → True) ∧ (D 14 = true → True) ∧ (D 15 = true → True) ∧ ∃ SN, Ext w.heap.size [] S' SN ∧ (D 10 = true → IsM SN x46 r) ∧ (D 11 = true → IsM SN x35 r) ∧ (D 12 = true → IsKn SN x47 r.2) ∧ (D 13 = true → x48 = .bool r.1) ∧ (D 14 = true → IsKn SN x12 r.2) ∧ (D 15 = true → x13 = .bool r.1) ∧ Inv w [] [.blk b6 (.cells #[.int .i64 c0.head.kind, .int .i64 c0.head.n, .string c0.head.name, kv, .slice (some ⟨b1, o1, none⟩) c0.body.length cap1] t_iClause)] SN w_, ⟨fun h => Bool.noConfusion h, fun h => Bool.noConfusion h, fun h => Bool.noConfusion h, fun h => Bool.noConfusion h, fun h => Bool.noConfusion h, fun h => Bool.noConfusion h, fun h => Bool.noConfusion h, fun h => Bool.noConfusion h, fun h => Bool.noConfusion h, fun h => Bool.noConfusion h, fun h => Bool.noConfusion h, fun h => Bool.noConfusion h, fun h => Bool.noConfusion h, fun h => Bool.noConfusion h, fun h => Bool.noConfusion h, fun h => Bool.noConfusion h, ⟨S', Ext.refl _ _ _, fun h => Bool.noConfusion h, fun h => Bool.noConfusion h, fun h => Bool.noConfusion h, fun h => Bool.noConfusion h, fun h => Bool.noConfusion h, fun h => Bool.noConfusion h, hI.draw⟩⟩, ⟨?_, ?_, ?_, ?_, ?_, ?_, ?_, ?_, ?_, ?_, ?_, ?_, ?_, ?_, ?_, ?_, trivial⟩, ?_⟩
        · intro D hD_  x13 x12 x48 x47 x35 x46 x45 x44 x43 x42 x41 x40 x39 x38 x37 x36 w_
          rintro ⟨h0_, h1_, h2_, h3_, h4_, h5_, h6_, h7_, h8_, h9_, h10_, h11_, h12_, h13_, h14_, h15_, ⟨SN, hN, e10, e11, e12, e13, e14, e15, hI⟩⟩
          refine r_field fo_iClause_1 ?_
          exact ⟨fun _ => rfl, h1_, h2_, h3_, h4_, h5_, h6_, h7_, h8_, h9_, h10_, h11_, h12_, h13_, h14_, h15_, ⟨SN, hN, e10, e11, e12, e13, e14, e15, hI⟩⟩
        · intro D hD_ d0_0 x13 x12 x48 x47 x35 x46 x45 x44 x43 x42 x41 x40 x39 x38 x37 x36 w_
          rintro ⟨h0_, h1_, h2_, h3_, h4_, h5_, h6_, h7_, h8_, h9_, h10_, h11_, h12_, h13_, h14_, h15_, ⟨SN, hN, e10, e11, e12, e13, e14, e15, hI⟩⟩
          obtain rfl := h0_ d0_0
          refine r_loadL hI 0 sc_SiTerm rfl rfl ?_
          exact ⟨h0_, fun _ => rfl, h2_, h3_, h4_, h5_, h6_, h7_, h8_, h9_, h10_, h11_, h12_, h13_, h14_, h15_, ⟨SN, hN, e10, e11, e12, e13, e14, e15, hI⟩⟩
        · intro D hD_  x13 x12 x48 x47 x35 x46 x45 x44 x43 x42 x41 x40 x39 x38 x37 x36 w_
          rintro ⟨h0_, h1_, h2_, h3_, h4_, h5_, h6_, h7_, h8_, h9_, h10_, h11_, h12_, h13_, h14_, h15_, ⟨SN, hN, e10, e11, e12, e13, e14, e15, hI⟩⟩
          exact ⟨h0_, h1_, fun _ => rfl, h3_, h4_, h5_, h6_, h7_, h8_, h9_, h10_, h11_, h12_, h13_, h14_, h15_, ⟨SN, hN, e10, e11, e12, e13, e14, e15, hI⟩⟩
        · intro D hD_ d1_0 d2_1 x13 x12 x48 x47 x35 x46 x45 x44 x43 x42 x41 x40 x39 x38 x37 x36 w_
          rintro ⟨h0_, h1_, h2_, h3_, h4_, h5_, h6_, h7_, h8_, h9_, h10_, h11_, h12_, h13_, h14_, h15_, ⟨SN, hN, e10, e11, e12, e13, e14, e15, hI⟩⟩
          obtain rfl := h1_ d1_0
          obtain rfl := h2_ d2_1
          refine r_indexAddr sl_SiTerm hib ?_
          exact ⟨h0_, h1_, h2_, fun _ => rfl, h4_, h5_, h6_, h7_, h8_, h9_, h10_, h11_, h12_, h13_, h14_, h15_, ⟨SN, hN, e10, e11, e12, e13, e14, e15, hI⟩⟩
        · intro D hD_ d3_0 x13 x12 x48 x47 x35 x46 x45 x44 x43 x42 x41 x40 x39 x38 x37 x36 w_
          rintro ⟨h0_, h1_, h2_, h3_, h4_, h5_, h6_, h7_, h8_, h9_, h10_, h11_, h12_, h13_, h14_, h15_, ⟨SN, hN, e10, e11, e12, e13, e14, e15, hI⟩⟩
          obtain rfl := h3_ d3_0
          refine r_loadA ag_iTerm hR1.length (fun j v hj => by rw [hI.cellS (hN.1 _ _ hS1)]; exact cellsAt_get rfl j v hj) ?_
          exact ⟨h0_, h1_, h2_, h3_, fun _ => rfl, h5_, h6_, h7_, h8_, h9_, h10_, h11_, h12_, h13_, h14_, h15_, ⟨SN, hN, e10, e11, e12, e13, e14, e15, hI⟩⟩
        · intro D hD_  x13 x12 x48 x47 x35 x46 x45 x44 x43 x42 x41 x40 x39 x38 x37 x36 w_
          rintro ⟨h0_, h1_, h2_, h3_, h4_, h5_, h6_, h7_, h8_, h9_, h10_, h11_, h12_, h13_, h14_, h15_, ⟨SN, hN, e10, e11, e12, e13, e14, e15, hI⟩⟩
          exact ⟨h0_, h1_, h2_, h3_, h4_, fun _ => rfl, h6_, h7_, h8_, h9_, h10_, h11_, h12_, h13_, h14_, h15_, ⟨SN, hN, e10, e11, e12, e13, e14, e15, hI⟩⟩
        · intro D hD_  x13 x12 x48 x47 x35 x46 x45 x44 x43 x42 x41 x40 x39 x38 x37 x36 w_
          rintro ⟨h0_, h1_, h2_, h3_, h4_, h5_, h6_, h7_, h8_, h9_, h10_, h11_, h12_, h13_, h14_, h15_, ⟨SN, hN, e10, e11, e12, e13, e14, e15, hI⟩⟩
          exact ⟨h0_, h1_, h2_, h3_, h4_, h5_, fun _ => rfl, h7_, h8_, h9_, h10_, h11_, h12_, h13_, h14_, h15_, ⟨SN, hN, e10, e11, e12, e13, e14, e15, hI⟩⟩
        · intro D hD_ d5_0 d6_1 x13 x12 x48 x47 x35 x46 x45 x44 x43 x42 x41 x40 x39 x38 x37 x36 w_
          rintro ⟨h0_, h1_, h2_, h3_, h4_, h5_, h6_, h7_, h8_, h9_, h10_, h11_, h12_, h13_, h14_, h15_, ⟨SN, hN, e10, e11, e12, e13, e14, e15, hI⟩⟩
          obtain rfl := h5_ d5_0
          obtain rfl := h6_ d6_1
          refine r_indexAddr sl_SiTerm hk' ?_
          exact ⟨h0_, h1_, h2_, h3_, h4_, h5_, h6_, fun _ => rfl, h8_, h9_, h10_, h11_, h12_, h13_, h14_, h15_, ⟨SN, hN, e10, e11, e12, e13, e14, e15, hI⟩⟩
        · intro D hD_ d7_0 x13 x12 x48 x47 x35 x46 x45 x44 x43 x42 x41 x40 x39 x38 x37 x36 w_
          rintro ⟨h0_, h1_, h2_, h3_, h4_, h5_, h6_, h7_, h8_, h9_, h10_, h11_, h12_, h13_, h14_, h15_, ⟨SN, hN, e10, e11, e12, e13, e14, e15, hI⟩⟩
          obtain rfl := h7_ d7_0
          refine r_loadA ag_iTerm hR2.length (fun j v hj => by rw [hI.cellS (hN.1 _ _ hS2)]; exact cellsAt_get rfl j v hj) ?_
          exact ⟨h0_, h1_, h2_, h3_, h4_, h5_, h6_, h7_, fun _ => rfl, h9_, h10_, h11_, h12_, h13_, h14_, h15_, ⟨SN, hN, e10, e11, e12, e13, e14, e15, hI⟩⟩
        · intro D hD_  x13 x12 x48 x47 x35 x46 x45 x44 x43 x42 x41 x40 x39 x38 x37 x36 w_
          rintro ⟨h0_, h1_, h2_, h3_, h4_, h5_, h6_, h7_, h8_, h9_, h10_, h11_, h12_, h13_, h14_, h15_, ⟨SN, hN, e10, e11, e12, e13, e14, e15, hI⟩⟩
          exact ⟨h0_, h1_, h2_, h3_, h4_, h5_, h6_, h7_, h8_, fun _ => rfl, h10_, h11_, h12_, h13_, h14_, h15_, ⟨SN, hN, e10, e11, e12, e13, e14, e15, hI⟩⟩
        · intro D hD_ d4_0 d8_1 d9_2 x13 x12 x48 x47 x35 x46 x45 x44 x43 x42 x41 x40 x39 x38 x37 x36 w_
          rintro ⟨h0_, h1_, h2_, h3_, h4_, h5_, h6_, h7_, h8_, h9_, h10_, h11_, h12_, h13_, h14_, h15_, ⟨SN, hN, e10, e11, e12, e13, e14, e15, hI⟩⟩
          obtain rfl := h4_ d4_0
          obtain rfl := h8_ d8_1
          obtain rfl := h9_ d9_2
          refine Run.call0E fn_s_l16Match nm_s_l16Match hI (l16Match_calls (hR1.mono hN.1) (hR2.mono hN.1) hg.ok.1 hfk.ok.2.1 hst.ok.1 hkp hkm (hN.1 _ _ (hE.1 _ _ hS)) ((hkc.mono hE.1).mono hN.1)) fun v' I' SN w_ => ?_
          rw [← hr]
          rintro ⟨rfl, kb', kp', kc', rfl, hk1, hk2, hk3, hk4⟩ hE3 hI
          have e10 := fun (_ : setD D 10 10 = true) => (⟨kb', kp', kc', rfl, hk1, hk2, hk3, hk4⟩ : IsM SN (.tuple #[kvn kb' kp', .bool r.1]) r)
          have e11 := fun (e : setD D 10 11 = true) => (e11 e).mono hE3.1
          have e12 := fun (e : setD D 10 12 = true) => (e12 e).mono hE3.1
          have e14 := fun (e : setD D 10 14 = true) => (e14 e).mono hE3.1
          have hN := hN.trans hE3
          exact ⟨h0_, h1_, h2_, h3_, h4_, h5_, h6_, h7_, h8_, h9_, fun _ => by first | assumption | trivial, h11_, h12_, h13_, h14_, h15_, ⟨SN, hN, e10, e11, e12, e13, e14, e15, hI⟩⟩
        · intro D hD_ d10_0 x13 x12 x48 x47 x35 x46 x45 x44 x43 x42 x41 x40 x39 x38 x37 x36 w_
          rintro ⟨h0_, h1_, h2_, h3_, h4_, h5_, h6_, h7_, h8_, h9_, h10_, h11_, h12_, h13_, h14_, h15_, ⟨SN, hN, e10, e11, e12, e13, e14, e15, hI⟩⟩
          have g10_ := h10_ d10_0
          have e11 := fun (_ : setD D 11 11 = true) => e10 d10_0
          exact ⟨h0_, h1_, h2_, h3_, h4_, h5_, h6_, h7_, h8_, h9_, h10_, fun _ => by first | assumption | trivial, h12_, h13_, h14_, h15_, ⟨SN, hN, e10, e11, e12, e13, e14, e15, hI⟩⟩
        · intro D hD_ d11_0 x13 x12 x48 x47 x35 x46 x45 x44 x43 x42 x41 x40 x39 x38 x37 x36 w_
          rintro ⟨h0_, h1_, h2_, h3_, h4_, h5_, h6_, h7_, h8_, h9_, h10_, h11_, h12_, h13_, h14_, h15_, ⟨SN, hN, e10, e11, e12, e13, e14, e15, hI⟩⟩
          have g11_ := h11_ d11_0
          obtain ⟨u, rfl, hu⟩ := (e11 d11_0).parts
          refine r_extract rfl ?_
          have e12 := fun (_ : setD D 12 12 = true) => hu
          exact ⟨h0_, h1_, h2_, h3_, h4_, h5_, h6_, h7_, h8_, h9_, h10_, h11_, fun _ => by first | assumption | trivial, h13_, h14_, h15_, ⟨SN, hN, e10, e11, e12, e13, e14, e15, hI⟩⟩
        · intro D hD_ d11_0 x13 x12 x48 x47 x35 x46 x45 x44 x43 x42 x41 x40 x39 x38 x37 x36 w_
          rintro ⟨h0_, h1_, h2_, h3_, h4_, h5_, h6_, h7_, h8_, h9_, h10_, h11_, h12_, h13_, h14_, h15_, ⟨SN, hN, e10, e11, e12, e13, e14, e15, hI⟩⟩
          have g11_ := h11_ d11_0
          obtain ⟨u, rfl, hu⟩ := (e11 d11_0).parts
          refine r_extract rfl ?_
          have e13 := fun (_ : setD D 13 13 = true) => (rfl : Value.bool r.1 = .bool r.1)
          exact ⟨h0_, h1_, h2_, h3_, h4_, h5_, h6_, h7_, h8_, h9_, h10_, h11_, h12_, fun _ => by first | assumption | trivial, h14_, h15_, ⟨SN, hN, e10, e11, e12, e13, e14, e15, hI⟩⟩
        · intro D hD_ d12_0 d10_1 d0_2 d1_3 d2_4 d3_5 d4_6 d5_7 d6_8 d7_9 d8_10 d9_11 d10_12 d11_13 d12_14 x13 x12 x48 x47 x35 x46 x45 x44 x43 x42 x41 x40 x39 x38 x37 x36 w_
          rintro ⟨h0_, h1_, h2_, h3_, h4_, h5_, h6_, h7_, h8_, h9_, h10_, h11_, h12_, h13_, h14_, h15_, ⟨SN, hN, e10, e11, e12, e13, e14, e15, hI⟩⟩
          have g12_ := h12_ d12_0
          have e14 := fun (_ : setD D 14 14 = true) => e12 d12_0
          exact ⟨h0_, h1_, h2_, h3_, h4_, h5_, h6_, h7_, h8_, h9_, h10_, h11_, h12_, h13_, fun _ => by first | assumption | trivial, h15_, ⟨SN, hN, e10, e11, e12, e13, e14, e15, hI⟩⟩
        · intro D hD_ d13_0 d14_1 d0_2 d1_3 d2_4 d3_5 d4_6 d5_7 d6_8 d7_9 d8_10 d9_11 d10_12 d11_13 d12_14 d13_15 d14_16 x13 x12 x48 x47 x35 x46 x45 x44 x43 x42 x41 x40 x39 x38 x37 x36 w_
          rintro ⟨h0_, h1_, h2_, h3_, h4_, h5_, h6_, h7_, h8_, h9_, h10_, h11_, h12_, h13_, h14_, h15_, ⟨SN, hN, e10, e11, e12, e13, e14, e15, hI⟩⟩
          have g13_ := h13_ d13_0
          have e15 := fun (_ : setD D 15 15 = true) => e13 d13_0
          exact ⟨h0_, h1_, h2_, h3_, h4_, h5_, h6_, h7_, h8_, h9_, h10_, h11_, h12_, h13_, h14_, fun _ => by first | assumption | trivial, ⟨SN, hN, e10, e11, e12, e13, e14, e15, hI⟩⟩
        intro D d15_ d14_ d13_ d12_ d11_ d10_ d9_ d8_ d7_ d6_ d5_ d4_ d3_ d2_ d1_ d0_ x13 x12 x48 x47 x35 x46 x45 x44 x43 x42 x41 x40 x39 x38 x37 x36 w_
        rintro ⟨h0_, h1_, h2_, h3_, h4_, h5_, h6_, h7_, h8_, h9_, h10_, h11_, h12_, h13_, h14_, h15_, ⟨SN, hN, e10, e11, e12, e13, e14, e15, hI⟩⟩
        have g15_ := h15_ d15_
        have g14_ := h14_ d14_
        have g13_ := h13_ d13_
        have g12_ := h12_ d12_
        have g11_ := h11_ d11_
        have g10_ := h10_ d10_
        obtain rfl := h9_ d9_
        obtain rfl := h8_ d8_
        obtain rfl := h7_ d7_
        obtain rfl := h6_ d6_
        obtain rfl := h5_ d5_
        obtain rfl := h4_ d4_
        obtain rfl := h3_ d3_
        obtain rfl := h2_ d2_
        obtain rfl := h1_ d1_
        obtain rfl := h0_ d0_
        clear h0_ h1_ h2_ h3_ h4_ h5_ h6_ h7_ h8_ h9_ h10_ h11_ h12_ h13_ h14_ h15_
        have hx12 := e14 d14_
        have hx13 := e15 d15_
        subst hx13
        have hE3 := hE.trans hN
        clear e10 e11 e12 e13 e14 e15
        refine condV (fun hb => ?_) (fun hb => ?_)
        · have hFo : F o facts[k] = bodyS c0.head facts gs o r.2 := by rw [hF2, ← hr, if_pos hb]
          rw [hFo]
          refine r_loadW hI 0 ag_iClause rfl rfl ?_
          refine r_add (by omega) ?_
          have hst2 : StF r.2 := by rw [hr]; exact (goal_match hg hfk hst).1
          have hc2 : covers c0.head gs r.2 := by rw [hr]; exact covers_step hc hg hfk hst (by rw [← hr]; exact hb)
          refine Run.call0E fn_s_l16Body nm_s_l16Body hI (ih (i + 1) (by omega) hge.2 SN _ t0 _ _ o r.2 (h0.mono hE3.1) (hv'.monoT hN.1) (hf.monoT hE3.1) hx12 hst2 hc2 hoo hno) fun v' I' S2 w' => ?_
          rintro ⟨rfl, hr2⟩ hE4 hI
          exact ⟨S2, hE3.trans hE4, hr2, hI.pick [true]⟩
        · have hFo : F o facts[k] = o := by rw [hF2, ← hr, if_neg (by rw [hb]; decide)]
          rw [hFo]
          exact ⟨SN, hE3, hv'.monoT hN.1, hI⟩
      intro t0' _ _ _ _ _ _ _ _ _ _ _ _ _ _ _ _ _ _ _ _ _ _ _ _ w'
      rintro ⟨S2, hE2, hv2, hI⟩
      refine r_add (by omega) ?_
      have hFo := hF2 o facts[k]
      refine ⟨⟨k + 1, _, S2, hk', rfl, hrel, ?_, ?_, hE2, hv2, hI⟩, by simp [intOf]; omega⟩
      · rw [hFo]; exact hso.1
      · rw [hFo]; exact hso.2
    · have : k = facts.length := by omega
      subst this
      rw [List.drop_length, List.foldl_nil] at hrel
      rw [← hrel]
      exact ⟨_, _, _, rfl, hI.pick [false], hE, rfl, hv'⟩
end

end Go.Proofs.YtgdibnmabnimaaaGreat

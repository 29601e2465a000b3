/- FactsFor: both sides. -/
import Derived.Test.YtnoieadimkgjcaaInstOf
import Derived.Test.YtnoieadimkgjcaaCopy
namespace Go.Proofs.Ytnoieadimkgjcaa
open Go Go.RowKit

def factsL (l : List T) (g : T) : List T := l.filter fun t => instB t g
theorem factsL_w (l : List T) (g : T) : (factsL l g).length + wL (factsL l g) ≤ l.length + wL l := by
  unfold factsL
  induction l with
  | nil => simp
  | cons t l ih =>
    rw [List.filter_cons]
    split
    · simp only [List.length_cons, wL]; omega
    · simp only [List.length_cons, wL]; omega
section
attribute [local irreducible] Run CondV GuardV LoadV
theorem s_FactsFor_calls {l : List T} {g : T} {S : Store} {v : Value} {cs : List Value} (h : RdSl S 4 (RdT S) v l) (hg : RdT S cs g) (hw : l.length + wL l ≤ 1048576) (hw2 : cntT g ≤ 4611686018427387904) :
    Tri Try.prog n_s_FactsFor [v, .agg cs.toArray] [] S (PostS 4 TrT S (factsL l g)) := by
  intro w hI
  have hlg := hg.length
  refine calls_s_FactsFor ?_
  unfold sh_s_FactsFor
  refine r_box hI fun b3 w' hI => ?_
  refine r_slice0 hI mk_SiTerm fun v0 w' hI => ?_
  refine ⟨fun i t w' => ∃ (k : Nat) (Ls : List Heaplet) (css : List (List Value)) (ys : List T), k ≤ l.length ∧ i = .int .i64 k ∧ Grown 4 TrT Ls css ys ∧ ys ++ factsL (l.drop k) g = factsL l g ∧ ys.length ≤ k ∧
      Inv w [] (.blk b3 (.cells cs.toArray t_iTerm) :: rowG t t_iTerm 4 css :: blks Ls.flatten) S w', fun i _ _ => l.length - (intOf i).toNat, ⟨0, [], [], [], Nat.zero_le _, rfl, Grown.nil _ _, rfl, Nat.le_refl _, hI⟩, ?_⟩
  intro t6 _ _ t5 _ _ _ _ _ _ _ _ _ _ _ _ _ _ _ _ _ _ w'
  rintro ⟨k, Ls, css, ys, hk, rfl, hgr, hrel, hyk, hI⟩
  refine r_lenSl h sl_SiTerm ?_
  refine r_lss ?_
  refine condP (fun hki => ?_) (fun hki => ?_)
  · have hk' : k < l.length := by omega
    have hm := List.getElem_mem hk'
    have hwm := wL_mem hm
    have hcn := cnt_wL [l[k]]
    have hcl := hgr.hc
    simp only [cntL, wL, List.length_cons, List.length_nil] at hcn
    have hstep := filter_snoc (fun t => instB t g) l k hk' ys
    refine ⟨fun t w' => ∃ Ls css, Grown 4 TrT Ls css (if instB l[k] g = true then ys ++ [l[k]] else ys) ∧ Inv w [] (.blk b3 (.cells cs.toArray t_iTerm) :: rowG t t_iTerm 4 css :: blks Ls.flatten) S w', ?_, ?_⟩
    · have h0 := h
      obtain ⟨b, o, cap, c, E, fz, rfl, hS, hR⟩ := h.at_ hk'
      refine ⟨fun D x19 x18 x17 x16 x15 x14 w_ => (D 0 = true → x14 = .slice (some ⟨b, o, none⟩) l.length cap) ∧ (D 1 = true → x15 = .int .i64 k) ∧ (D 2 = true → x16 = .pointer (some ⟨b, o + k * 4, none⟩)) ∧ (D 3 = true → x17 = .agg (cellsAt c (o + k * 4) 4).toArray) ∧ (D 4 = true → x18 = .agg cs.toArray) ∧ (D 5 = true → x19 = .bool (instB l[k] g)) ∧ Inv w [] (.blk b3 (.cells cs.toArray t_iTerm) :: rowG t5 t_iTerm 4 css :: blks Ls.flatten) S w_, ⟨fun h => Bool.noConfusion h, fun h => Bool.noConfusion h, fun h => Bool.noConfusion h, fun h => Bool.noConfusion h, fun h => Bool.noConfusion h, fun h => Bool.noConfusion h, hI.draw⟩, ⟨?_, ?_, ?_, ?_, ?_, ?_, trivial⟩, ?_⟩
      · intro D hD_  x19 x18 x17 x16 x15 x14 w_
        rintro ⟨h0_, h1_, h2_, h3_, h4_, h5_, hI⟩
        exact ⟨fun _ => rfl, h1_, h2_, h3_, h4_, h5_, hI⟩
      · intro D hD_  x19 x18 x17 x16 x15 x14 w_
        rintro ⟨h0_, h1_, h2_, h3_, h4_, h5_, hI⟩
        exact ⟨h0_, fun _ => rfl, h2_, h3_, h4_, h5_, hI⟩
      · intro D hD_ d0_0 d1_1 x19 x18 x17 x16 x15 x14 w_
        rintro ⟨h0_, h1_, h2_, h3_, h4_, h5_, hI⟩
        obtain rfl := h0_ d0_0
        obtain rfl := h1_ d1_1
        refine r_indexAddr sl_SiTerm hk' ?_
        exact ⟨h0_, h1_, fun _ => rfl, h3_, h4_, h5_, hI⟩
      · intro D hD_ d2_0 x19 x18 x17 x16 x15 x14 w_
        rintro ⟨h0_, h1_, h2_, h3_, h4_, h5_, hI⟩
        obtain rfl := h2_ d2_0
        refine r_loadA ag_iTerm hR.length (fun j v hj => by rw [hI.cellS hS]; exact cellsAt_get rfl j v hj) ?_
        exact ⟨h0_, h1_, h2_, fun _ => rfl, h4_, h5_, hI⟩
      · intro D hD_  x19 x18 x17 x16 x15 x14 w_
        rintro ⟨h0_, h1_, h2_, h3_, h4_, h5_, hI⟩
        refine r_loadW hI 0 ag_iTerm rfl (by simpa using hlg) ?_
        exact ⟨h0_, h1_, h2_, h3_, fun _ => rfl, h5_, hI⟩
      · intro D hD_ d3_0 d4_1 x19 x18 x17 x16 x15 x14 w_
        rintro ⟨h0_, h1_, h2_, h3_, h4_, h5_, hI⟩
        obtain rfl := h3_ d3_0
        obtain rfl := h4_ d4_1
        refine Run.callPure fn_s_InstanceOf nm_s_InstanceOf hI (s_InstanceOf_calls hR hg (by omega) hw2) fun w_ hI => ?_
        exact ⟨h0_, h1_, h2_, h3_, h4_, fun _ => rfl, hI⟩
      intro D d5_ d4_ d3_ d2_ d1_ d0_ x19 x18 x17 x16 x15 x14 w_
      rintro ⟨h0_, h1_, h2_, h3_, h4_, h5_, hI⟩
      obtain rfl := h5_ d5_
      obtain rfl := h4_ d4_
      obtain rfl := h3_ d3_
      obtain rfl := h2_ d2_
      obtain rfl := h1_ d1_
      obtain rfl := h0_ d0_
      clear h0_ h1_ h2_ h3_ h4_ h5_
      refine condV (fun hb => ?_) (fun hb => ?_)
      · refine r_elem hI h0 sl_SiTerm ag_iTerm hk' (fun _ _ => RdT.length) fun cs' hcs' => ?_
        refine Run.call0 fn_s_l1Copy nm_s_l1Copy hI (l1Copy_calls _ S _ hcs' (by omega)) fun v' I' S' w' => ?_
        rintro ⟨rfl, cs2, L, rfl, rfl, hT⟩ _ hI
        refine r_append1 hI 1 cs2 mk_SiTerm (by omega) (by omega) rfl hT.length hT.one (by omega) (by omega) fun v' w' hI => ?_
        refine ⟨Ls ++ [L], css ++ [cs2], ?_, ?_⟩
        · rw [if_pos hb]; exact hgr.snoc hT hT.length
        · simp only [List.flatten_append, List.flatten_cons, List.flatten_nil, List.append_nil, blks_append]
          exact hI
      · exact ⟨Ls, css, by rw [if_neg (by rw [hb]; decide)]; exact hgr, hI⟩
    · intro t5 _ _ _ _ _ _ _ _ _ _ _ _ _ _ w'
      rintro ⟨Ls, css, hgr, hI⟩
      refine r_add (by omega) ?_
      refine ⟨⟨k + 1, Ls, css, _, hk', rfl, hgr, by rw [← hrel]; exact hstep, ?_, hI⟩, by simp [intOf]; omega⟩
      split
      · simp; omega
      · omega
  · have : k = l.length := by omega
    subst this
    have hrel : ys = factsL l g := by rw [← hrel, List.drop_length]; simp [factsL]
    subst hrel
    have hI : Inv w [] ([] ++ (rowG t5 t_iTerm 4 css :: blks Ls.flatten)) S w' := hI.sub (List.sublist_cons_self _ _)
    obtain ⟨L, hT, hI⟩ := Inv.rowTree hI hgr
    exact ⟨_, _, _, rfl, hI, Ext.refl _ _ _, rfl, _, rfl, hT⟩
theorem FactsFor_1_calls {x g : T} {S : Store} {ds cs : List Value} {b3 : Nat} (hx : RdT S ds x) (hg : RdT S cs g) (hb : S b3 = some (.cells cs.toArray t_iTerm)) :
    Pure Try.prog n_i_FactsFor_1 [.agg ds.toArray, .pointer (some ⟨b3, 0, none⟩)] S (.bool (!instB x g)) := by
  intro w hI
  have hlx := hx.length
  have hlg := hg.length
  refine calls_i_FactsFor_1 ?_
  unfold sh_i_FactsFor_1
  refine r_box hI fun b2 w' hI => ?_
  refine r_loadW hI 0 ag_iTerm rfl (by simpa [Value.cells] using hlx) ?_
  refine r_loadA (cs := cs) ag_iTerm hlg (fun j v hj => by rw [hI.cellS hb, Nat.zero_add]; simpa using hj) ?_
  refine Run.callPure fn_i_InstanceOf nm_i_InstanceOf hI (i_InstanceOf_calls hx hg) fun w' hI => ?_
  refine r_not ?_
  exact done hI rfl
theorem i_FactsFor_calls {l : List T} {g : T} {S : Store} {v : Value} {cs : List Value} (h : RdSl S 4 (RdT S) v l) (hg : RdT S cs g) (hw : l.length + wL l ≤ 1048576) :
    Tri Try.prog n_i_FactsFor [v, .agg cs.toArray] [] S (PostS 4 TrT S (factsL l g)) := by
  intro w hI
  have hfw := factsL_w l g
  refine calls_i_FactsFor ?_
  unfold sh_i_FactsFor
  refine r_box hI fun b3 w' hI => ?_
  obtain ⟨hI, hle⟩ := Inv.publishLast (L := []) hI
  have hb : addS S b3 (.cells (Value.agg cs.toArray).cells t_iTerm) b3 = some (.cells cs.toArray t_iTerm) := by simp [addS, Value.cells]
  generalize addS S b3 (.cells (Value.agg cs.toArray).cells t_iTerm) = S1 at hI hle hb
  refine Run.call0 fn_x_Clone_Term nm_x_Clone_Term hI (Clone_Term_calls (h.monoT hle) (by omega)) fun v1 I' S' w' => ?_
  rintro ⟨rfl, css, rfl, hR⟩ _ hI
  refine r_makeFunc ?_
  refine Run.call (A := []) fn_x_DeleteFunc_Term nm_x_DeleteFunc_Term hI (DeleteFunc_Term_calls (p := fun x => !instB x g) fn_i_FactsFor_1 nm_i_FactsFor_1 (cap := [.pointer (some ⟨b3, 0, none⟩)]) (fun S2 hle2 x _ ds hds => FactsFor_1_calls hds (hg.mono (hle.trans hle2)) (hle2 _ _ hb)) hR (by omega)) fun v2 I' S2 w' => ?_
  rintro ⟨rfl, hr⟩ hle2 hI
  have hfe : (l.filter fun x => !(!instB x g)) = factsL l g := by simp [factsL]
  rw [hfe] at hr
  refine Run.call0 fn_i_ownList nm_i_ownList hI (ownList_calls hr (by omega)) fun v3 I' S' w' => ?_
  rintro ⟨rfl, L, rfl, hT⟩ _ hI
  exact ⟨_, _, _, rfl, hI.less (hle.trans hle2), Ext.refl _ _ _, rfl, L, rfl, hT⟩
end

end Go.Proofs.Ytnoieadimkgjcaa

/- spec: resolved terms, if they are small. -/
import Derived.Test.YtaaihodhhacapaaGreatZUf4
import Derived.Test.YtaaihodhhacapaaGreatZUf3
import Derived.Test.YtaaihodhhacapaaGreatZUf1
import Derived.Test.YtaaihodhhacapaaGreatZUf0
namespace Go.Proofs.YtaaihodhhacapaaGreat
open Go Go.RowKit
mutual
def depB : T → Int → Bool
  | .mk _ _ _ ks, d => if d < 1 then false else depL ks (d - 1)
def depL : List T → Int → Bool
  | [], _ => true
  | t :: ts, d => depB t d && depL ts d
end
theorem depL_all : ∀ (ts : List T) (d : Int), depL ts d = ts.all fun t => depB t d
  | [], _ => rfl
  | t :: ts, d => by rw [depL, depL_all ts d]; rfl
def smallB (u : T) : Bool := decide (cntT u ≤ 120) && depB u 30
theorem cntL_take (us : List T) (j : Nat) (h : j < us.length) : cntL (us.take (j + 1)) = cntL (us.take j) + cntT us[j] := by
  induction us generalizing j with
  | nil => simp at h
  | cons u us ih =>
    cases j with
    | zero => simp only [List.take_succ_cons, List.take_zero, List.getElem_cons_zero, cntL]; omega
    | succ j =>
      have := ih j (by simpa using h)
      simp only [List.take_succ_cons, List.getElem_cons_succ, cntL] at *
      omega
theorem cntL_take_le (us : List T) (j : Nat) : cntL (us.take j) ≤ cntL us := by
  induction us generalizing j with
  | nil => simp
  | cons u us ih =>
    cases j with
    | zero => simp only [List.take_zero]; exact cntL_pos _
    | succ j =>
      have := ih j
      simp only [List.take_succ_cons, cntL]
      omega
theorem cntT_mk (k n : Int) (s : ByteArray) (ks : List T) : cntT (.mk k n s ks) = 1 + cntL ks := rfl
theorem row_cells' {w : World} {v : Value} {e : TypeId} {k n : Nat} {xs : List Value} (h : (Item.row v e k n xs).holds w) : v.cells = #[v] ∧ v.oneCell' = true := by
  have h : w.ownsRow 0 e k v n xs := h
  rcases h.2 with ⟨rfl, _⟩ | ⟨g, cap, cur, rfl, _⟩ <;> exact ⟨rfl, rfl⟩
section
attribute [local irreducible] Run CondV GuardV LoadV
theorem r_buildTerm0 {K : Value → World → Prop} {w : World} (hk : K (.agg #[.int .i64 0, .int .i64 0, .string ⟨#[]⟩, .slice none 0 0]) w) : Run Tryz.prog (sBuild t_iTerm []) w K := by
  refine Run.of ?_ hk
  kernel_rfl
theorem l6Flat_calls : ∀ (t : T) (d : Int) (S : Store) (cs : List Value), RdT S cs t → -1000000 ≤ d → d ≤ 1000000 → Pure Tryz.prog n_s_l6Flat [.agg cs.toArray, .int .i64 d] S (.bool (depB t d)) := by
  refine T.ind fun k n s ks ih d S cs h hd0 hd1 => ?_
  intro w hI
  obtain ⟨kv, rfl, _, _, _, hks⟩ := RdT.iff.1 h
  simp only [T.name, T.kids, T.kind, T.n] at hks ⊢
  have hlen := hks.le
  simp only [maxLen] at hlen
  refine calls_s_l6Flat ?_
  unfold sh_s_l6Flat
  refine r_box hI fun b2 w' hI => ?_
  rw [depB]
  refine r_lss ?_
  refine condP (fun hd => ?_) (fun hd => ?_)
  · rw [if_pos hd]
    exact done hI rfl
  rw [if_neg hd, depL_all]
  refine ⟨fun i w' => ∃ j : Nat, j ≤ ks.length ∧ i = .int .i64 j ∧ ((ks.drop j).all fun t => depB t (d - 1)) = (ks.all fun t => depB t (d - 1)) ∧ Inv w [] [.blk b2 (.cells #[.int .i64 k, .int .i64 n, .string s, kv] t_iTerm)] S w',
    fun i _ => ks.length - (intOf i).toNat, ⟨0, Nat.zero_le _, rfl, rfl, hI⟩, ?_⟩
  intro t5 _ _ _ _ _ _ _ _ _ _ _ _ _ _ _ _ _ w'
  rintro ⟨j, hj, rfl, hrel, hI⟩
  refine r_fieldL hI 0 rfl fo_iTerm_3 sc_SiTerm rfl ?_
  refine r_lenSl hks sl_SiTerm ?_
  refine r_lss ?_
  refine condP (fun hji => ?_) (fun hji => ?_)
  · have hj' : j < ks.length := by omega
    have hstep := all_drop (fun t => depB t (d - 1)) ks j hj'
    refine r_fieldL hI 0 rfl fo_iTerm_3 sc_SiTerm rfl ?_
    refine r_elem hI hks sl_SiTerm ag_iTerm hj' (fun _ _ => RdT.length) fun cs hcs => ?_
    refine r_sub (by omega) ?_
    refine Run.callPure fn_s_l6Flat nm_s_l6Flat hI (ih _ (List.getElem_mem hj') (d - 1) S cs hcs (by omega) (by omega)) fun w' hI => ?_
    refine r_not ?_
    refine condV (fun hne => done hI ?_) (fun he => ?_)
    · have hne' : depB ks[j] (d - 1) = false := by simpa using hne
      rw [← hrel, hstep, hne']; rfl
    · have he' : depB ks[j] (d - 1) = true := by simpa using he
      refine r_add (by omega) ?_
      exact ⟨⟨j + 1, hj', rfl, by rw [← hrel, hstep, he']; rfl, hI⟩, by simp [intOf]; omega⟩
  · have : j = ks.length := by omega
    subst this
    exact done hI (by rw [← hrel, List.drop_length]; rfl)
/- a tuple of a term and of how many nodes are left -/
def PostF (kb : Nat) (kc : Array Value) (u : T) (room : Int) : Value → List Item → Store → Prop := fun q I' S' => I' = [.blk kb (.cells kc t_iTerm)] ∧
  ∃ cs' : List Value, cs'.length = 4 ∧ (∀ x ∈ cs', x.oneCell' = true) ∧ q = .tuple #[.agg cs'.toArray, .int .i64 (if cntT u ≤ room then room - cntT u else -1)] ∧ (cntT u ≤ room → RdT S' cs' u)
def FC (N kp : Nat) (st : Known) (t u : T) : Prop := ∀ (S : Store) (cs : List Value) (kb : Nat) (kc : Array Value) (room : Int), RdT S cs t → KnU S kc st → -1 ≤ room → room ≤ 1000000 →
  Tri Tryz.prog n_s_l3Full [.agg cs.toArray, kvU kb N kp, .int .i64 room] [.blk kb (.cells kc t_iTerm)] S (PostF kb kc u room)
theorem zero_one : ∀ x ∈ ([.int .i64 0, .int .i64 0, .string ⟨#[]⟩, .slice none 0 0] : List Value), x.oneCell' = true := by simp [Value.oneCell']
theorem l3Full_body {N kp : Nat} {st : Known} {t v : T} {us : List T} (hg : Good N st) (hwv : WalkR st t v) (hot : okU N t ∧ wT t ≤ 1048576) (hlu : us.length = v.kids.length)
    (hk : ∀ i (h : i < us.length) (h' : i < v.kids.length), FC N kp st v.kids[i] us[i]) : FC N kp st t (.mk v.kind v.n v.name us) := by
  intro S cs kb kc room h hkc hr0 hr1 w hI
  have hlc := h.length
  have hov := walk_ok hg hwv hot
  obtain ⟨X, hX⟩ : ∃ X, X = feet [Item.blk kb (.cells kc t_iTerm)] := ⟨_, rfl⟩
  rw [← hX] at hI ⊢
  have hcu := cntL_pos us
  refine calls_s_l3Full ?_
  unfold sh_s_l3Full
  refine r_box hI fun b3 w' hI => ?_
  refine r_alloc hI zo_iTerm fun b6 w' hI => ?_
  have hI : Inv w X ([.blk b3 (.cells cs.toArray t_iTerm), .blk b6 (.cells #[.int .i64 0, .int .i64 0, .string ⟨#[]⟩, .slice none 0 0] t_iTerm)] ++ [.blk kb (.cells kc t_iTerm)]) S w' := hI.perm (List.perm_append_comm (l₁ := [_, _]) (l₂ := [_]))
  refine r_lss ?_
  refine condP (fun hlt => ?_) (fun hlt => ?_)
  · refine r_buildTerm0 ?_
    refine r_storeW hI 1 rfl ag_iTerm rfl rfl zero_one fun w' hI => ?_
    refine loadV_W hI 1 ag_iTerm rfl rfl ?_
    refine ⟨_, _, _, rfl, hI.pick [false, false, true], Ext.refl _ _ _, rfl, _, rfl, zero_one, ?_, fun h => ?_⟩
    · rw [cntT_mk, if_neg (by omega)]
    · rw [cntT_mk] at h; omega
  refine r_loadW hI 0 ag_iTerm rfl (by simpa using hlc) ?_
  refine Run.call fn_s_l3Walk nm_s_l3Walk hI (l3Walk_calls hg hwv hot.1 h hkc) fun v' I' S' w' => ?_
  rintro ⟨eS, rfl, cs', rfl, hcs'⟩ _ hI
  rw [eS] at hI
  clear eS
  refine r_storeW hI 0 rfl ag_iTerm (by simpa using hcs'.length) (by simpa using hlc) (by simpa using hcs'.one) fun w' hI => ?_
  obtain ⟨kv, rfl, hi1, hi2, hs, hks⟩ := RdT.iff.1 hcs'
  have hI : Inv w X [.blk b3 (.cells #[.int .i64 v.kind, .int .i64 v.n, .string v.name, kv] t_iTerm), .blk b6 (.cells #[.int .i64 0, .int .i64 0, .string ⟨#[]⟩, .slice none 0 0] t_iTerm), .blk kb (.cells kc t_iTerm)] S w' := hI
  have hlen := hks.le
  have hkl : v.kids.length ≤ 1048576 := by
    have := hov.2
    cases v
    simp only [wT] at this
    simp only [T.kids]
    omega
  refine r_fieldL hI 0 rfl fo_iTerm_0 sc_int rfl ?_
  refine r_fieldL hI 0 rfl fo_iTerm_1 sc_int rfl ?_
  refine r_fieldL hI 0 rfl fo_iTerm_2 sc_string rfl ?_
  refine r_buildTerm ?_
  refine r_alloc hI zo_iTerm fun b8 w' hI => ?_
  have hI : Inv w X [.blk b3 (.cells #[.int .i64 v.kind, .int .i64 v.n, .string v.name, kv] t_iTerm), .blk b6 (.cells #[.int .i64 0, .int .i64 0, .string ⟨#[]⟩, .slice none 0 0] t_iTerm), .blk b8 _, .blk kb (.cells kc t_iTerm)] S w' := hI.perm (((List.perm_append_comm (l₁ := [_]) (l₂ := [_])).cons _).cons _)
  refine r_storeW hI 2 rfl ag_iTerm rfl rfl (by simp [Value.oneCell']) fun w' hI => ?_
  refine r_sub (by omega) ?_
  have hI := hI.rowNil t_iTerm 4
  have hI : Inv w X [.blk b3 (.cells #[.int .i64 v.kind, .int .i64 v.n, .string v.name, kv] t_iTerm), .blk b6 (.cells #[.int .i64 0, .int .i64 0, .string ⟨#[]⟩, .slice none 0 0] t_iTerm), .blk b8 (.cells #[.int .i64 v.kind, .int .i64 v.n, .string v.name, .slice none 0 0] t_iTerm), rowG (.slice none 0 0) t_iTerm 4 [], .blk kb (.cells kc t_iTerm)] S w' := hI.perm ((((List.perm_append_comm (l₁ := [_]) (l₂ := [_])).cons _).cons _).cons _)
  refine ⟨fun i l w' => ∃ (j : Nat) (left : Int) (kvc : Value) (css : List (List Value)) (S1 : Store), j ≤ us.length ∧ i = .int .i64 j ∧ l = .int .i64 left ∧ Ext w.heap.size X S S1 ∧ css.length = j ∧
      ((left = room - 1 - cntL (us.take j) ∧ 0 ≤ left ∧ Rows 4 (RdT S1) css (us.take j)) ∨ (left = -1 ∧ room - 1 < cntL us)) ∧
      Inv w X [.blk b3 (.cells #[.int .i64 v.kind, .int .i64 v.n, .string v.name, kv] t_iTerm), .blk b6 (.cells #[.int .i64 0, .int .i64 0, .string ⟨#[]⟩, .slice none 0 0] t_iTerm), .blk b8 (.cells #[.int .i64 v.kind, .int .i64 v.n, .string v.name, kvc] t_iTerm), rowG kvc t_iTerm 4 css, .blk kb (.cells kc t_iTerm)] S1 w',
    fun i _ _ => us.length - (intOf i).toNat, ⟨0, room - 1, _, [], S, Nat.zero_le _, rfl, rfl, Ext.refl _ _ _, rfl, .inl ⟨by simp [cntL], by omega, Rows.nil _ _⟩, hI⟩, ?_⟩
  intro t10 _ _ t9 _ _ _ _ _ _ _ _ _ _ _ _ _ _ _ _ _ _ _ _ _ _ _ _ _ _ _ _ _ w'
  rintro ⟨j, left, kvc, css, S1, hj, rfl, rfl, hE, hcl, hst, hI⟩
  refine ⟨fun q w' => q = .bool (decide (j < us.length ∧ 0 ≤ left)) ∧ Inv w X [.blk b3 (.cells #[.int .i64 v.kind, .int .i64 v.n, .string v.name, kv] t_iTerm), .blk b6 (.cells #[.int .i64 0, .int .i64 0, .string ⟨#[]⟩, .slice none 0 0] t_iTerm), .blk b8 (.cells #[.int .i64 v.kind, .int .i64 v.n, .string v.name, kvc] t_iTerm), rowG kvc t_iTerm 4 css, .blk kb (.cells kc t_iTerm)] S1 w', ?_, ?_⟩
  · refine r_fieldL hI 0 rfl fo_iTerm_3 sc_SiTerm rfl ?_
    refine r_lenSl hks sl_SiTerm ?_
    refine r_lss ?_
    by_cases e1 : (j : Int) < (v.kids.length : Nat)
    · rw [decide_eq_true e1]
      repeat (first | refine guard_true ?_ | refine guard_ne (by decide) ?_ | refine guard_undef ?_ | refine r_pickT ?_ | refine r_pickF ?_)
      refine r_geq ?_
      repeat (first | refine guard_true ?_ | refine guard_ne (by decide) ?_ | refine guard_undef ?_ | refine r_pickT ?_ | refine r_pickF ?_)
      refine ⟨?_, hI⟩
      congr 1
      rw [Bool.eq_iff_iff, decide_eq_true_eq, decide_eq_true_eq]
      omega
    · rw [decide_eq_false e1]
      repeat (first | refine guard_true ?_ | refine guard_ne (by decide) ?_ | refine guard_undef ?_ | refine r_pickT ?_ | refine r_pickF ?_)
      refine ⟨?_, hI⟩
      rw [decide_eq_false (by omega)]
  intro q _ _ _ _ _ _ _ _ w'
  rintro ⟨rfl, hI⟩
  refine condP (fun hgo => ?_) (fun hgo => ?_)
  · obtain ⟨hj1, hl0⟩ := hgo
    have hj2 : j < v.kids.length := by omega
    obtain ⟨hleft, _, hR⟩ : left = room - 1 - cntL (us.take j) ∧ 0 ≤ left ∧ Rows 4 (RdT S1) css (us.take j) := by
      rcases hst with h1 | ⟨h1, _⟩
      · exact h1
      · omega
    have hpos := cntL_pos (us.take j)
    refine r_fieldL hI 0 rfl fo_iTerm_3 sc_SiTerm rfl ?_
    refine r_elem hI (hks.monoT hE.1) sl_SiTerm ag_iTerm hj2 (fun _ _ => RdT.length) fun cs0 hcs0 => ?_
    have hI : Inv w X ([.blk b3 (.cells #[.int .i64 v.kind, .int .i64 v.n, .string v.name, kv] t_iTerm), .blk b6 (.cells #[.int .i64 0, .int .i64 0, .string ⟨#[]⟩, .slice none 0 0] t_iTerm), .blk b8 (.cells #[.int .i64 v.kind, .int .i64 v.n, .string v.name, kvc] t_iTerm), rowG kvc t_iTerm 4 css] ++ [.blk kb (.cells kc t_iTerm)]) S1 _ := hI
    refine Run.callE fn_s_l3Full nm_s_l3Full hI (hk j hj1 hj2 S1 cs0 kb kc left hcs0 (hkc.mono hE.1) (by omega) (by omega)) fun v' I' S2 w' => ?_
    rintro ⟨rfl, cs2, hl4, ho4, rfl, hrd⟩ hE2 hI
    refine r_extract rfl ?_
    refine r_extract rfl ?_
    refine r_alloc hI zo_iTerm fun b11 w' hI => ?_
    have hI := hI.perm (M := .blk b11 _ :: [.blk b3 (.cells #[.int .i64 v.kind, .int .i64 v.n, .string v.name, kv] t_iTerm), .blk b6 (.cells #[.int .i64 0, .int .i64 0, .string ⟨#[]⟩, .slice none 0 0] t_iTerm), .blk b8 (.cells #[.int .i64 v.kind, .int .i64 v.n, .string v.name, kvc] t_iTerm), rowG kvc t_iTerm 4 css, .blk kb (.cells kc t_iTerm)]) (List.perm_append_comm (l₁ := [_]))
    refine r_storeW hI 0 rfl ag_iTerm (by simpa using hl4) rfl (by simpa using ho4) fun w' hI => ?_
    refine r_fieldL (b := b8) (c := #[.int .i64 v.kind, .int .i64 v.n, .string v.name, kvc]) hI 3 rfl fo_iTerm_3 sc_SiTerm rfl ?_
    refine r_loadW hI 0 ag_iTerm rfl (by simpa using hl4) ?_
    refine r_append1 hI 4 cs2 mk_SiTerm (by omega) (by omega) rfl hl4 ho4 (by omega) (by omega) fun kvc2 w' hI => ?_
    have hkv2 := row_cells' (hI.its (rowG kvc2 t_iTerm 4 (css ++ [cs2])) (by simp))
    refine r_fieldSt (b := b8) (c := #[.int .i64 v.kind, .int .i64 v.n, .string v.name, kvc]) hI 3 rfl fo_iTerm_3 sc_SiTerm rfl hkv2.1 hkv2.2 fun w' hI => ?_
    have hI : Inv w X [.blk b3 (.cells #[.int .i64 v.kind, .int .i64 v.n, .string v.name, kv] t_iTerm), .blk b6 (.cells #[.int .i64 0, .int .i64 0, .string ⟨#[]⟩, .slice none 0 0] t_iTerm), .blk b8 (.cells #[.int .i64 v.kind, .int .i64 v.n, .string v.name, kvc2] t_iTerm), rowG kvc2 t_iTerm 4 (css ++ [cs2]), .blk kb (.cells kc t_iTerm)] S2 w' := hI.pick [false, true, true, true, true, true]
    refine r_add (by omega) ?_
    have hct := cntL_take us j hj1
    have hcle := cntL_take_le us (j + 1)
    have hc0 := cntT_pos us[j]
    refine ⟨⟨j + 1, _, kvc2, css ++ [cs2], S2, hj1, rfl, rfl, hE.trans hE2, by simp [hcl], ?_, hI⟩, by simp [intOf]; omega⟩
    by_cases hfit : cntT us[j] ≤ left
    · left
      rw [if_pos hfit]
      refine ⟨by omega, by omega, ?_⟩
      rw [List.take_succ_eq_append_getElem hj1]
      exact (hR.monoR fun _ _ h => RdT.mono hE2.1 h).snoc (hrd hfit) hl4
    · right
      rw [if_neg hfit]
      exact ⟨rfl, by omega⟩
  · refine r_loadW (b := b8) (c := #[.int .i64 v.kind, .int .i64 v.n, .string v.name, kvc]) hI 2 ag_iTerm rfl rfl ?_
    have hkv2 := row_cells' (hI.its (rowG kvc t_iTerm 4 css) (by simp))
    have hone : ∀ x ∈ ([.int .i64 v.kind, .int .i64 v.n, .string v.name, kvc] : List Value), x.oneCell' = true := by
      intro x hx
      simp at hx
      rcases hx with rfl | rfl | rfl | rfl <;> first | rfl | exact hkv2.2
    refine r_storeW hI 1 rfl ag_iTerm rfl rfl hone fun w' hI => ?_
    refine loadV_W (c := #[.int .i64 v.kind, .int .i64 v.n, .string v.name, kvc]) hI 1 ag_iTerm rfl rfl ?_
    have hI : Inv w X ([.blk kb (.cells kc t_iTerm)] ++ [rowG kvc t_iTerm 4 css]) S1 w' := (hI.pick [false, false, false, true, true]).perm (List.Perm.swap ..)
    rcases hst with ⟨h1, h2, hR⟩ | ⟨h1, h2⟩
    · have hje : j = us.length := by omega
      rw [hje, List.take_length] at h1 hR
      obtain ⟨S3, hE3, hrd, hI⟩ := hI.lendExt
      have hrr := RowRd.rows (hR.monoR fun _ _ h => RdT.mono hE3.1 h) hrd
      refine ⟨_, _, _, rfl, hI, hE.trans hE3, rfl, [.int .i64 v.kind, .int .i64 v.n, .string v.name, kvc], rfl, hone, ?_, fun _ => RdT.iff.2 ⟨kvc, rfl, hi1, hi2, hs, hrr⟩⟩
      rw [cntT_mk, if_pos (by omega), show left = room - (1 + cntL us) by omega]
    · refine ⟨_, _, _, rfl, hI.sub (List.sublist_append_left _ _), hE, rfl, [.int .i64 v.kind, .int .i64 v.n, .string v.name, kvc], rfl, hone, ?_, fun h => ?_⟩
      · rw [cntT_mk, if_neg (by omega), h1]
      · rw [cntT_mk] at h; omega
theorem l3Full_calls {N kp : Nat} {st : Known} (hg : Good N st) {j : RJob} (hr : Res st j) : match j with
    | .one t u => (okU N t ∧ wT t ≤ 1048576) → FC N kp st t u
    | .list ts us => (∀ t ∈ ts, okU N t ∧ wT t ≤ 1048576) → us.length = ts.length ∧ ∀ i (h : i < us.length) (h' : i < ts.length), FC N kp st ts[i] us[i] := by
  induction hr with
  | one hw _ ih =>
    intro ho
    have h1 := ih (kids_ok (walk_ok hg hw ho))
    exact l3Full_body hg hw ho h1.1 h1.2
  | nil => exact fun _ => ⟨rfl, fun i h _ => by simp at h⟩
  | cons _ _ ih1 ih2 =>
    intro ho
    obtain ⟨h1, h2⟩ := ih2 fun t ht => ho t (List.mem_cons_of_mem _ ht)
    refine ⟨by simp [h1], fun i h h' => ?_⟩
    cases i with
    | zero => exact ih1 (ho _ (List.mem_cons_self ..))
    | succ i => exact h2 i (by simpa using h) (by simpa using h')
def PostSm (kb : Nat) (kc : Array Value) (u : T) : Value → List Item → Store → Prop := fun q I' S' => I' = [.blk kb (.cells kc t_iTerm)] ∧
  ∃ cs' : List Value, cs'.length = 4 ∧ (∀ x ∈ cs', x.oneCell' = true) ∧ q = .tuple #[.agg cs'.toArray, .bool (smallB u)] ∧ (smallB u = true → RdT S' cs' u)
theorem l6Small_calls {N kp : Nat} {st : Known} (hg : Good N st) {t u : T} (hr : Res st (.one t u)) (ho : okU N t ∧ wT t ≤ 1048576) {S : Store} {cs : List Value} {kb : Nat} {kc : Array Value} (h : RdT S cs t) (hkc : KnU S kc st) :
    Tri Tryz.prog n_s_l6Small [.agg cs.toArray, kvU kb N kp] [.blk kb (.cells kc t_iTerm)] S (PostSm kb kc u) := by
  intro w hI
  have hlc := h.length
  obtain ⟨X, hX⟩ : ∃ X, X = feet [Item.blk kb (.cells kc t_iTerm)] := ⟨_, rfl⟩
  rw [← hX] at hI ⊢
  have hfull : FC N kp st t u := l3Full_calls hg hr ho
  refine calls_s_l6Small ?_
  unfold sh_s_l6Small
  refine r_box hI fun b2 w' hI => ?_
  refine r_alloc hI zo_iTerm fun b4 w' hI => ?_
  have hI : Inv w X ([.blk b2 (.cells cs.toArray t_iTerm), .blk b4 (.cells #[.int .i64 0, .int .i64 0, .string ⟨#[]⟩, .slice none 0 0] t_iTerm)] ++ [.blk kb (.cells kc t_iTerm)]) S w' := hI.perm (List.perm_append_comm (l₁ := [_, _]) (l₂ := [_]))
  refine r_loadW hI 0 ag_iTerm rfl (by simpa using hlc) ?_
  refine Run.callE fn_s_l3Full nm_s_l3Full hI (hfull S cs kb kc 120 h hkc (by omega) (by omega)) fun v' I' S1 w' => ?_
  rintro ⟨rfl, cs', hl4, ho4, rfl, hrd⟩ hE hI
  refine r_extract rfl ?_
  refine r_extract rfl ?_
  refine r_alloc hI zo_iTerm fun b6 w' hI => ?_
  have hI : Inv w X [.blk b2 (.cells cs.toArray t_iTerm), .blk b4 (.cells #[.int .i64 0, .int .i64 0, .string ⟨#[]⟩, .slice none 0 0] t_iTerm), .blk kb (.cells kc t_iTerm), .blk b6 _] S1 w' := hI
  refine r_storeW hI 3 rfl ag_iTerm (by simpa using hl4) rfl (by simpa using ho4) fun w' hI => ?_
  have hI : Inv w X [.blk b2 (.cells cs.toArray t_iTerm), .blk b4 (.cells #[.int .i64 0, .int .i64 0, .string ⟨#[]⟩, .slice none 0 0] t_iTerm), .blk kb (.cells kc t_iTerm), .blk b6 (.cells cs'.toArray t_iTerm)] S1 w' := hI
  by_cases hc : cntT u ≤ 120
  · rw [if_pos hc]
    have hc0 := cntT_pos u
    have hru := hrd hc
    refine ⟨fun D x5 x20 x19 x18 x17 x16 x15 x14 w_ => (D 0 = true → x14 = .agg cs'.toArray) ∧ (D 1 = true → x15 = .int .i64 (120 - cntT u)) ∧ (D 2 = true → x16 = .bool true) ∧ (D 3 = true → x17 = .bool true) ∧ (D 4 = true → x18 = .agg cs'.toArray) ∧ (D 5 = true → x19 = .bool (depB u 30)) ∧ (D 6 = true → x20 = .bool (depB u 30)) ∧ (D 7 = true → True) ∧ (D 8 = true → x5 = .bool (depB u 30)) ∧ Inv w X [.blk b2 (.cells cs.toArray t_iTerm), .blk b4 (.cells (cond (D 7) cs'.toArray #[.int .i64 0, .int .i64 0, .string ⟨#[]⟩, .slice none 0 0]) t_iTerm), .blk kb (.cells kc t_iTerm), .blk b6 (.cells cs'.toArray t_iTerm)] S1 w_, ⟨fun h => Bool.noConfusion h, fun h => Bool.noConfusion h, fun h => Bool.noConfusion h, fun h => Bool.noConfusion h, fun h => Bool.noConfusion h, fun h => Bool.noConfusion h, fun h => Bool.noConfusion h, fun h => Bool.noConfusion h, fun h => Bool.noConfusion h, hI.draw⟩, ⟨?_, ?_, ?_, ?_, ?_, ?_, ?_, ?_, ?_, trivial⟩, ?_⟩
    · intro D hD_  x5 x20 x19 x18 x17 x16 x15 x14 w_
      rintro ⟨h0_, h1_, h2_, h3_, h4_, h5_, h6_, h7_, h8_, hI⟩
      refine r_loadW hI 3 ag_iTerm rfl (by simpa using hl4) ?_
      exact ⟨fun _ => rfl, h1_, h2_, h3_, h4_, h5_, h6_, h7_, h8_, hI⟩
    · intro D hD_  x5 x20 x19 x18 x17 x16 x15 x14 w_
      rintro ⟨h0_, h1_, h2_, h3_, h4_, h5_, h6_, h7_, h8_, hI⟩
      exact ⟨h0_, fun _ => rfl, h2_, h3_, h4_, h5_, h6_, h7_, h8_, hI⟩
    · intro D hD_ d1_0 x5 x20 x19 x18 x17 x16 x15 x14 w_
      rintro ⟨h0_, h1_, h2_, h3_, h4_, h5_, h6_, h7_, h8_, hI⟩
      obtain rfl := h1_ d1_0
      refine r_geq ?_
      rw [decide_eq_true (by omega)]
      exact ⟨h0_, h1_, fun _ => rfl, h3_, h4_, h5_, h6_, h7_, h8_, hI⟩
    · intro D hD_ d2_0 x5 x20 x19 x18 x17 x16 x15 x14 w_
      rintro ⟨h0_, h1_, h2_, h3_, h4_, h5_, h6_, h7_, h8_, hI⟩
      obtain rfl := h2_ d2_0
      exact ⟨h0_, h1_, h2_, fun _ => rfl, h4_, h5_, h6_, h7_, h8_, hI⟩
    · intro D hD_ d3_0 x5 x20 x19 x18 x17 x16 x15 x14 w_
      rintro ⟨h0_, h1_, h2_, h3_, h4_, h5_, h6_, h7_, h8_, hI⟩
      obtain rfl := h3_ d3_0
      repeat (first | refine guard_true ?_ | refine guard_ne (by decide) ?_ | refine guard_undef ?_ | refine r_pickT ?_ | refine r_pickF ?_)
      refine r_loadW hI 3 ag_iTerm rfl (by simpa using hl4) ?_
      exact ⟨h0_, h1_, h2_, h3_, fun _ => rfl, h5_, h6_, h7_, h8_, hI⟩
    · intro D hD_ d4_0 d3_1 d3_2 x5 x20 x19 x18 x17 x16 x15 x14 w_
      rintro ⟨h0_, h1_, h2_, h3_, h4_, h5_, h6_, h7_, h8_, hI⟩
      obtain rfl := h4_ d4_0
      obtain rfl := h3_ d3_1
      repeat (first | refine guard_true ?_ | refine guard_ne (by decide) ?_ | refine guard_undef ?_ | refine r_pickT ?_ | refine r_pickF ?_)
      refine Run.callPure fn_s_l6Flat nm_s_l6Flat hI (l6Flat_calls u 30 S1 cs' hru (by omega) (by omega)) fun w_ hI => ?_
      exact ⟨h0_, h1_, h2_, h3_, h4_, fun _ => rfl, h6_, h7_, h8_, hI⟩
    · intro D hD_ d3_0 d5_1 x5 x20 x19 x18 x17 x16 x15 x14 w_
      rintro ⟨h0_, h1_, h2_, h3_, h4_, h5_, h6_, h7_, h8_, hI⟩
      obtain rfl := h3_ d3_0
      obtain rfl := h5_ d5_1
      repeat (first | refine guard_true ?_ | refine guard_ne (by decide) ?_ | refine guard_undef ?_ | refine r_pickT ?_ | refine r_pickF ?_)
      exact ⟨h0_, h1_, h2_, h3_, h4_, h5_, fun _ => rfl, h7_, h8_, hI⟩
    · intro D hD_ d0_0 d5_1 d0_2 x5 x20 x19 x18 x17 x16 x15 x14 w_
      rintro ⟨h0_, h1_, h2_, h3_, h4_, h5_, h6_, h7_, h8_, hI⟩
      obtain rfl := h0_ d0_0
      rw [hD_] at hI
      refine r_storeW hI 1 rfl ag_iTerm (by simpa using hl4) rfl (by simpa using ho4) fun w_ hI => ?_
      exact ⟨h0_, h1_, h2_, h3_, h4_, h5_, h6_, fun _ => trivial, h8_, hI⟩
    · intro D hD_ d6_0 d7_1 d0_2 d1_3 d2_4 d3_5 d4_6 d5_7 d6_8 d7_9 x5 x20 x19 x18 x17 x16 x15 x14 w_
      rintro ⟨h0_, h1_, h2_, h3_, h4_, h5_, h6_, h7_, h8_, hI⟩
      obtain rfl := h6_ d6_0
      exact ⟨h0_, h1_, h2_, h3_, h4_, h5_, h6_, h7_, fun _ => rfl, hI⟩
    intro D d8_ d7_ d6_ d5_ d4_ d3_ d2_ d1_ d0_ x5 x20 x19 x18 x17 x16 x15 x14 w_
    rintro ⟨h0_, h1_, h2_, h3_, h4_, h5_, h6_, h7_, h8_, hI⟩
    obtain rfl := h8_ d8_
    obtain rfl := h6_ d6_
    obtain rfl := h5_ d5_
    obtain rfl := h4_ d4_
    obtain rfl := h3_ d3_
    obtain rfl := h2_ d2_
    obtain rfl := h1_ d1_
    obtain rfl := h0_ d0_
    clear h0_ h1_ h2_ h3_ h4_ h5_ h6_ h7_ h8_
    rw [d7_] at hI
    refine loadV_W hI 1 ag_iTerm rfl (by simpa using hl4) ?_
    have e : smallB u = depB u 30 := by rw [smallB, decide_eq_true hc, Bool.true_and]
    exact ⟨_, _, _, rfl, hI.pick [false, false, true, false], hE, rfl, cs', hl4, ho4, by rw [e]; rfl, fun _ => hru⟩
  · rw [if_neg hc]
    refine ⟨fun D x5 x20 x19 x18 x17 x16 x15 x14 w_ => (D 0 = true → x14 = .agg cs'.toArray) ∧ (D 1 = true → x15 = .int .i64 (-1)) ∧ (D 2 = true → x16 = .bool false) ∧ (D 3 = true → x17 = .bool false) ∧ (D 4 = true → x18 = undef) ∧ (D 5 = true → x19 = undef) ∧ (D 6 = true → x20 = .bool false) ∧ (D 7 = true → True) ∧ (D 8 = true → x5 = .bool false) ∧ Inv w X [.blk b2 (.cells cs.toArray t_iTerm), .blk b4 (.cells (cond (D 7) cs'.toArray #[.int .i64 0, .int .i64 0, .string ⟨#[]⟩, .slice none 0 0]) t_iTerm), .blk kb (.cells kc t_iTerm), .blk b6 (.cells cs'.toArray t_iTerm)] S1 w_, ⟨fun h => Bool.noConfusion h, fun h => Bool.noConfusion h, fun h => Bool.noConfusion h, fun h => Bool.noConfusion h, fun h => Bool.noConfusion h, fun h => Bool.noConfusion h, fun h => Bool.noConfusion h, fun h => Bool.noConfusion h, fun h => Bool.noConfusion h, hI.draw⟩, ⟨?_, ?_, ?_, ?_, ?_, ?_, ?_, ?_, ?_, trivial⟩, ?_⟩
    · intro D hD_  x5 x20 x19 x18 x17 x16 x15 x14 w_
      rintro ⟨h0_, h1_, h2_, h3_, h4_, h5_, h6_, h7_, h8_, hI⟩
      refine r_loadW hI 3 ag_iTerm rfl (by simpa using hl4) ?_
      exact ⟨fun _ => rfl, h1_, h2_, h3_, h4_, h5_, h6_, h7_, h8_, hI⟩
    · intro D hD_  x5 x20 x19 x18 x17 x16 x15 x14 w_
      rintro ⟨h0_, h1_, h2_, h3_, h4_, h5_, h6_, h7_, h8_, hI⟩
      exact ⟨h0_, fun _ => rfl, h2_, h3_, h4_, h5_, h6_, h7_, h8_, hI⟩
    · intro D hD_ d1_0 x5 x20 x19 x18 x17 x16 x15 x14 w_
      rintro ⟨h0_, h1_, h2_, h3_, h4_, h5_, h6_, h7_, h8_, hI⟩
      obtain rfl := h1_ d1_0
      refine r_geq ?_
      rw [decide_eq_false (by omega)]
      exact ⟨h0_, h1_, fun _ => rfl, h3_, h4_, h5_, h6_, h7_, h8_, hI⟩
    · intro D hD_ d2_0 x5 x20 x19 x18 x17 x16 x15 x14 w_
      rintro ⟨h0_, h1_, h2_, h3_, h4_, h5_, h6_, h7_, h8_, hI⟩
      obtain rfl := h2_ d2_0
      exact ⟨h0_, h1_, h2_, fun _ => rfl, h4_, h5_, h6_, h7_, h8_, hI⟩
    · intro D hD_ d3_0 x5 x20 x19 x18 x17 x16 x15 x14 w_
      rintro ⟨h0_, h1_, h2_, h3_, h4_, h5_, h6_, h7_, h8_, hI⟩
      obtain rfl := h3_ d3_0
      repeat (first | refine guard_true ?_ | refine guard_ne (by decide) ?_ | refine guard_undef ?_ | refine r_pickT ?_ | refine r_pickF ?_)
      exact ⟨h0_, h1_, h2_, h3_, fun _ => rfl, h5_, h6_, h7_, h8_, hI⟩
    · intro D hD_ d4_0 d3_1 d3_2 x5 x20 x19 x18 x17 x16 x15 x14 w_
      rintro ⟨h0_, h1_, h2_, h3_, h4_, h5_, h6_, h7_, h8_, hI⟩
      obtain rfl := h4_ d4_0
      obtain rfl := h3_ d3_1
      repeat (first | refine guard_true ?_ | refine guard_ne (by decide) ?_ | refine guard_undef ?_ | refine r_pickT ?_ | refine r_pickF ?_)
      exact ⟨h0_, h1_, h2_, h3_, h4_, fun _ => rfl, h6_, h7_, h8_, hI⟩
    · intro D hD_ d3_0 d5_1 x5 x20 x19 x18 x17 x16 x15 x14 w_
      rintro ⟨h0_, h1_, h2_, h3_, h4_, h5_, h6_, h7_, h8_, hI⟩
      obtain rfl := h3_ d3_0
      obtain rfl := h5_ d5_1
      repeat (first | refine guard_true ?_ | refine guard_ne (by decide) ?_ | refine guard_undef ?_ | refine r_pickT ?_ | refine r_pickF ?_)
      exact ⟨h0_, h1_, h2_, h3_, h4_, h5_, fun _ => rfl, h7_, h8_, hI⟩
    · intro D hD_ d0_0 d5_1 d0_2 x5 x20 x19 x18 x17 x16 x15 x14 w_
      rintro ⟨h0_, h1_, h2_, h3_, h4_, h5_, h6_, h7_, h8_, hI⟩
      obtain rfl := h0_ d0_0
      rw [hD_] at hI
      refine r_storeW hI 1 rfl ag_iTerm (by simpa using hl4) rfl (by simpa using ho4) fun w_ hI => ?_
      exact ⟨h0_, h1_, h2_, h3_, h4_, h5_, h6_, fun _ => trivial, h8_, hI⟩
    · intro D hD_ d6_0 d7_1 d0_2 d1_3 d2_4 d3_5 d4_6 d5_7 d6_8 d7_9 x5 x20 x19 x18 x17 x16 x15 x14 w_
      rintro ⟨h0_, h1_, h2_, h3_, h4_, h5_, h6_, h7_, h8_, hI⟩
      obtain rfl := h6_ d6_0
      exact ⟨h0_, h1_, h2_, h3_, h4_, h5_, h6_, h7_, fun _ => rfl, hI⟩
    intro D d8_ d7_ d6_ d5_ d4_ d3_ d2_ d1_ d0_ x5 x20 x19 x18 x17 x16 x15 x14 w_
    rintro ⟨h0_, h1_, h2_, h3_, h4_, h5_, h6_, h7_, h8_, hI⟩
    obtain rfl := h8_ d8_
    obtain rfl := h6_ d6_
    obtain rfl := h5_ d5_
    obtain rfl := h4_ d4_
    obtain rfl := h3_ d3_
    obtain rfl := h2_ d2_
    obtain rfl := h1_ d1_
    obtain rfl := h0_ d0_
    clear h0_ h1_ h2_ h3_ h4_ h5_ h6_ h7_ h8_
    rw [d7_] at hI
    refine loadV_W hI 1 ag_iTerm rfl (by simpa using hl4) ?_
    have e : smallB u = false := by rw [smallB, decide_eq_false hc, Bool.false_and]
    exact ⟨_, _, _, rfl, hI.pick [false, false, true, false], hE, rfl, cs', hl4, ho4, by rw [e]; rfl, fun h => by rw [e] at h; cases h⟩
end

end Go.Proofs.YtaaihodhhacapaaGreat

/- spec: shifted terms and clauses. -/
namespace Go.Proofs.YtaaihodhhacapaaGreat
open Go Go.RowKit
mutual
def shiftT (m : Int) : T → T
  | .mk k n s ks => .mk k (if k = 1 then n + m else n) s (shiftL m ks)
def shiftL (m : Int) : List T → List T
  | [] => []
  | t :: ts => shiftT m t :: shiftL m ts
end
theorem shiftL_map (m : Int) : ∀ ts : List T, shiftL m ts = ts.map (shiftT m)
  | [] => rfl
  | t :: ts => by rw [shiftL, shiftL_map m ts]; rfl
theorem shiftL_take (m : Int) (ks : List T) (j : Nat) (h : j < ks.length) : shiftL m (ks.take (j + 1)) = shiftL m (ks.take j) ++ [shiftT m ks[j]] := by
  rw [shiftL_map, shiftL_map, List.take_succ_eq_append_getElem h, List.map_append]; rfl
def shiftC (m : Int) (c : C) : C := ⟨shiftT m c.head, shiftL m c.body⟩
section
attribute [local irreducible] Run CondV GuardV LoadV
theorem l3Shift_calls {N : Nat} (hN : N ≤ 1000000) (m : Int) (hm0 : 0 ≤ m) (hm1 : m ≤ 1000000) : ∀ (t : T) (S : Store) (cs : List Value), RdT S cs t → okU N t → wT t ≤ 1048576 → Tri Tryz.prog n_s_l3Shift [.agg cs.toArray, .int .i64 m] [] S (PostT S (shiftT m t)) := by
  refine T.ind fun k n s ks ih S cs h hou hw => ?_
  intro w hI
  obtain ⟨kv, rfl, h1, h2, hs, hks⟩ := RdT.iff.1 h
  simp only [T.name, T.kids, T.kind, T.n] at h1 h2 hs hks ⊢
  simp only [wT] at hw
  rw [okU] at hou
  obtain ⟨_, hvar, hou, _⟩ := hou
  obtain ⟨cur, hcur⟩ : ∃ cur, cur = if k = 1 then n + m else n := ⟨_, rfl⟩
  have hci : inI cur := by
    rw [hcur]
    split
    · have := hvar (by assumption)
      simp only [inI]
      omega
    · exact h2
  refine calls_s_l3Shift ?_
  unfold sh_s_l3Shift
  refine r_box hI fun b1 w' hI => ?_
  refine r_alloc hI zo_iTerm fun b2 w' hI => ?_
  refine r_fieldL hI 0 rfl fo_iTerm_0 sc_int rfl ?_
  refine r_fieldL hI 0 rfl fo_iTerm_1 sc_int rfl ?_
  refine r_fieldL hI 0 rfl fo_iTerm_2 sc_string rfl ?_
  refine r_buildTerm ?_
  refine r_alloc hI zo_iTerm fun b3 w' hI => ?_
  refine r_storeW hI 2 rfl ag_iTerm rfl rfl (by simp [Value.oneCell']) fun w' hI => ?_
  have hI : Inv w [] [.blk b1 (.cells #[.int .i64 k, .int .i64 n, .string s, kv] t_iTerm), .blk b2 (.cells #[.int .i64 0, .int .i64 0, .string ⟨#[]⟩, .slice none 0 0] t_iTerm), .blk b3 (.cells #[.int .i64 k, .int .i64 n, .string s, .slice none 0 0] t_iTerm)] S w' := hI
  refine ⟨fun w' => Inv w [] [.blk b1 (.cells #[.int .i64 k, .int .i64 n, .string s, kv] t_iTerm), .blk b2 (.cells #[.int .i64 0, .int .i64 0, .string ⟨#[]⟩, .slice none 0 0] t_iTerm), .blk b3 (.cells #[.int .i64 k, .int .i64 cur, .string s, .slice none 0 0] t_iTerm)] S w', ?_, ?_⟩
  · refine r_fieldL hI 0 rfl fo_iTerm_0 sc_int rfl ?_
    refine r_eql ?_
    refine condP (fun he => ?_) (fun he => ?_)
    · have hv := hvar he
      refine r_fieldL hI 0 rfl fo_iTerm_1 sc_int rfl ?_
      refine r_add (by omega) ?_
      rw [if_pos he] at hcur
      rw [hcur]
      exact r_fieldSt hI 2 rfl fo_iTerm_1 sc_int rfl rfl rfl fun w' hI => hI
    · rw [if_neg he] at hcur
      rw [hcur]
      exact hI
  intro _ _ _ _ _ _ _ _ w' hI
  have hI := hI.rowNil t_iTerm 4
  refine ⟨fun i w' => ∃ (j : Nat) (kvc : Value) (Ls : List Heaplet) (css : List (List Value)), j ≤ ks.length ∧ i = .int .i64 j ∧ Grown 4 TrT Ls css (shiftL m (ks.take j)) ∧
      Inv w [] (.blk b1 (.cells #[.int .i64 k, .int .i64 n, .string s, kv] t_iTerm) :: .blk b2 (.cells #[.int .i64 0, .int .i64 0, .string ⟨#[]⟩, .slice none 0 0] t_iTerm) :: .blk b3 (.cells #[.int .i64 k, .int .i64 cur, .string s, kvc] t_iTerm) :: rowG kvc t_iTerm 4 css :: blks Ls.flatten) S w',
    fun i _ => ks.length - (intOf i).toNat, ⟨0, _, [], [], Nat.zero_le _, rfl, Grown.nil _ _, hI⟩, ?_⟩
  intro t7 _ _ _ _ _ _ _ _ _ _ _ _ _ _ _ _ _ _ _ w'
  rintro ⟨j, kvc, Ls, css, hj, rfl, hg, hI⟩
  refine r_fieldL hI 0 rfl fo_iTerm_3 sc_SiTerm rfl ?_
  refine r_lenSl hks sl_SiTerm ?_
  refine r_lss ?_
  refine condP (fun hji => ?_) (fun hji => ?_)
  · have hj' : j < ks.length := by omega
    have hjl : (ks.take j).length = j := by simp; omega
    have hcl := hg.hc
    rw [shiftL_map, List.length_map] at hcl
    have hm := List.getElem_mem hj'
    have hwm := wL_mem hm
    obtain ⟨b, o, cap, c, E, fz, rfl, hS, hR⟩ := hks.at_ hj'
    refine ⟨fun D x40 x39 x38 x37 x36 x35 x34 x33 x32 x31 x30 x29 w_ => (D 0 = true → x29 = .pointer (some ⟨b3, 3, none⟩)) ∧ (D 1 = true → x30 = kvc) ∧ (D 2 = true → x31 = .pointer (some ⟨b1, 3, none⟩)) ∧ (D 3 = true → x32 = .slice (some ⟨b, o, none⟩) ks.length cap) ∧ (D 4 = true → x33 = .int .i64 j) ∧ (D 5 = true → x34 = .pointer (some ⟨b, o + j * 4, none⟩)) ∧ (D 6 = true → x35 = .agg (cellsAt c (o + j * 4) 4).toArray) ∧ (D 7 = true → x36 = .int .i64 m) ∧ (D 8 = true → True) ∧ (D 9 = true → True) ∧ (D 10 = true → True) ∧ (D 11 = true → x40 = .pointer (some ⟨b3, 3, none⟩)) ∧ (D 12 = true → True) ∧ ∃ M cs7 b8, (D 8 = true → x37 = .agg cs7.toArray ∧ TrT M cs7 (shiftT m ks[j])) ∧ (D 9 = true → x38 = .slice (some ⟨b8, 0, none⟩) 1 1) ∧ (D 9 = true → D 8 = true) ∧ (D 10 = true → D 9 = true) ∧ (D 12 = true → D 10 = true) ∧ (D 12 = true → D 1 = true) ∧ Inv w [] (cpItems (.blk b1 (.cells #[.int .i64 k, .int .i64 n, .string s, .slice (some ⟨b, o, none⟩) ks.length cap] t_iTerm)) (.blk b2 (.cells #[.int .i64 0, .int .i64 0, .string ⟨#[]⟩, .slice none 0 0] t_iTerm)) (.blk b3 (.cells #[.int .i64 k, .int .i64 cur, .string s, kvc] t_iTerm)) (.blk b3 (.cells #[.int .i64 k, .int .i64 cur, .string s, x39] t_iTerm)) (rowG kvc t_iTerm 4 css) (rowG x39 t_iTerm 4 (css ++ [cs7])) (blks Ls.flatten) M (.blk b8 (.cells cs7.toArray t_iTerm)) (D 8) (D 9) (D 10) (D 12)) S w_, ⟨fun h => Bool.noConfusion h, fun h => Bool.noConfusion h, fun h => Bool.noConfusion h, fun h => Bool.noConfusion h, fun h => Bool.noConfusion h, fun h => Bool.noConfusion h, fun h => Bool.noConfusion h, fun h => Bool.noConfusion h, fun h => Bool.noConfusion h, fun h => Bool.noConfusion h, fun h => Bool.noConfusion h, fun h => Bool.noConfusion h, fun h => Bool.noConfusion h, ⟨[], [], 0, fun h => Bool.noConfusion h, fun h => Bool.noConfusion h, fun h => Bool.noConfusion h, fun h => Bool.noConfusion h, fun h => Bool.noConfusion h, fun h => Bool.noConfusion h, by simpa [cpItems, blks] using hI.draw⟩⟩, ⟨?_, ?_, ?_, ?_, ?_, ?_, ?_, ?_, ?_, ?_, ?_, ?_, ?_, trivial⟩, ?_⟩
    · intro D hD_  x40 x39 x38 x37 x36 x35 x34 x33 x32 x31 x30 x29 w_
      rintro ⟨h0_, h1_, h2_, h3_, h4_, h5_, h6_, h7_, h8_, h9_, h10_, h11_, h12_, ⟨M, cs7, b8, e7, e8, k8, k9, k11, k1, hI⟩⟩
      refine r_field fo_iTerm_3 ?_
      exact ⟨fun _ => rfl, h1_, h2_, h3_, h4_, h5_, h6_, h7_, h8_, h9_, h10_, h11_, h12_, ⟨M, cs7, b8, e7, e8, k8, k9, k11, k1, hI⟩⟩
    · intro D hD_ d0_0 x40 x39 x38 x37 x36 x35 x34 x33 x32 x31 x30 x29 w_
      rintro ⟨h0_, h1_, h2_, h3_, h4_, h5_, h6_, h7_, h8_, h9_, h10_, h11_, h12_, ⟨M, cs7, b8, e7, e8, k8, k9, k11, k1, hI⟩⟩
      obtain rfl := h0_ d0_0
      have f11 : D 12 = false := Bool.eq_false_iff.2 fun h => by rw [k1 h] at hD_; cases hD_
      refine r_loadL (b := b3) hI 2 (c := (#[.int .i64 k, .int .i64 cur, .string s, kvc])) sc_SiTerm (by rw [f11]; rfl) rfl ?_
      have k1 := fun (_ : setD D 1 12 = true) => (rfl : setD D 1 1 = true)
      exact ⟨h0_, fun _ => rfl, h2_, h3_, h4_, h5_, h6_, h7_, h8_, h9_, h10_, h11_, h12_, ⟨M, cs7, b8, e7, e8, k8, k9, k11, k1, hI⟩⟩
    · intro D hD_  x40 x39 x38 x37 x36 x35 x34 x33 x32 x31 x30 x29 w_
      rintro ⟨h0_, h1_, h2_, h3_, h4_, h5_, h6_, h7_, h8_, h9_, h10_, h11_, h12_, ⟨M, cs7, b8, e7, e8, k8, k9, k11, k1, hI⟩⟩
      refine r_field fo_iTerm_3 ?_
      exact ⟨h0_, h1_, fun _ => rfl, h3_, h4_, h5_, h6_, h7_, h8_, h9_, h10_, h11_, h12_, ⟨M, cs7, b8, e7, e8, k8, k9, k11, k1, hI⟩⟩
    · intro D hD_ d2_0 x40 x39 x38 x37 x36 x35 x34 x33 x32 x31 x30 x29 w_
      rintro ⟨h0_, h1_, h2_, h3_, h4_, h5_, h6_, h7_, h8_, h9_, h10_, h11_, h12_, ⟨M, cs7, b8, e7, e8, k8, k9, k11, k1, hI⟩⟩
      obtain rfl := h2_ d2_0
      refine r_loadL hI 0 sc_SiTerm rfl rfl ?_
      exact ⟨h0_, h1_, h2_, fun _ => rfl, h4_, h5_, h6_, h7_, h8_, h9_, h10_, h11_, h12_, ⟨M, cs7, b8, e7, e8, k8, k9, k11, k1, hI⟩⟩
    · intro D hD_  x40 x39 x38 x37 x36 x35 x34 x33 x32 x31 x30 x29 w_
      rintro ⟨h0_, h1_, h2_, h3_, h4_, h5_, h6_, h7_, h8_, h9_, h10_, h11_, h12_, ⟨M, cs7, b8, e7, e8, k8, k9, k11, k1, hI⟩⟩
      exact ⟨h0_, h1_, h2_, h3_, fun _ => rfl, h5_, h6_, h7_, h8_, h9_, h10_, h11_, h12_, ⟨M, cs7, b8, e7, e8, k8, k9, k11, k1, hI⟩⟩
    · intro D hD_ d3_0 d4_1 x40 x39 x38 x37 x36 x35 x34 x33 x32 x31 x30 x29 w_
      rintro ⟨h0_, h1_, h2_, h3_, h4_, h5_, h6_, h7_, h8_, h9_, h10_, h11_, h12_, ⟨M, cs7, b8, e7, e8, k8, k9, k11, k1, hI⟩⟩
      obtain rfl := h3_ d3_0
      obtain rfl := h4_ d4_1
      refine r_indexAddr sl_SiTerm hj' ?_
      exact ⟨h0_, h1_, h2_, h3_, h4_, fun _ => rfl, h6_, h7_, h8_, h9_, h10_, h11_, h12_, ⟨M, cs7, b8, e7, e8, k8, k9, k11, k1, hI⟩⟩
    · intro D hD_ d5_0 x40 x39 x38 x37 x36 x35 x34 x33 x32 x31 x30 x29 w_
      rintro ⟨h0_, h1_, h2_, h3_, h4_, h5_, h6_, h7_, h8_, h9_, h10_, h11_, h12_, ⟨M, cs7, b8, e7, e8, k8, k9, k11, k1, hI⟩⟩
      obtain rfl := h5_ d5_0
      refine r_loadA ag_iTerm hR.length (fun j v hj => by rw [hI.cellS hS]; exact cellsAt_get rfl j v hj) ?_
      exact ⟨h0_, h1_, h2_, h3_, h4_, h5_, fun _ => rfl, h7_, h8_, h9_, h10_, h11_, h12_, ⟨M, cs7, b8, e7, e8, k8, k9, k11, k1, hI⟩⟩
    · intro D hD_  x40 x39 x38 x37 x36 x35 x34 x33 x32 x31 x30 x29 w_
      rintro ⟨h0_, h1_, h2_, h3_, h4_, h5_, h6_, h7_, h8_, h9_, h10_, h11_, h12_, ⟨M, cs7, b8, e7, e8, k8, k9, k11, k1, hI⟩⟩
      exact ⟨h0_, h1_, h2_, h3_, h4_, h5_, h6_, fun _ => rfl, h8_, h9_, h10_, h11_, h12_, ⟨M, cs7, b8, e7, e8, k8, k9, k11, k1, hI⟩⟩
    · intro D hD_ d6_0 d7_1 x40 x39 x38 x37 x36 x35 x34 x33 x32 x31 x30 x29 w_
      rintro ⟨h0_, h1_, h2_, h3_, h4_, h5_, h6_, h7_, h8_, h9_, h10_, h11_, h12_, ⟨M, cs7, b8, e7, e8, k8, k9, k11, k1, hI⟩⟩
      obtain rfl := h6_ d6_0
      obtain rfl := h7_ d7_1
      have f8 : D 9 = false := Bool.eq_false_iff.2 fun h => by rw [k8 h] at hD_; cases hD_
      have f9 : D 10 = false := Bool.eq_false_iff.2 fun h => by rw [k9 h] at f8; cases f8
      have f11 : D 12 = false := Bool.eq_false_iff.2 fun h => by rw [k11 h] at f9; cases f9
      rw [hD_, f8, f9, f11] at hI
      refine Run.call0 fn_s_l3Shift nm_s_l3Shift hI (ih _ (List.getElem_mem hj') S _ hR (okUL_mem hou _ (List.getElem_mem hj')) (by omega)) fun v' I' S w_ => ?_
      rintro ⟨rfl, cs7, M, rfl, rfl, hT⟩ _ hI
      have e7 : setD D 8 8 = true → Value.agg cs7.toArray = Value.agg cs7.toArray ∧ TrT M cs7 (shiftT m ks[j]) := fun _ => ⟨rfl, hT⟩
      have k8 := fun (_ : setD D 8 9 = true) => (rfl : setD D 8 8 = true)
      have hI : Inv w [] (cpItems (.blk b1 (.cells #[.int .i64 k, .int .i64 n, .string s, .slice (some ⟨b, o, none⟩) ks.length cap] t_iTerm)) (.blk b2 (.cells #[.int .i64 0, .int .i64 0, .string ⟨#[]⟩, .slice none 0 0] t_iTerm)) (.blk b3 (.cells #[.int .i64 k, .int .i64 cur, .string s, kvc] t_iTerm)) (.blk b3 (.cells #[.int .i64 k, .int .i64 cur, .string s, x39] t_iTerm)) (rowG kvc t_iTerm 4 css) (rowG x39 t_iTerm 4 (css ++ [cs7])) (blks Ls.flatten) M (.blk b8 (.cells cs7.toArray t_iTerm)) true (D 9) (D 10) (D 12)) S w_ := by
        rw [f8, f9, f11]
        simpa [cpItems] using hI
      exact ⟨h0_, h1_, h2_, h3_, h4_, h5_, h6_, h7_, fun _ => by first | assumption | trivial, h9_, h10_, h11_, h12_, ⟨M, cs7, b8, e7, e8, k8, k9, k11, k1, hI⟩⟩
    · intro D hD_ d8_0 x40 x39 x38 x37 x36 x35 x34 x33 x32 x31 x30 x29 w_
      rintro ⟨h0_, h1_, h2_, h3_, h4_, h5_, h6_, h7_, h8_, h9_, h10_, h11_, h12_, ⟨M, cs7, b8, e7, e8, k8, k9, k11, k1, hI⟩⟩
      have g8_ := h8_ d8_0
      have f9 : D 10 = false := Bool.eq_false_iff.2 fun h => by rw [k9 h] at hD_; cases hD_
      have f11 : D 12 = false := Bool.eq_false_iff.2 fun h => by rw [k11 h] at f9; cases f9
      obtain ⟨q7, hT⟩ := e7 d8_0
      subst q7
      rw [d8_0, hD_, f9, f11] at hI
      refine r_slice1 hI mk_SiTerm (by simp [Value.cells, hT.length]) (by omega) (by omega) fun b8 w_ hI => ?_
      have e7 : setD D 9 8 = true → Value.agg cs7.toArray = Value.agg cs7.toArray ∧ TrT M cs7 (shiftT m ks[j]) := fun _ => ⟨rfl, hT⟩
      have e8 := fun (_ : setD D 9 9 = true) => (rfl : Value.slice (some ⟨b8, 0, none⟩) 1 1 = _)
      have k8 := fun (_ : setD D 9 9 = true) => d8_0
      have k9 := fun (_ : setD D 9 10 = true) => (rfl : setD D 9 9 = true)
      have hI : Inv w [] (cpItems (.blk b1 (.cells #[.int .i64 k, .int .i64 n, .string s, .slice (some ⟨b, o, none⟩) ks.length cap] t_iTerm)) (.blk b2 (.cells #[.int .i64 0, .int .i64 0, .string ⟨#[]⟩, .slice none 0 0] t_iTerm)) (.blk b3 (.cells #[.int .i64 k, .int .i64 cur, .string s, kvc] t_iTerm)) (.blk b3 (.cells #[.int .i64 k, .int .i64 cur, .string s, x39] t_iTerm)) (rowG kvc t_iTerm 4 css) (rowG x39 t_iTerm 4 (css ++ [cs7])) (blks Ls.flatten) M (.blk b8 (.cells cs7.toArray t_iTerm)) (D 8) true (D 10) (D 12)) S w_ := by
        rw [d8_0, f9, f11]
        simpa [cpItems, Value.cells] using hI
      exact ⟨h0_, h1_, h2_, h3_, h4_, h5_, h6_, h7_, h8_, fun _ => by first | assumption | trivial, h10_, h11_, h12_, ⟨M, cs7, b8, e7, e8, k8, k9, k11, k1, hI⟩⟩
    · intro D hD_ d1_0 d9_1 d8_2 x40 x39 x38 x37 x36 x35 x34 x33 x32 x31 x30 x29 w_
      rintro ⟨h0_, h1_, h2_, h3_, h4_, h5_, h6_, h7_, h8_, h9_, h10_, h11_, h12_, ⟨M, cs7, b8, e7, e8, k8, k9, k11, k1, hI⟩⟩
      obtain rfl := h1_ d1_0
      have g9_ := h9_ d9_1
      have f11 : D 12 = false := Bool.eq_false_iff.2 fun h => by rw [k11 h] at hD_; cases hD_
      have q8 := e8 d9_1
      subst q8
      obtain ⟨_, hT⟩ := e7 d8_2
      rw [d8_2, d9_1, hD_, f11] at hI
      have hblk : ((cpItems (.blk b1 (.cells #[.int .i64 k, .int .i64 n, .string s, .slice (some ⟨b, o, none⟩) ks.length cap] t_iTerm)) (.blk b2 (.cells #[.int .i64 0, .int .i64 0, .string ⟨#[]⟩, .slice none 0 0] t_iTerm)) (.blk b3 (.cells #[.int .i64 k, .int .i64 cur, .string s, x30] t_iTerm)) (.blk b3 (.cells #[.int .i64 k, .int .i64 cur, .string s, x39] t_iTerm)) (rowG x30 t_iTerm 4 css) (rowG x39 t_iTerm 4 (css ++ [cs7])) (blks Ls.flatten) M (.blk b8 (.cells cs7.toArray t_iTerm)) true true false false))[4 + (blks Ls.flatten).length + (blks M).length]? = some (.blk b8 (.cells cs7.toArray t_iTerm)) := by
        have e4 : 4 + (blks Ls.flatten).length + (blks M).length = ((blks Ls.flatten).length + (blks M).length) + 1 + 1 + 1 + 1 := by omega
        rw [e4]
        simp only [cpItems, List.getElem?_cons_succ]
        rw [List.getElem?_append_right (by omega), Nat.add_sub_cancel_left, List.getElem?_append_right (Nat.le_refl _), Nat.sub_self]; rfl
      refine r_append hI 3 cs7 mk_SiTerm (by omega) rfl (by rw [hT.length]) (m := 1) (o := 0) ?_ hT.one (by omega) (by omega) fun v' w_ hI => ?_
      · intro i u hi
        rw [hI.cellL hblk, Nat.zero_add]
        simpa using hi
      rw [rowG_snoc] at hI
      have k9 := fun (_ : setD D 10 10 = true) => d9_1
      have k11 := fun (_ : setD D 10 12 = true) => (rfl : setD D 10 10 = true)
      have hI : Inv w [] (cpItems (.blk b1 (.cells #[.int .i64 k, .int .i64 n, .string s, .slice (some ⟨b, o, none⟩) ks.length cap] t_iTerm)) (.blk b2 (.cells #[.int .i64 0, .int .i64 0, .string ⟨#[]⟩, .slice none 0 0] t_iTerm)) (.blk b3 (.cells #[.int .i64 k, .int .i64 cur, .string s, x30] t_iTerm)) (.blk b3 (.cells #[.int .i64 k, .int .i64 cur, .string s, v'] t_iTerm)) (rowG x30 t_iTerm 4 css) (rowG v' t_iTerm 4 (css ++ [cs7])) (blks Ls.flatten) M (.blk b8 (.cells cs7.toArray t_iTerm)) (D 8) (D 9) true (D 12)) S w_ := by
        rw [d8_2, d9_1, f11]
        exact hI
      exact ⟨h0_, h1_, h2_, h3_, h4_, h5_, h6_, h7_, h8_, h9_, fun _ => by first | assumption | trivial, h11_, h12_, ⟨M, cs7, b8, e7, e8, k8, k9, k11, k1, hI⟩⟩
    · intro D hD_ d0_0 d1_1 d2_2 d3_3 d4_4 d5_5 d6_6 d7_7 d8_8 d9_9 d10_10 x40 x39 x38 x37 x36 x35 x34 x33 x32 x31 x30 x29 w_
      rintro ⟨h0_, h1_, h2_, h3_, h4_, h5_, h6_, h7_, h8_, h9_, h10_, h11_, h12_, ⟨M, cs7, b8, e7, e8, k8, k9, k11, k1, hI⟩⟩
      refine r_field fo_iTerm_3 ?_
      exact ⟨h0_, h1_, h2_, h3_, h4_, h5_, h6_, h7_, h8_, h9_, h10_, fun _ => rfl, h12_, ⟨M, cs7, b8, e7, e8, k8, k9, k11, k1, hI⟩⟩
    · intro D hD_ d11_0 d10_1 d10_2 d0_3 d1_4 d2_5 d3_6 d4_7 d5_8 d6_9 d7_10 d8_11 d9_12 d10_13 x40 x39 x38 x37 x36 x35 x34 x33 x32 x31 x30 x29 w_
      rintro ⟨h0_, h1_, h2_, h3_, h4_, h5_, h6_, h7_, h8_, h9_, h10_, h11_, h12_, ⟨M, cs7, b8, e7, e8, k8, k9, k11, k1, hI⟩⟩
      obtain rfl := h11_ d11_0
      have g10_ := h10_ d10_1
      rw [d8_11, d9_12, d10_1, hD_] at hI
      obtain ⟨va, vn, vc, hv9⟩ := Inv.rowSlice hI 3 rfl
      refine r_store hI 2 (n := 1) (by rw [hv9]; rfl) (by decide +kernel) rfl (by simp) (by rw [hv9]; simp [Value.cells, Value.oneCell']) fun w_ hI => ?_
      have hcl9 : Value.cells x39 = #[x39] := by rw [hv9]; rfl
      rw [hcl9] at hI
      have k1 := fun (_ : setD D 12 12 = true) => d1_4
      have k11 := fun (_ : setD D 12 12 = true) => d10_1
      have hI : Inv w [] (cpItems (.blk b1 (.cells #[.int .i64 k, .int .i64 n, .string s, .slice (some ⟨b, o, none⟩) ks.length cap] t_iTerm)) (.blk b2 (.cells #[.int .i64 0, .int .i64 0, .string ⟨#[]⟩, .slice none 0 0] t_iTerm)) (.blk b3 (.cells #[.int .i64 k, .int .i64 cur, .string s, kvc] t_iTerm)) (.blk b3 (.cells #[.int .i64 k, .int .i64 cur, .string s, x39] t_iTerm)) (rowG kvc t_iTerm 4 css) (rowG x39 t_iTerm 4 (css ++ [cs7])) (blks Ls.flatten) M (.blk b8 (.cells cs7.toArray t_iTerm)) (D 8) (D 9) (D 10) true) S w_ := by
        rw [d8_11, d9_12, d10_1]
        exact hI
      exact ⟨h0_, h1_, h2_, h3_, h4_, h5_, h6_, h7_, h8_, h9_, h10_, h11_, fun _ => trivial, ⟨M, cs7, b8, e7, e8, k8, k9, k11, k1, hI⟩⟩
    intro D d12_ d11_ d10_ d9_ d8_ d7_ d6_ d5_ d4_ d3_ d2_ d1_ d0_ x40 x39 x38 x37 x36 x35 x34 x33 x32 x31 x30 x29 w_
    rintro ⟨h0_, h1_, h2_, h3_, h4_, h5_, h6_, h7_, h8_, h9_, h10_, h11_, h12_, ⟨M, cs7, b8, e7, e8, k8, k9, k11, k1, hI⟩⟩
    obtain rfl := h11_ d11_
    have g10_ := h10_ d10_
    have g9_ := h9_ d9_
    have g8_ := h8_ d8_
    obtain rfl := h7_ d7_
    obtain rfl := h6_ d6_
    obtain rfl := h5_ d5_
    obtain rfl := h4_ d4_
    obtain rfl := h3_ d3_
    obtain rfl := h2_ d2_
    obtain rfl := h1_ d1_
    obtain rfl := h0_ d0_
    clear h0_ h1_ h2_ h3_ h4_ h5_ h6_ h7_ h8_ h9_ h10_ h11_ h12_
    obtain ⟨_, hT⟩ := e7 d8_
    rw [d8_, d9_, d10_, d12_] at hI
    refine r_add (by omega) ?_
    refine ⟨⟨j + 1, x39, Ls ++ [M], css ++ [cs7], hj', rfl, ?_, ?_⟩, by simp [intOf]; omega⟩
    · rw [shiftL_take m ks j hj']
      exact hg.snoc hT hT.length
    · simp only [List.flatten_append, List.flatten_cons, List.flatten_nil, List.append_nil, blks_append]
      refine hI.sub ?_
      simp only [cpItems]
      rw [← List.append_assoc]
      exact (((List.sublist_append_left _ _).cons_cons _).cons_cons _).cons_cons _ |>.cons_cons _
  · have : j = ks.length := by omega
    subst this
    rw [List.take_length] at hg
    obtain ⟨va, vn, vc, hvk⟩ := hI.rowSlice 3 rfl
    have hv1 : kvc.oneCell' = true := by rw [hvk]; rfl
    refine r_loadW hI 2 ag_iTerm rfl rfl ?_
    refine r_storeW hI 1 rfl ag_iTerm rfl rfl ?_ fun w' hI => ?_
    · intro u hu
      have hu' : u ∈ ([.int .i64 k, .int .i64 cur, .string s, kvc] : List Value) := hu
      simp at hu'
      rcases hu' with rfl | rfl | rfl | rfl <;> first | rfl | exact hv1
    refine loadV_W hI 1 ag_iTerm rfl rfl ?_
    have hI : Inv w [] ([] ++ (rowG kvc t_iTerm 4 css :: blks Ls.flatten)) S w' := hI.sub (List.sublist_append_right [_, _, _] _)
    obtain ⟨L, hT, hI⟩ := Inv.rowTree hI hg
    exact ⟨_, _, _, rfl, hI, Ext.refl _ _ _, rfl, _, L, rfl, rfl, TrT.iff.2 ⟨kvc, by rw [shiftT, ← hcur]; rfl, by rw [shiftT]; exact h1, by rw [shiftT, ← hcur]; exact hci, by rw [shiftT]; exact hs, by rw [shiftT]; exact hT⟩⟩
theorem l15Fresh_calls {Nv : Nat} (hN : Nv ≤ 1000000) (m : Int) (hm0 : 0 ≤ m) (hm1 : m ≤ 1000000) {c0 : C} {S : Store} {cs : List Value} (h : RdC S cs c0) (hoh : okU Nv c0.head) (hob : ∀ t ∈ c0.body, okU Nv t) (hw : wC c0 ≤ 1048576) :
    Tri Tryz.prog n_s_l15Fresh [.agg cs.toArray, .int .i64 m] [] S (PostC S (shiftC m c0)) := by
  intro w hI
  obtain ⟨hd0, ks, rfl, h1, h2⟩ := h
  have h1' := h1
  obtain ⟨kv, rfl, g1, g2, g3, g4⟩ := RdT.iff.1 h1
  unfold wC at hw
  refine calls_s_l15Fresh ?_
  unfold sh_s_l15Fresh
  refine r_box hI fun b1 w' hI => ?_
  refine r_alloc hI zo_iClause fun b2 w' hI => ?_
  refine r_field fo_iClause_0 ?_
  refine r_loadLA hI 0 [.int .i64 c0.head.kind, .int .i64 c0.head.n, .string c0.head.name, kv] ag_iTerm rfl rfl sub4 ?_
  refine Run.call0 fn_s_l3Shift nm_s_l3Shift hI (l3Shift_calls hN m hm0 hm1 _ S _ h1' hoh (by omega)) fun v' I' S w' => ?_
  rintro ⟨rfl, cs1, N, rfl, rfl, hT1⟩ _ hI
  obtain ⟨hd, hhd⟩ : ∃ hd, hd = shiftT m c0.head := ⟨_, rfl⟩
  rw [← hhd] at hT1
  obtain ⟨kh, rfl, _⟩ := TrT.iff.1 hT1
  refine r_buildHead ?_
  refine r_alloc hI zo_iClause fun b3 w' hI => ?_
  have hI := hI.perm (M := .blk b1 _ :: .blk b2 _ :: .blk b3 _ :: blks N) (((List.perm_append_comm (l₁ := [_])).cons _).cons _)
  refine r_storeW hI 2 rfl ag_iClause rfl rfl ?_ fun w' hI => ?_
  · intro u hu
    have hu' : u ∈ ([.int .i64 hd.kind, .int .i64 hd.n, .string hd.name, kh, .slice none 0 0] : List Value) := hu
    simp at hu'
    have o1 : kh.oneCell' = true := hT1.one kh (by simp)
    rcases hu' with rfl | rfl | rfl | rfl | rfl <;> first | rfl | exact o1
  have hI := hI.rowNil t_iTerm 4
  have hI := hI.perm (M := .blk b1 (.cells #[.int .i64 c0.head.kind, .int .i64 c0.head.n, .string c0.head.name, kv, ks] t_iClause) :: .blk b2 (.cells #[.int .i64 0, .int .i64 0, .string ⟨#[]⟩, .slice none 0 0, .slice none 0 0] t_iClause) :: .blk b3 (.cells #[.int .i64 hd.kind, .int .i64 hd.n, .string hd.name, kh, .slice none 0 0] t_iClause) :: rowG (.slice none 0 0) t_iTerm 4 [] :: blks N) ((((List.perm_append_comm (l₁ := [_])).cons _).cons _).cons _)
  refine ⟨fun i w' => ∃ (j : Nat) (kvc : Value) (Ls : List Heaplet) (css : List (List Value)), j ≤ c0.body.length ∧ i = .int .i64 j ∧ Grown 4 TrT Ls css (shiftL m (c0.body.take j)) ∧
      Inv w [] (.blk b1 (.cells #[.int .i64 c0.head.kind, .int .i64 c0.head.n, .string c0.head.name, kv, ks] t_iClause) :: .blk b2 (.cells #[.int .i64 0, .int .i64 0, .string ⟨#[]⟩, .slice none 0 0, .slice none 0 0] t_iClause) :: .blk b3 (.cells #[.int .i64 hd.kind, .int .i64 hd.n, .string hd.name, kh, kvc] t_iClause) :: rowG kvc t_iTerm 4 css :: blks (N :: Ls).flatten) S w',
    fun i _ => c0.body.length - (intOf i).toNat, ⟨0, _, [], [], Nat.zero_le _, rfl, Grown.nil _ _, by simp only [List.flatten_cons, List.flatten_nil, List.append_nil]; exact hI⟩, ?_⟩
  intro t4 _ _ _ _ _ _ _ _ _ _ _ _ _ _ _ _ _ _ _ w'
  rintro ⟨j, kvc, Ls, css, hj, rfl, hg, hI⟩
  refine r_fieldL hI 0 rfl fo_iClause_1 sc_SiTerm rfl ?_
  refine r_lenSl h2 sl_SiTerm ?_
  refine r_lss ?_
  refine condP (fun hji => ?_) (fun hji => ?_)
  · have hj' : j < c0.body.length := by omega
    have hjl : (c0.body.take j).length = j := by simp; omega
    have hcl := hg.hc
    rw [shiftL_map, List.length_map] at hcl
    have hm := List.getElem_mem hj'
    have hwm := wL_mem hm
    obtain ⟨b, o, cap, c, E, fz, rfl, hS, hR⟩ := h2.at_ hj'
    refine ⟨fun D x30 x29 x28 x27 x26 x25 x24 x23 x22 x21 x20 x19 w_ => (D 0 = true → x19 = .pointer (some ⟨b3, 4, none⟩)) ∧ (D 1 = true → x20 = kvc) ∧ (D 2 = true → x21 = .pointer (some ⟨b1, 4, none⟩)) ∧ (D 3 = true → x22 = .slice (some ⟨b, o, none⟩) c0.body.length cap) ∧ (D 4 = true → x23 = .int .i64 j) ∧ (D 5 = true → x24 = .pointer (some ⟨b, o + j * 4, none⟩)) ∧ (D 6 = true → x25 = .agg (cellsAt c (o + j * 4) 4).toArray) ∧ (D 7 = true → x26 = .int .i64 m) ∧ (D 8 = true → True) ∧ (D 9 = true → True) ∧ (D 10 = true → True) ∧ (D 11 = true → x30 = .pointer (some ⟨b3, 4, none⟩)) ∧ (D 12 = true → True) ∧ ∃ M cs7 b8, (D 8 = true → x27 = .agg cs7.toArray ∧ TrT M cs7 (shiftT m c0.body[j])) ∧ (D 9 = true → x28 = .slice (some ⟨b8, 0, none⟩) 1 1) ∧ (D 9 = true → D 8 = true) ∧ (D 10 = true → D 9 = true) ∧ (D 12 = true → D 10 = true) ∧ (D 12 = true → D 1 = true) ∧ Inv w [] (cpItems (.blk b1 (.cells #[.int .i64 c0.head.kind, .int .i64 c0.head.n, .string c0.head.name, kv, .slice (some ⟨b, o, none⟩) c0.body.length cap] t_iClause)) (.blk b2 (.cells #[.int .i64 0, .int .i64 0, .string ⟨#[]⟩, .slice none 0 0, .slice none 0 0] t_iClause)) (.blk b3 (.cells #[.int .i64 hd.kind, .int .i64 hd.n, .string hd.name, kh, kvc] t_iClause)) (.blk b3 (.cells #[.int .i64 hd.kind, .int .i64 hd.n, .string hd.name, kh, x29] t_iClause)) (rowG kvc t_iTerm 4 css) (rowG x29 t_iTerm 4 (css ++ [cs7])) (blks (N :: Ls).flatten) M (.blk b8 (.cells cs7.toArray t_iTerm)) (D 8) (D 9) (D 10) (D 12)) S w_, ⟨fun h => Bool.noConfusion h, fun h => Bool.noConfusion h, fun h => Bool.noConfusion h, fun h => Bool.noConfusion h, fun h => Bool.noConfusion h, fun h => Bool.noConfusion h, fun h => Bool.noConfusion h, fun h => Bool.noConfusion h, fun h => Bool.noConfusion h, fun h => Bool.noConfusion h, fun h => Bool.noConfusion h, fun h => Bool.noConfusion h, fun h => Bool.noConfusion h, ⟨[], [], 0, fun h => Bool.noConfusion h, fun h => Bool.noConfusion h, fun h => Bool.noConfusion h, fun h => Bool.noConfusion h, fun h => Bool.noConfusion h, fun h => Bool.noConfusion h, by simpa [cpItems, blks] using hI.draw⟩⟩, ⟨?_, ?_, ?_, ?_, ?_, ?_, ?_, ?_, ?_, ?_, ?_, ?_, ?_, trivial⟩, ?_⟩
    · intro D hD_  x30 x29 x28 x27 x26 x25 x24 x23 x22 x21 x20 x19 w_
      rintro ⟨h0_, h1_, h2_, h3_, h4_, h5_, h6_, h7_, h8_, h9_, h10_, h11_, h12_, ⟨M, cs7, b8, e7, e8, k8, k9, k11, k1, hI⟩⟩
      refine r_field fo_iClause_1 ?_
      exact ⟨fun _ => rfl, h1_, h2_, h3_, h4_, h5_, h6_, h7_, h8_, h9_, h10_, h11_, h12_, ⟨M, cs7, b8, e7, e8, k8, k9, k11, k1, hI⟩⟩
    · intro D hD_ d0_0 x30 x29 x28 x27 x26 x25 x24 x23 x22 x21 x20 x19 w_
      rintro ⟨h0_, h1_, h2_, h3_, h4_, h5_, h6_, h7_, h8_, h9_, h10_, h11_, h12_, ⟨M, cs7, b8, e7, e8, k8, k9, k11, k1, hI⟩⟩
      obtain rfl := h0_ d0_0
      have f11 : D 12 = false := Bool.eq_false_iff.2 fun h => by rw [k1 h] at hD_; cases hD_
      refine r_loadL (b := b3) hI 2 (c := (#[.int .i64 hd.kind, .int .i64 hd.n, .string hd.name, kh, kvc])) sc_SiTerm (by rw [f11]; rfl) rfl ?_
      have k1 := fun (_ : setD D 1 12 = true) => (rfl : setD D 1 1 = true)
      exact ⟨h0_, fun _ => rfl, h2_, h3_, h4_, h5_, h6_, h7_, h8_, h9_, h10_, h11_, h12_, ⟨M, cs7, b8, e7, e8, k8, k9, k11, k1, hI⟩⟩
    · intro D hD_  x30 x29 x28 x27 x26 x25 x24 x23 x22 x21 x20 x19 w_
      rintro ⟨h0_, h1_, h2_, h3_, h4_, h5_, h6_, h7_, h8_, h9_, h10_, h11_, h12_, ⟨M, cs7, b8, e7, e8, k8, k9, k11, k1, hI⟩⟩
      refine r_field fo_iClause_1 ?_
      exact ⟨h0_, h1_, fun _ => rfl, h3_, h4_, h5_, h6_, h7_, h8_, h9_, h10_, h11_, h12_, ⟨M, cs7, b8, e7, e8, k8, k9, k11, k1, hI⟩⟩
    · intro D hD_ d2_0 x30 x29 x28 x27 x26 x25 x24 x23 x22 x21 x20 x19 w_
      rintro ⟨h0_, h1_, h2_, h3_, h4_, h5_, h6_, h7_, h8_, h9_, h10_, h11_, h12_, ⟨M, cs7, b8, e7, e8, k8, k9, k11, k1, hI⟩⟩
      obtain rfl := h2_ d2_0
      refine r_loadL hI 0 sc_SiTerm rfl rfl ?_
      exact ⟨h0_, h1_, h2_, fun _ => rfl, h4_, h5_, h6_, h7_, h8_, h9_, h10_, h11_, h12_, ⟨M, cs7, b8, e7, e8, k8, k9, k11, k1, hI⟩⟩
    · intro D hD_  x30 x29 x28 x27 x26 x25 x24 x23 x22 x21 x20 x19 w_
      rintro ⟨h0_, h1_, h2_, h3_, h4_, h5_, h6_, h7_, h8_, h9_, h10_, h11_, h12_, ⟨M, cs7, b8, e7, e8, k8, k9, k11, k1, hI⟩⟩
      exact ⟨h0_, h1_, h2_, h3_, fun _ => rfl, h5_, h6_, h7_, h8_, h9_, h10_, h11_, h12_, ⟨M, cs7, b8, e7, e8, k8, k9, k11, k1, hI⟩⟩
    · intro D hD_ d3_0 d4_1 x30 x29 x28 x27 x26 x25 x24 x23 x22 x21 x20 x19 w_
      rintro ⟨h0_, h1_, h2_, h3_, h4_, h5_, h6_, h7_, h8_, h9_, h10_, h11_, h12_, ⟨M, cs7, b8, e7, e8, k8, k9, k11, k1, hI⟩⟩
      obtain rfl := h3_ d3_0
      obtain rfl := h4_ d4_1
      refine r_indexAddr sl_SiTerm hj' ?_
      exact ⟨h0_, h1_, h2_, h3_, h4_, fun _ => rfl, h6_, h7_, h8_, h9_, h10_, h11_, h12_, ⟨M, cs7, b8, e7, e8, k8, k9, k11, k1, hI⟩⟩
    · intro D hD_ d5_0 x30 x29 x28 x27 x26 x25 x24 x23 x22 x21 x20 x19 w_
      rintro ⟨h0_, h1_, h2_, h3_, h4_, h5_, h6_, h7_, h8_, h9_, h10_, h11_, h12_, ⟨M, cs7, b8, e7, e8, k8, k9, k11, k1, hI⟩⟩
      obtain rfl := h5_ d5_0
      refine r_loadA ag_iTerm hR.length (fun j v hj => by rw [hI.cellS hS]; exact cellsAt_get rfl j v hj) ?_
      exact ⟨h0_, h1_, h2_, h3_, h4_, h5_, fun _ => rfl, h7_, h8_, h9_, h10_, h11_, h12_, ⟨M, cs7, b8, e7, e8, k8, k9, k11, k1, hI⟩⟩
    · intro D hD_  x30 x29 x28 x27 x26 x25 x24 x23 x22 x21 x20 x19 w_
      rintro ⟨h0_, h1_, h2_, h3_, h4_, h5_, h6_, h7_, h8_, h9_, h10_, h11_, h12_, ⟨M, cs7, b8, e7, e8, k8, k9, k11, k1, hI⟩⟩
      exact ⟨h0_, h1_, h2_, h3_, h4_, h5_, h6_, fun _ => rfl, h8_, h9_, h10_, h11_, h12_, ⟨M, cs7, b8, e7, e8, k8, k9, k11, k1, hI⟩⟩
    · intro D hD_ d6_0 d7_1 x30 x29 x28 x27 x26 x25 x24 x23 x22 x21 x20 x19 w_
      rintro ⟨h0_, h1_, h2_, h3_, h4_, h5_, h6_, h7_, h8_, h9_, h10_, h11_, h12_, ⟨M, cs7, b8, e7, e8, k8, k9, k11, k1, hI⟩⟩
      obtain rfl := h6_ d6_0
      obtain rfl := h7_ d7_1
      have f8 : D 9 = false := Bool.eq_false_iff.2 fun h => by rw [k8 h] at hD_; cases hD_
      have f9 : D 10 = false := Bool.eq_false_iff.2 fun h => by rw [k9 h] at f8; cases f8
      have f11 : D 12 = false := Bool.eq_false_iff.2 fun h => by rw [k11 h] at f9; cases f9
      rw [hD_, f8, f9, f11] at hI
      refine Run.call0 fn_s_l3Shift nm_s_l3Shift hI (l3Shift_calls hN m hm0 hm1 _ S _ hR (hob _ (List.getElem_mem hj')) (by omega)) fun v' I' S w_ => ?_
      rintro ⟨rfl, cs7, M, rfl, rfl, hT⟩ _ hI
      have e7 : setD D 8 8 = true → Value.agg cs7.toArray = Value.agg cs7.toArray ∧ TrT M cs7 (shiftT m c0.body[j]) := fun _ => ⟨rfl, hT⟩
      have k8 := fun (_ : setD D 8 9 = true) => (rfl : setD D 8 8 = true)
      have hI : Inv w [] (cpItems (.blk b1 (.cells #[.int .i64 c0.head.kind, .int .i64 c0.head.n, .string c0.head.name, kv, .slice (some ⟨b, o, none⟩) c0.body.length cap] t_iClause)) (.blk b2 (.cells #[.int .i64 0, .int .i64 0, .string ⟨#[]⟩, .slice none 0 0, .slice none 0 0] t_iClause)) (.blk b3 (.cells #[.int .i64 hd.kind, .int .i64 hd.n, .string hd.name, kh, kvc] t_iClause)) (.blk b3 (.cells #[.int .i64 hd.kind, .int .i64 hd.n, .string hd.name, kh, x29] t_iClause)) (rowG kvc t_iTerm 4 css) (rowG x29 t_iTerm 4 (css ++ [cs7])) (blks (N :: Ls).flatten) M (.blk b8 (.cells cs7.toArray t_iTerm)) true (D 9) (D 10) (D 12)) S w_ := by
        rw [f8, f9, f11]
        simpa [cpItems] using hI
      exact ⟨h0_, h1_, h2_, h3_, h4_, h5_, h6_, h7_, fun _ => by first | assumption | trivial, h9_, h10_, h11_, h12_, ⟨M, cs7, b8, e7, e8, k8, k9, k11, k1, hI⟩⟩
    · intro D hD_ d8_0 x30 x29 x28 x27 x26 x25 x24 x23 x22 x21 x20 x19 w_
      rintro ⟨h0_, h1_, h2_, h3_, h4_, h5_, h6_, h7_, h8_, h9_, h10_, h11_, h12_, ⟨M, cs7, b8, e7, e8, k8, k9, k11, k1, hI⟩⟩
      have g8_ := h8_ d8_0
      have f9 : D 10 = false := Bool.eq_false_iff.2 fun h => by rw [k9 h] at hD_; cases hD_
      have f11 : D 12 = false := Bool.eq_false_iff.2 fun h => by rw [k11 h] at f9; cases f9
      obtain ⟨q7, hT⟩ := e7 d8_0
      subst q7
      rw [d8_0, hD_, f9, f11] at hI
      refine r_slice1 hI mk_SiTerm (by simp [Value.cells, hT.length]) (by omega) (by omega) fun b8 w_ hI => ?_
      have e7 : setD D 9 8 = true → Value.agg cs7.toArray = Value.agg cs7.toArray ∧ TrT M cs7 (shiftT m c0.body[j]) := fun _ => ⟨rfl, hT⟩
      have e8 := fun (_ : setD D 9 9 = true) => (rfl : Value.slice (some ⟨b8, 0, none⟩) 1 1 = _)
      have k8 := fun (_ : setD D 9 9 = true) => d8_0
      have k9 := fun (_ : setD D 9 10 = true) => (rfl : setD D 9 9 = true)
      have hI : Inv w [] (cpItems (.blk b1 (.cells #[.int .i64 c0.head.kind, .int .i64 c0.head.n, .string c0.head.name, kv, .slice (some ⟨b, o, none⟩) c0.body.length cap] t_iClause)) (.blk b2 (.cells #[.int .i64 0, .int .i64 0, .string ⟨#[]⟩, .slice none 0 0, .slice none 0 0] t_iClause)) (.blk b3 (.cells #[.int .i64 hd.kind, .int .i64 hd.n, .string hd.name, kh, kvc] t_iClause)) (.blk b3 (.cells #[.int .i64 hd.kind, .int .i64 hd.n, .string hd.name, kh, x29] t_iClause)) (rowG kvc t_iTerm 4 css) (rowG x29 t_iTerm 4 (css ++ [cs7])) (blks (N :: Ls).flatten) M (.blk b8 (.cells cs7.toArray t_iTerm)) (D 8) true (D 10) (D 12)) S w_ := by
        rw [d8_0, f9, f11]
        simpa [cpItems, Value.cells] using hI
      exact ⟨h0_, h1_, h2_, h3_, h4_, h5_, h6_, h7_, h8_, fun _ => by first | assumption | trivial, h10_, h11_, h12_, ⟨M, cs7, b8, e7, e8, k8, k9, k11, k1, hI⟩⟩
    · intro D hD_ d1_0 d9_1 d8_2 x30 x29 x28 x27 x26 x25 x24 x23 x22 x21 x20 x19 w_
      rintro ⟨h0_, h1_, h2_, h3_, h4_, h5_, h6_, h7_, h8_, h9_, h10_, h11_, h12_, ⟨M, cs7, b8, e7, e8, k8, k9, k11, k1, hI⟩⟩
      obtain rfl := h1_ d1_0
      have g9_ := h9_ d9_1
      have f11 : D 12 = false := Bool.eq_false_iff.2 fun h => by rw [k11 h] at hD_; cases hD_
      have q8 := e8 d9_1
      subst q8
      obtain ⟨_, hT⟩ := e7 d8_2
      rw [d8_2, d9_1, hD_, f11] at hI
      have hblk : ((cpItems (.blk b1 (.cells #[.int .i64 c0.head.kind, .int .i64 c0.head.n, .string c0.head.name, kv, .slice (some ⟨b, o, none⟩) c0.body.length cap] t_iClause)) (.blk b2 (.cells #[.int .i64 0, .int .i64 0, .string ⟨#[]⟩, .slice none 0 0, .slice none 0 0] t_iClause)) (.blk b3 (.cells #[.int .i64 hd.kind, .int .i64 hd.n, .string hd.name, kh, x20] t_iClause)) (.blk b3 (.cells #[.int .i64 hd.kind, .int .i64 hd.n, .string hd.name, kh, x29] t_iClause)) (rowG x20 t_iTerm 4 css) (rowG x29 t_iTerm 4 (css ++ [cs7])) (blks (N :: Ls).flatten) M (.blk b8 (.cells cs7.toArray t_iTerm)) true true false false))[4 + (blks (N :: Ls).flatten).length + (blks M).length]? = some (.blk b8 (.cells cs7.toArray t_iTerm)) := by
        have e4 : 4 + (blks (N :: Ls).flatten).length + (blks M).length = ((blks (N :: Ls).flatten).length + (blks M).length) + 1 + 1 + 1 + 1 := by omega
        rw [e4]
        simp only [cpItems, List.getElem?_cons_succ]
        rw [List.getElem?_append_right (by omega), Nat.add_sub_cancel_left, List.getElem?_append_right (Nat.le_refl _), Nat.sub_self]; rfl
      refine r_append hI 3 cs7 mk_SiTerm (by omega) rfl (by rw [hT.length]) (m := 1) (o := 0) ?_ hT.one (by omega) (by omega) fun v' w_ hI => ?_
      · intro i u hi
        rw [hI.cellL hblk, Nat.zero_add]
        simpa using hi
      rw [rowG_snoc] at hI
      have k9 := fun (_ : setD D 10 10 = true) => d9_1
      have k11 := fun (_ : setD D 10 12 = true) => (rfl : setD D 10 10 = true)
      have hI : Inv w [] (cpItems (.blk b1 (.cells #[.int .i64 c0.head.kind, .int .i64 c0.head.n, .string c0.head.name, kv, .slice (some ⟨b, o, none⟩) c0.body.length cap] t_iClause)) (.blk b2 (.cells #[.int .i64 0, .int .i64 0, .string ⟨#[]⟩, .slice none 0 0, .slice none 0 0] t_iClause)) (.blk b3 (.cells #[.int .i64 hd.kind, .int .i64 hd.n, .string hd.name, kh, x20] t_iClause)) (.blk b3 (.cells #[.int .i64 hd.kind, .int .i64 hd.n, .string hd.name, kh, v'] t_iClause)) (rowG x20 t_iTerm 4 css) (rowG v' t_iTerm 4 (css ++ [cs7])) (blks (N :: Ls).flatten) M (.blk b8 (.cells cs7.toArray t_iTerm)) (D 8) (D 9) true (D 12)) S w_ := by
        rw [d8_2, d9_1, f11]
        exact hI
      exact ⟨h0_, h1_, h2_, h3_, h4_, h5_, h6_, h7_, h8_, h9_, fun _ => by first | assumption | trivial, h11_, h12_, ⟨M, cs7, b8, e7, e8, k8, k9, k11, k1, hI⟩⟩
    · intro D hD_ d0_0 d1_1 d2_2 d3_3 d4_4 d5_5 d6_6 d7_7 d8_8 d9_9 d10_10 x30 x29 x28 x27 x26 x25 x24 x23 x22 x21 x20 x19 w_
      rintro ⟨h0_, h1_, h2_, h3_, h4_, h5_, h6_, h7_, h8_, h9_, h10_, h11_, h12_, ⟨M, cs7, b8, e7, e8, k8, k9, k11, k1, hI⟩⟩
      refine r_field fo_iClause_1 ?_
      exact ⟨h0_, h1_, h2_, h3_, h4_, h5_, h6_, h7_, h8_, h9_, h10_, fun _ => rfl, h12_, ⟨M, cs7, b8, e7, e8, k8, k9, k11, k1, hI⟩⟩
    · intro D hD_ d11_0 d10_1 d10_2 d0_3 d1_4 d2_5 d3_6 d4_7 d5_8 d6_9 d7_10 d8_11 d9_12 d10_13 x30 x29 x28 x27 x26 x25 x24 x23 x22 x21 x20 x19 w_
      rintro ⟨h0_, h1_, h2_, h3_, h4_, h5_, h6_, h7_, h8_, h9_, h10_, h11_, h12_, ⟨M, cs7, b8, e7, e8, k8, k9, k11, k1, hI⟩⟩
      obtain rfl := h11_ d11_0
      have g10_ := h10_ d10_1
      rw [d8_11, d9_12, d10_1, hD_] at hI
      obtain ⟨va, vn, vc, hv9⟩ := Inv.rowSlice hI 3 rfl
      refine r_store hI 2 (n := 1) (by rw [hv9]; rfl) (by decide +kernel) rfl (by simp) (by rw [hv9]; simp [Value.cells, Value.oneCell']) fun w_ hI => ?_
      have hcl9 : Value.cells x29 = #[x29] := by rw [hv9]; rfl
      rw [hcl9] at hI
      have k1 := fun (_ : setD D 12 12 = true) => d1_4
      have k11 := fun (_ : setD D 12 12 = true) => d10_1
      have hI : Inv w [] (cpItems (.blk b1 (.cells #[.int .i64 c0.head.kind, .int .i64 c0.head.n, .string c0.head.name, kv, .slice (some ⟨b, o, none⟩) c0.body.length cap] t_iClause)) (.blk b2 (.cells #[.int .i64 0, .int .i64 0, .string ⟨#[]⟩, .slice none 0 0, .slice none 0 0] t_iClause)) (.blk b3 (.cells #[.int .i64 hd.kind, .int .i64 hd.n, .string hd.name, kh, kvc] t_iClause)) (.blk b3 (.cells #[.int .i64 hd.kind, .int .i64 hd.n, .string hd.name, kh, x29] t_iClause)) (rowG kvc t_iTerm 4 css) (rowG x29 t_iTerm 4 (css ++ [cs7])) (blks (N :: Ls).flatten) M (.blk b8 (.cells cs7.toArray t_iTerm)) (D 8) (D 9) (D 10) true) S w_ := by
        rw [d8_11, d9_12, d10_1]
        exact hI
      exact ⟨h0_, h1_, h2_, h3_, h4_, h5_, h6_, h7_, h8_, h9_, h10_, h11_, fun _ => trivial, ⟨M, cs7, b8, e7, e8, k8, k9, k11, k1, hI⟩⟩
    intro D d12_ d11_ d10_ d9_ d8_ d7_ d6_ d5_ d4_ d3_ d2_ d1_ d0_ x30 x29 x28 x27 x26 x25 x24 x23 x22 x21 x20 x19 w_
    rintro ⟨h0_, h1_, h2_, h3_, h4_, h5_, h6_, h7_, h8_, h9_, h10_, h11_, h12_, ⟨M, cs7, b8, e7, e8, k8, k9, k11, k1, hI⟩⟩
    obtain rfl := h11_ d11_
    have g10_ := h10_ d10_
    have g9_ := h9_ d9_
    have g8_ := h8_ d8_
    obtain rfl := h7_ d7_
    obtain rfl := h6_ d6_
    obtain rfl := h5_ d5_
    obtain rfl := h4_ d4_
    obtain rfl := h3_ d3_
    obtain rfl := h2_ d2_
    obtain rfl := h1_ d1_
    obtain rfl := h0_ d0_
    clear h0_ h1_ h2_ h3_ h4_ h5_ h6_ h7_ h8_ h9_ h10_ h11_ h12_
    obtain ⟨_, hT⟩ := e7 d8_
    rw [d8_, d9_, d10_, d12_] at hI
    refine r_add (by omega) ?_
    refine ⟨⟨j + 1, x29, Ls ++ [M], css ++ [cs7], hj', rfl, ?_, ?_⟩, by simp [intOf]; omega⟩
    · rw [shiftL_take m c0.body j hj']
      exact hg.snoc hT hT.length
    · rw [← List.cons_append, List.flatten_append, blks_append]
      simp only [List.flatten_cons, List.flatten_nil, List.append_nil]
      refine hI.sub ?_
      simp only [cpItems, List.flatten_cons]
      rw [← List.append_assoc]
      exact (((List.sublist_append_left _ _).cons_cons _).cons_cons _).cons_cons _ |>.cons_cons _
  · have : j = c0.body.length := by omega
    subst this
    rw [List.take_length] at hg
    obtain ⟨va, vn, vc, hvk⟩ := hI.rowSlice 3 rfl
    have hv1 : kvc.oneCell' = true := by rw [hvk]; rfl
    have o1 : kh.oneCell' = true := hT1.one kh (by simp)
    refine r_loadW hI 2 ag_iClause rfl rfl ?_
    refine r_storeW hI 1 rfl ag_iClause rfl rfl ?_ fun w' hI => ?_
    · intro u hu
      have hu' : u ∈ ([.int .i64 hd.kind, .int .i64 hd.n, .string hd.name, kh, kvc] : List Value) := hu
      simp at hu'
      rcases hu' with rfl | rfl | rfl | rfl | rfl <;> first | rfl | exact o1 | exact hv1
    refine loadV_W hI 1 ag_iClause rfl rfl ?_
    have hI : Inv w [] (rowG kvc t_iTerm 4 css :: blks (N :: Ls).flatten) S w' := hI.sub (List.sublist_append_right [_, _, _] _)
    rw [List.flatten_cons, blks_append] at hI
    have hI := hI.perm (M := blks N ++ (rowG kvc t_iTerm 4 css :: blks Ls.flatten)) (List.perm_middle)
    obtain ⟨L, hT, hI⟩ := Inv.rowTree hI hg
    rw [hhd] at hT1
    exact ⟨_, _, _, rfl, hI, Ext.refl _ _ _, rfl, _, N ++ L, rfl, by rw [blks_append], _, kvc, N, L, by rw [hhd]; rfl, rfl, hT1, hT⟩
end

end Go.Proofs.YtaaihodhhacapaaGreat

/- Resolvents: the plain form. -/
namespace Go.Proofs.YtaaihodhhacapaaGreat
open Go Go.RowKit
theorem nameB_size' {s : ByteArray} (h : nameB s = true) : s.size ≤ 6 := by
  rw [nameB, Bool.or_eq_true] at h
  rcases h with h | h
  · rw [wordB] at h
    simp only [Bool.and_eq_true, decide_eq_true_eq] at h
    exact h.2.2
  · simp only [List.any_eq_true, decide_eq_true_eq] at h
    obtain ⟨x, hx, rfl⟩ := h
    have : ∀ y ∈ signs, y.size ≤ 6 := by decide +kernel
    exact this x hx
theorem ownB_size' {t : T} (h : ownB t = true) : t.name.size ≤ 6 := by
  unfold ownB at h
  have he : emptyB.size = 0 := by decide +kernel
  by_cases e1 : t.kind = 1
  · rw [if_pos e1] at h
    simp only [Bool.and_eq_true, decide_eq_true_eq] at h
    rw [h.2.2.1]; omega
  · rw [if_neg e1] at h
    by_cases e2 : t.kind = 2
    · rw [if_pos e2] at h
      simp only [Bool.and_eq_true, decide_eq_true_eq] at h
      rw [h.2.2.1]; omega
    · rw [if_neg e2] at h
      by_cases e3 : t.kind = 3
      · rw [if_pos e3] at h
        simp only [Bool.and_eq_true, decide_eq_true_eq] at h
        exact nameB_size' h.2.1
      · rw [if_neg e3] at h
        cases h
mutual
theorem shape_okU : ∀ (t : T) (d : Int), shapeT t d = true → okU 26 t
  | .mk k n s ks, d, h => by
    rw [shapeT] at h
    split at h
    · cases h
    · rw [Bool.and_eq_true] at h
      have h1 := ownB_v h.1
      have h2 := fun hk => ownB_var h.1 hk
      have h3 := ownB_size' h.1
      rw [okU]
      refine ⟨h1.2, fun hk => ?_, shape_okUL ks _ h.2, h3⟩
      have h4 := h1.1 hk
      have h5 := h2 hk
      simp only [T.n] at h4
      simp only [T.name, T.kids] at h5
      exact ⟨h4.1, by omega, h5.1, List.eq_nil_of_length_eq_zero h5.2⟩
theorem shape_okUL : ∀ (ts : List T) (d : Int), shapeL ts d = true → okUL 26 ts
  | [], _, _ => by rw [okUL]; trivial
  | t :: ts, d, h => by
    rw [shapeL, Bool.and_eq_true] at h
    rw [okUL]
    exact ⟨shape_okU t d h.1, shape_okUL ts d h.2⟩
end
theorem valid_okU {t : T} (h : validB t = true) : okU 26 t := shape_okU t 30 (valid_shape h)
theorem clause_okU {c : C} (h : clauseB c = true) : okU 26 c.head ∧ (∀ t ∈ c.body, okU 26 t) ∧ c.body.length ≤ 6 := by
  rw [clauseB] at h
  simp only [Bool.and_eq_true, List.all_eq_true, decide_eq_true_eq] at h
  refine ⟨valid_okU h.2.2.1, fun t ht => ?_, h.1⟩
  have := h.2.1 t ht
  rw [goalB, Bool.and_eq_true] at this
  exact valid_okU this.1
mutual
theorem okU_le {N M : Nat} (h : N ≤ M) : ∀ t : T, okU N t → okU M t
  | .mk k n s ks, ht => by
    rw [okU] at ht ⊢
    refine ⟨ht.1, fun hk => ?_, okUL_le h ks ht.2.2.1, ht.2.2.2⟩
    have := ht.2.1 hk
    exact ⟨this.1, by omega, this.2.2⟩
theorem okUL_le {N M : Nat} (h : N ≤ M) : ∀ ts : List T, okUL N ts → okUL M ts
  | [], _ => by rw [okUL]; trivial
  | t :: ts, ht => by
    rw [okUL] at ht ⊢
    exact ⟨okU_le h t ht.1, okUL_le h ts ht.2⟩
end
mutual
theorem okU_shift {N : Nat} (m : Nat) : ∀ t : T, okU N t → okU (N + m) (shiftT m t)
  | .mk k n s ks, ht => by
    rw [okU] at ht
    rw [shiftT, okU]
    refine ⟨ht.1, fun hk => ?_, okUL_shift m ks ht.2.2.1, ht.2.2.2⟩
    have := ht.2.1 hk
    rw [if_pos hk]
    refine ⟨by omega, by omega, this.2.2.1, ?_⟩
    rw [this.2.2.2, shiftL]
theorem okUL_shift {N : Nat} (m : Nat) : ∀ ts : List T, okUL N ts → okUL (N + m) (shiftL m ts)
  | [], _ => by rw [shiftL, okUL]; trivial
  | t :: ts, ht => by
    rw [okUL] at ht
    rw [shiftL, okUL]
    exact ⟨okU_shift m t ht.1, okUL_shift m ts ht.2⟩
end
mutual
theorem wT_shift (m : Int) : ∀ t : T, wT (shiftT m t) = wT t
  | .mk k n s ks => by
    rw [shiftT, wT, wT, wL_shift m ks]
    rw [shiftL_map, List.length_map]
theorem wL_shift (m : Int) : ∀ ts : List T, wL (shiftL m ts) = wL ts
  | [] => rfl
  | t :: ts => by rw [shiftL, wL, wL, wT_shift m t, wL_shift m ts]
end
/- weights by nodes -/
mutual
theorem wT_cnt {N : Nat} : ∀ t : T, okU N t → (wT t : Int) + 1 ≤ 7 * cntT t
  | .mk k n s ks, h => by
    rw [okU] at h
    have h1 := wL_cnt ks h.2.2.1
    rw [wT, cntT_mk]
    omega
theorem wL_cnt {N : Nat} : ∀ ts : List T, okUL N ts → (wL ts : Int) + ts.length ≤ 7 * cntL ts
  | [], _ => by simp [wL, cntL]
  | t :: ts, h => by
    rw [okUL] at h
    have h1 := wT_cnt t h.1
    have h2 := wL_cnt ts h.2
    rw [wL, cntL, List.length_cons]
    omega
end
theorem okU_walked {N : Nat} {st : Known} {t v : T} (h : Good N st) (hw : WalkR st t v) (ht : okU N t) : okU N v := by
  induction hw with
  | stop => exact ht
  | step hl _ ih => exact ih (h.look_ok hl).1
theorem res_okU {N : Nat} {st : Known} (hg : Good N st) {j : RJob} (hr : Res st j) : match j with
    | .one t u => okU N t → okU N u
    | .list ts us => okUL N ts → okUL N us ∧ us.length = ts.length := by
  induction hr with
  | one hw hl ih =>
    rename_i t v us
    intro ho
    have hv := okU_walked hg hw ho
    obtain ⟨h1, h2⟩ := ih hv.kids
    obtain ⟨k, n, s, ks⟩ := v
    have hv2 := hv
    rw [okU] at hv2
    show okU N (.mk k n s us)
    rw [okU]
    refine ⟨hv2.1, fun hk => ?_, h1, hv2.2.2.2⟩
    have h3 := hv2.2.1 hk
    refine ⟨h3.1, h3.2.1, h3.2.2.1, ?_⟩
    simp only [T.kids] at h2
    exact List.eq_nil_of_length_eq_zero (by rw [h2, h3.2.2.2]; rfl)
  | nil => exact fun h => ⟨h, rfl⟩
  | cons _ _ ih1 ih2 =>
    intro ho
    rw [okUL] at ho
    obtain ⟨h1, h2⟩ := ih2 ho.2
    rw [okUL]
    exact ⟨⟨ih1 ho.1, h1⟩, by simp [h2]⟩
theorem res_list {N : Nat} {st : Known} (h : Good N st) : ∀ ts : List T, okUL N ts → ∃ us, Res st (.list ts us)
  | [], _ => ⟨[], .nil⟩
  | t :: ts, ho => by
    rw [okUL] at ho
    obtain ⟨u, hu⟩ := res_ex h t ho.1
    obtain ⟨us, hus⟩ := res_list h ts ho.2
    exact ⟨u :: us, .cons hu hus⟩
theorem res_at {st : Known} : ∀ {ts us : List T}, Res st (.list ts us) → ∀ i (h : i < ts.length) (h' : i < us.length), Res st (.one ts[i] us[i])
  | _, _, .cons hu _, 0, _, _ => hu
  | _, _, .cons _ hus, i + 1, h, h' => res_at hus i (by simpa using h) (by simpa using h')
/- numbered anew -/
mutual
theorem svars_eqU {N : Nat} : ∀ (t : T) (l : List Int), okU N t → svarsT t l = varsT t l
  | .mk k n s ks, l, h => by
    rw [okU] at h
    rw [svarsT, varsT]
    split
    · rename_i hk
      rw [(h.2.1 hk).2.2.2, varsL]
    · exact svarsL_eqU ks l h.2.2.1
theorem svarsL_eqU {N : Nat} : ∀ (ts : List T) (l : List Int), okUL N ts → svarsL ts l = varsL ts l
  | [], l, _ => by rw [svarsL, varsL]
  | t :: ts, l, h => by
    rw [okUL] at h
    rw [svarsL, varsL, svars_eqU t l h.1, svarsL_eqU ts _ h.2]
end
mutual
theorem ren_eqU {N : Nat} (vs : List Int) (hd : vs.Nodup) : ∀ t : T, okU N t → inT vs t → irenT vs t = srenT vs t
  | .mk k n s ks, h, hi => by
    rw [okU] at h
    rw [inT] at hi
    rw [irenT, srenT]
    by_cases hk : k = 1
    · have h1 := h.2.1 hk
      rw [if_pos hk, if_pos hk, lastI_idx vs n n 0 (hi.1 hk) hd, h1.2.2.2, srenL, h1.2.2.1, hk]
      rfl
    · rw [if_neg hk, if_neg hk, renL_eqU vs hd ks h.2.2.1 hi.2]
theorem renL_eqU {N : Nat} (vs : List Int) (hd : vs.Nodup) : ∀ ts : List T, okUL N ts → inL vs ts → irenL vs ts = srenL vs ts
  | [], _, _ => rfl
  | t :: ts, h, hi => by
    rw [okUL] at h
    rw [inL] at hi
    rw [irenL, srenL, ren_eqU vs hd t h.1 hi.1, renL_eqU vs hd ts h.2 hi.2]
end
theorem num_eqU {N : Nat} {c : C} (hh : okU N c.head) (hb : okUL N c.body) : varsL (c.head :: c.body) [] = cvars c ∧ irenT (cvars c) c.head = srenT (cvars c) c.head ∧ irenL (cvars c) c.body = srenL (cvars c) c.body := by
  have hl : okUL N (c.head :: c.body) := by rw [okUL]; exact ⟨hh, hb⟩
  have hv : varsL (c.head :: c.body) [] = cvars c := by rw [cvars, svarsL_eqU _ _ hl]
  have hd : (cvars c).Nodup := by rw [← hv]; exact varsL_nodup _ _ List.nodup_nil
  have hi : inL (cvars c) (c.head :: c.body) := by rw [← hv]; exact varsL_in _ _
  rw [inL] at hi
  exact ⟨hv, ren_eqU _ hd _ hh hi.1, renL_eqU _ hd _ hb hi.2⟩
/- the resolvent -/
def stU : Known := List.replicate 52 none
theorem unbAll : ∀ n : Nat, unb (List.replicate n none) = n
  | 0 => rfl
  | n + 1 => by rw [List.replicate_succ, unb, unbAll n]
theorem stU_good : Good 52 stU := ⟨by simp [stU], fun t ht => by simp [stU] at ht, fun t ht => by simp [stU] at ht, fun n => n, fun n u hu => by
  have := List.mem_of_getElem? hu
  simp [stU] at this⟩
def rlist (c d : C) : List T := c.head :: (shiftL 26 d.body ++ c.body.drop 1)
def ofL : List T → C
  | [] => ⟨⟨0, 0, ⟨#[]⟩, []⟩, []⟩
  | t :: ts => ⟨t, ts⟩
def RO (c d : C) (o : Option (Option C)) : Prop := ∃ r st, Uni stU (.one (c.body.headD ⟨0, 0, ⟨#[]⟩, []⟩) (shiftT 26 d.head)) r st ∧
  ((r = false ∧ o = none) ∨ (r = true ∧ ∃ us, Res st (.list (rlist c d) us) ∧ ((us.all smallB = false ∧ o = some none) ∨ (us.all smallB = true ∧ o = some (some (numC (cvars (ofL us)) (ofL us)))))))
theorem okUL_app {N : Nat} {ts us : List T} (h : okUL N ts) (h' : okUL N us) : okUL N (ts ++ us) :=
  okUL_of fun t ht => by
    rcases List.mem_append.1 ht with ht | ht
    · exact okUL_mem h t ht
    · exact okUL_mem h' t ht
theorem rlist_ok {c d : C} (hc : clauseB c = true) (hd : clauseB d = true) : okUL 52 (rlist c d) := by
  obtain ⟨c1, c2, _⟩ := clause_okU hc
  obtain ⟨d1, d2, _⟩ := clause_okU hd
  rw [rlist, okUL]
  exact ⟨okU_le (by decide) _ c1, okUL_app (okUL_shift 26 _ (okUL_of d2)) (okUL_of fun t ht => okU_le (by decide) _ (c2 t (List.mem_of_mem_drop ht)))⟩
theorem first_okJ {c d : C} (hc : clauseB c = true) (hd : clauseB d = true) (hwc : wC c ≤ 1048576) (hwd : wC d ≤ 1048576) (hb : c.body ≠ []) : okJ 52 (.one (c.body.headD ⟨0, 0, ⟨#[]⟩, []⟩) (shiftT 26 d.head)) := by
  obtain ⟨c1, c2, _⟩ := clause_okU hc
  obtain ⟨d1, d2, _⟩ := clause_okU hd
  unfold wC at hwc hwd
  cases hcb : c.body with
  | nil => exact absurd hcb hb
  | cons t ts =>
    rw [List.headD_cons]
    have hm : t ∈ c.body := by rw [hcb]; exact List.mem_cons_self ..
    have := wL_mem' hm
    exact ⟨⟨okU_le (by decide) _ (c2 t hm), by omega⟩, ⟨okU_shift 26 _ d1, by rw [wT_shift]; omega⟩⟩
theorem RO.ex {c d : C} (hc : clauseB c = true) (hd : clauseB d = true) (hwc : wC c ≤ 1048576) (hwd : wC d ≤ 1048576) (hb : c.body ≠ []) : ∃ o, RO c d o := by
  have hj := first_okJ hc hd hwc hwd hb
  obtain ⟨r, st, hu⟩ := uni_ex (unb stU) stU stU_good (Nat.le_refl _) _ hj
  cases r with
  | false => exact ⟨none, false, st, hu, .inl ⟨rfl, rfl⟩⟩
  | true =>
    obtain ⟨us, hus⟩ := res_list (hu.good stU_good hj).1 (rlist c d) (rlist_ok hc hd)
    cases hs : us.all smallB with
    | false => exact ⟨some none, true, st, hu, .inr ⟨rfl, us, hus, .inl ⟨hs, rfl⟩⟩⟩
    | true => exact ⟨_, true, st, hu, .inr ⟨rfl, us, hus, .inr ⟨hs, rfl⟩⟩⟩
/- small terms have small weights -/
theorem small_w {N : Nat} {u : T} (h : smallB u = true) (ho : okU N u) : wT u ≤ 840 := by
  rw [smallB, Bool.and_eq_true, decide_eq_true_eq] at h
  have := wT_cnt u ho
  omega
theorem smalls_w {N : Nat} : ∀ {us : List T}, us.all smallB = true → okUL N us → wL us ≤ us.length * 840
  | [], _, _ => by simp [wL]
  | u :: us, h, ho => by
    rw [List.all_cons, Bool.and_eq_true] at h
    rw [okUL] at ho
    have h1 := small_w h.1 ho.1
    have h2 := smalls_w h.2 ho.2
    rw [wL, List.length_cons, Nat.succ_mul]
    omega
theorem rlist_len {c d : C} (hc : clauseB c = true) (hd : clauseB d = true) : (rlist c d).length ≤ 13 := by
  obtain ⟨_, _, c3⟩ := clause_okU hc
  obtain ⟨_, _, d3⟩ := clause_okU hd
  rw [rlist, List.length_cons, List.length_append, shiftL_map, List.length_map, List.length_drop]
  omega

end Go.Proofs.YtaaihodhhacapaaGreat

/- Matching with a map: impl.instance. -/
namespace Go.Proofs.YtaaihodhhacapaaGreat
open Go Go.RowKit

/- the map of impl.instance -/
def KnownM (S : Store) (es : Array MapEntry) (st : Known) : Prop :=
  (∀ e ∈ es.toList, ∃ (n : Nat) (t : T) (cs : List Value), e.key = .int .i64 n ∧ e.val = .agg cs.toArray ∧ RdT S cs t ∧ st[n]? = some (some t)) ∧ (∀ (n : Nat) (t : T), st[n]? = some (some t) → ∃ e ∈ es.toList, e.key = .int .i64 n)
theorem KnownM.find {S : Store} {es : Array MapEntry} {st : Known} (h : KnownM S es st) (n : Nat) :
    (∃ j v t cs, Instr.findNow (.int .i64) (.int .i64 n) es.toList 0 = some (some (j, v)) ∧ v = .agg cs.toArray ∧ RdT S cs t ∧ st[n]? = some (some t)) ∨
    ((∀ t, st[n]? ≠ some (some t)) ∧ Instr.findNow (.int .i64) (.int .i64 n) es.toList 0 = some none) := by
  rcases findNow_int (n := n) es.toList 0 (fun e he => by obtain ⟨m, _, _, hk, _⟩ := h.1 e he; exact ⟨m, hk⟩) with ⟨j, e, he, hk, hf⟩ | ⟨hk, hf⟩
  · obtain ⟨m, t, cs, hk2, hv, hR, hs⟩ := h.1 e he
    rw [hk] at hk2
    simp only [Value.int.injEq, true_and] at hk2
    have : n = m := by omega
    subst this
    exact .inl ⟨j, e.val, t, cs, hf, hv, hR, hs⟩
  · refine .inr ⟨fun t ht => ?_, hf⟩
    obtain ⟨e, he, hk2⟩ := h.2 n t ht
    exact hk e he hk2
theorem KnownM.push {S : Store} {es : Array MapEntry} {st : Known} (h : KnownM S es st) {n : Nat} (hn : n < st.length) (hno : ∀ t, st[n]? ≠ some (some t)) {cs : List Value} {u : T} (hu : RdT S cs u) (ck : Nat) :
    KnownM S (es.push { key := .int .i64 n, val := .agg cs.toArray, born := ck }) (st.set n (some u)) := by
  refine ⟨fun e he => ?_, fun m t ht => ?_⟩
  · rw [Array.toList_push] at he
    rcases List.mem_append.1 he with he | he
    · obtain ⟨m, t, cs', hk, hv, hR, hs⟩ := h.1 e he
      refine ⟨m, t, cs', hk, hv, hR, ?_⟩
      have : n ≠ m := fun e => hno t (by rw [e]; exact hs)
      rw [List.getElem?_set_ne this]
      exact hs
    · simp at he
      subst he
      exact ⟨n, u, cs, rfl, rfl, hu, by rw [List.getElem?_set_self hn]⟩
  · rw [Array.toList_push]
    by_cases e : n = m
    · exact ⟨_, List.mem_append_right _ (List.mem_singleton.2 rfl), by rw [e]⟩
    · rw [List.getElem?_set_ne e] at ht
      obtain ⟨x, hx, hk⟩ := h.2 m t ht
      exact ⟨x, List.mem_append_left _ hx, hk⟩
section
attribute [local irreducible] Run CondV GuardV LoadV
end

end Go.Proofs.YtaaihodhhacapaaGreat

/- SubsumedClause: both sides. -/
namespace Go.Proofs.YtaaihodhhacapaaGreat
open Go Go.RowKit

def st0 : Known := List.replicate 26 none
theorem KnownM.empty (S : Store) : KnownM S #[] st0 := ⟨by simp, fun n t ht => by
  rw [st0, List.getElem?_replicate] at ht
  split at ht <;> cases ht⟩
section
variable {P : Program} {w w0 : World} {X : List Nat} {L : List Item} {S : Store} {K : Value → World → Prop}
attribute [local irreducible] Run CondV GuardV LoadV
theorem r_makeSliceZ (h : Inv w0 X L S w) {T ty e : TypeId} {k by_ n : Nat} {z : Value} (hT : mkOf P T = some (e, k, by_, z)) (hn : n ≤ 4294967296) (hby : by_ ≤ 65536) (hn0 : n * k ≠ 0)
    (hk : ∀ b w', Inv w0 X (L ++ [.blk b (.cells ((Array.range (n * k)).map (z.cells[· % z.cells.size]!)) e)]) S w' → K (.slice (some ⟨b, 0, none⟩) n n) w') :
    Run P (sOp (.makeSlice T (.const (.int .i64 n)) (.const (.int .i64 n))) ty) w K := by
  obtain ⟨hu, i, hi, hz, hs, hb, hzs⟩ := mkOf_some hT
  have hw : IntKind.i64.wrap (n : Int) = n := IntWalk.i64_in _ (by omega)
  have hle : by_ * n ≤ 2 ^ 48 := Nat.le_trans (Nat.mul_le_mul hby hn) (by decide)
  have h1 : ¬ ((n : Int) < 0) := by omega
  have h2 : ¬ (281474976710656 < (i.bytes : Int) * (n : Int)) := by
    rw [hb]
    have : ((by_ * n : Nat) : Int) ≤ ((2 ^ 48 : Nat) : Int) := by exact_mod_cast hle
    have e : (((2 ^ 48 : Nat)) : Int) = 281474976710656 := by decide
    rw [e, Int.natCast_mul] at this
    omega
  refine Run.of (v := .slice (some ⟨w.heap.size, 0, none⟩) n n) (w' := { w with heap := w.heap.push (.cells ((Array.range (n * k)).map (z.cells[· % z.cells.size]!)) e) }) ?_ (hk _ _ (h.alloc _))
  simp [sOp, execOp, ev0, evE, Instr.makeSlice, run_underlying hu, asInt, asIntOf, typeInfo, hi, hw, h1, h2, sizeOf, hs, newRow, newObj, Sem.run, hn0, zeroValue, hz]
end
section
attribute [local irreducible] Run CondV GuardV LoadV
end

end Go.Proofs.YtaaihodhhacapaaGreat

/- slices.Clone and slices.DeleteFunc of terms. -/
namespace Go.Proofs.YtaaihodhhacapaaGreat
open Go Go.RowKit

section
variable {P : Program} {w w0 : World} {X : List Nat} {L : List Item} {S : Store} {K : Value → World → Prop}
attribute [local irreducible] Run CondV GuardV LoadV
theorem Run.callVPure {f : FuncId} {fn : Func} {cap args : List Value} {r : Value} (hf : P.funcs[f]? = some fn) (hn : (fn.name == "runtime.NumGoroutine" || fn.body.isNone) = false) (h : Inv w0 X L S w) (hc : Pure P f (args ++ cap) S r)
    (hk : ∀ w', Inv w0 X L S w' → K r w') : Run P (sCall (fv f cap) args) w K := by
  refine Run.callV (A := L) (I := []) hf hn (by simpa using h) (Post := fun v I' S' => v = r ∧ I' = [] ∧ S' = S) ?_ fun v' I' S' w' => ?_
  · intro w1 hI
    exact (hc w1 hI).mono fun e w' ⟨he, hI⟩ => ⟨_, _, _, he, hI, Ext.refl _ _ _, rfl, rfl, rfl⟩
  · rintro ⟨rfl, rfl, rfl⟩ _ hI
    exact hk _ (by simpa using hI)
end
section
attribute [local irreducible] Run CondV GuardV LoadV
end

end Go.Proofs.YtaaihodhhacapaaGreat

/- impl.RenumberClause. -/
namespace Go.Proofs.YtaaihodhhacapaaGreat
open Go Go.RowKit
section
variable {P : Program} {w : World} {K : Value → World → Prop}
attribute [local irreducible] Run
theorem r_slClip {T ty e : TypeId} {k h m len cap : Nat} {a : Option Addr} (hT : sliceOf P T = some (e, k)) (hh : h ≤ m) (hm : m ≤ cap) (hk : K (.slice (if m = 0 then a else a.map (·.add (0 * k))) h m) w) :
    Run P (sOp (.slice T (.const (.slice a len cap)) none (some (.const (.int .i64 h))) (some (.const (.int .i64 m)))) ty) w K := by
  obtain ⟨hu, i, hi, hs⟩ := sliceOf_size hT
  refine Run.of ?_ hk
  simp [sOp, execOp, ev0, evE, Instr.sliceAt, Instr.slice, Instr.sliceBounds, run_underlying hu, run_bound hh, run_bound hm, sizeOf, typeInfo, hi]
end
section
attribute [local irreducible] Run CondV GuardV LoadV
theorem Clip_calls {α : Type} {R : List Value → α → Prop} {S : Store} {v : Value} {xs : List α} (h : RdSl S 4 R v xs) : ∃ r, RdSl S 4 R r xs ∧ Pure Tryz.prog n_x_Clip_Term [v] S r := by
  obtain ⟨a, cap, rfl, hl, hc, hx⟩ := id h
  have e1 : ∀ m : Nat, (if m = 0 then a else a.map (·.add (0 * 4))) = a := by
    intro m
    split
    · rfl
    · cases a <;> simp [Addr.add]
  refine ⟨.slice a xs.length xs.length, ⟨a, xs.length, rfl, Nat.le_refl _, by omega, hx⟩, fun w hI => ?_⟩
  refine calls_x_Clip_Term ?_
  unfold sh_x_Clip_Term
  refine r_lenSl h sl_SiTerm ?_
  refine r_lenSl h sl_SiTerm ?_
  refine r_slClip sl_SiTerm (Nat.le_refl _) hl ?_
  rw [e1]
  exact done hI rfl
theorem variable_calls (n : Int) (S : Store) : Pure Tryz.prog n_i_variable [.int .i64 n] S (.agg #[.int .i64 1, .int .i64 n, .string ⟨#[]⟩, .slice none 0 0]) := by
  intro w hI
  refine calls_i_variable ?_
  unfold sh_i_variable
  refine r_alloc hI zo_iTerm fun b1 w' hI => ?_
  have hb : ∀ {K : Value → World → Prop} {w' : World}, K (.agg #[.int .i64 1, .int .i64 n, .string ⟨#[]⟩, .slice none 0 0]) w' → Run Tryz.prog (sBuild t_iTerm [(0, .int .i64 1), (1, .int .i64 n)]) w' K := by
    intro K w' hk
    refine Run.of (v := .agg #[.int .i64 1, .int .i64 n, .string ⟨#[]⟩, .slice none 0 0]) (w' := w') ?_ hk
    unfold sBuild
    rw [Sem.run_bind, run_build w' t_iTerm _ #[.int .i64 1, .int .i64 n, .string ⟨#[]⟩, .slice none 0 0] (by kernel_rfl), Result.andThen_ok]
    rfl
  refine hb ?_
  refine r_storeW hI 0 rfl ag_iTerm rfl rfl (by simp [Value.oneCell']) fun w' hI => ?_
  refine loadV_W hI 0 ag_iTerm rfl rfl ?_
  exact done hI rfl
theorem renumbered_1_calls {vs : List Int} {S : Store} {g : Nat} {vv : Value} {E : TypeId} (n : Int) (hS : S g = some (.cells #[vv] E)) (hv : RdSl S 1 RdInt vv vs) :
    Pure Tryz.prog n_i_renumbered_1 [.int .i64 n, .pointer (some ⟨g, 0, none⟩)] S (.agg #[.int .i64 1, .int .i64 (idxI vs n), .string ⟨#[]⟩, .slice none 0 0]) := by
  intro w hI
  refine calls_i_renumbered_1 ?_
  unfold sh_i_renumbered_1
  refine r_alloc hI zo_iTerm fun b1 w' hI => ?_
  refine r_load sc_Sint (by rw [hI.cellS hS]; rfl) ?_
  refine Run.callPure fn_x_Index_int nm_x_Index_int hI (Index_int_calls n hv) fun w' hI => ?_
  refine Run.callPure fn_i_variable nm_i_variable hI (variable_calls _ S) fun w' hI => ?_
  refine r_storeW hI 0 rfl ag_iTerm rfl rfl (by simp [Value.oneCell']) fun w' hI => ?_
  refine loadV_W hI 0 ag_iTerm rfl rfl ?_
  exact done hI rfl
theorem mapVars_calls (vs : List Int) (hvl : vs.length ≤ 1000000000) : ∀ (t : T) (S : Store) (cs : List Value) (g : Nat) (vv : Value) (E : TypeId), RdT S cs t → S g = some (.cells #[vv] E) → RdSl S 1 RdInt vv vs → wT t ≤ 1048576 →
    Tri Tryz.prog n_i_mapVars [.agg cs.toArray, fv n_i_renumbered_1 [.pointer (some ⟨g, 0, none⟩)]] [] S (PostT S (irenT vs t)) := by
  refine T.ind fun k n s ks ih0 S cs g vv E h hS hv hw => ?_
  have ih : ∀ t ∈ ks, ∀ (S : Store) (cs : List Value), RdT S cs t → S g = some (.cells #[vv] E) → RdSl S 1 RdInt vv vs → wT t ≤ 1048576 →
    Tri Tryz.prog n_i_mapVars [.agg cs.toArray, fv n_i_renumbered_1 [.pointer (some ⟨g, 0, none⟩)]] [] S (PostT S (irenT vs t)) := fun t ht S cs h1 h2 h3 h4 => ih0 t ht S cs g vv E h1 h2 h3 h4
  clear ih0
  intro w hI
  obtain ⟨kv, rfl, h1, h2, hs, hks⟩ := RdT.iff.1 h
  simp only [T.name, T.kids, T.kind, T.n] at h1 h2 hs hks ⊢
  simp only [wT] at hw
  have hir := idxI_rng vs n
  refine calls_i_mapVars ?_
  unfold sh_i_mapVars
  refine r_box hI fun b2 w' hI => ?_
  refine r_alloc hI zo_iTerm fun b4 w' hI => ?_
  refine r_fieldL hI 0 rfl fo_iTerm_0 sc_int rfl ?_
  refine r_eql ?_
  rw [irenT]
  refine condP (fun hk1 => ?_) (fun hk1 => ?_)
  · rw [if_pos hk1]
    refine r_fieldL hI 0 rfl fo_iTerm_1 sc_int rfl ?_
    refine Run.callVPure fn_i_renumbered_1 nm_i_renumbered_1 hI (renumbered_1_calls n hS hv) fun w' hI => ?_
    refine r_storeW hI 1 rfl ag_iTerm rfl rfl (by simp [Value.oneCell']) fun w' hI => ?_
    refine loadV_W hI 1 ag_iTerm rfl rfl ?_
    exact ⟨_, _, _, rfl, hI.pick [false, false], Ext.refl _ _ _, rfl, [_, _, _, _], [], rfl, rfl, TrT.iff.2 ⟨_, rfl, by simp [inI, T.kind], by simp only [inI, T.n]; omega, by rw [T.name]; decide +kernel, TrSl.nil (by simp [maxLen])⟩⟩
  rw [if_neg hk1]
  refine r_fieldL hI 0 rfl fo_iTerm_3 sc_SiTerm rfl ?_
  refine r_fieldSt hI 0 rfl fo_iTerm_3 sc_SiTerm rfl rfl rfl fun w' hI => ?_
  refine r_lenSl hks sl_SiTerm ?_
  have hI : Inv w [] [.blk b4 (.cells #[.int .i64 0, .int .i64 0, .string ⟨#[]⟩, .slice none 0 0] t_iTerm), .blk b2 (.cells #[.int .i64 k, .int .i64 n, .string s, .slice none 0 0] t_iTerm)] S w' := hI.perm (List.Perm.swap _ _ _)
  have hI := hI.rowNil t_iTerm 4
  refine ⟨fun i w' => ∃ (j : Nat) (kvc : Value) (Ls : List Heaplet) (css : List (List Value)), j ≤ ks.length ∧ i = .int .i64 j ∧ Grown 4 TrT Ls css (irenL vs (ks.take j)) ∧
      Inv w [] (.blk b4 (.cells #[.int .i64 0, .int .i64 0, .string ⟨#[]⟩, .slice none 0 0] t_iTerm) :: .blk b2 (.cells #[.int .i64 k, .int .i64 n, .string s, kvc] t_iTerm) :: rowG kvc t_iTerm 4 css :: blks Ls.flatten) S w',
    fun i _ => ks.length - (intOf i).toNat, ⟨0, _, [], [], Nat.zero_le _, rfl, Grown.nil _ _, hI⟩, ?_⟩
  intro t20 _ _ _ _ _ _ _ _ _ _ _ _ _ w'
  rintro ⟨j, kvc, Ls, css, hj, rfl, hg, hI⟩
  refine r_lss ?_
  refine condP (fun hji => ?_) (fun hji => ?_)
  · have hj' : j < ks.length := by omega
    have hjl : (ks.take j).length = j := by simp; omega
    have hcl := hg.hc
    rw [irenL_len] at hcl
    have hm := List.getElem_mem hj'
    have hwm := wL_mem hm
    refine r_elem hI hks sl_SiTerm ag_iTerm hj' (fun _ _ => RdT.length) fun cs0 hcs0 => ?_
    refine r_alloc hI zo_iTerm fun b7 w' hI => ?_
    have hI := hI.perm (M := .blk b7 _ :: (.blk b4 (.cells #[.int .i64 0, .int .i64 0, .string ⟨#[]⟩, .slice none 0 0] t_iTerm) :: .blk b2 (.cells #[.int .i64 k, .int .i64 n, .string s, kvc] t_iTerm) :: rowG kvc t_iTerm 4 css :: blks Ls.flatten)) (List.perm_append_comm (l₁ := [_]))
    refine r_storeW hI 0 rfl ag_iTerm (by simpa using hcs0.length) rfl (by simpa using hcs0.one) fun w' hI => ?_
    refine ⟨fun D x31 x30 x29 x28 x27 x26 x25 x24 w_ => (D 0 = true → x24 = .pointer (some ⟨b2, 3, none⟩)) ∧ (D 1 = true → x25 = kvc) ∧ (D 2 = true → x26 = .agg cs0.toArray) ∧ (D 3 = true → x27 = fv n_i_renumbered_1 [.pointer (some ⟨g, 0, none⟩)]) ∧ (D 4 = true → True) ∧ (D 5 = true → True) ∧ (D 6 = true → True) ∧ (D 7 = true → x31 = .pointer (some ⟨b2, 3, none⟩)) ∧ (D 8 = true → True) ∧ ∃ M cs7 b8, (D 4 = true → x28 = .agg cs7.toArray ∧ TrT M cs7 (irenT vs ks[j])) ∧ (D 5 = true → x29 = .slice (some ⟨b8, 0, none⟩) 1 1) ∧ (D 5 = true → D 4 = true) ∧ (D 6 = true → D 5 = true) ∧ (D 8 = true → D 6 = true) ∧ (D 8 = true → D 1 = true) ∧ Inv w [] (cpItems (.blk b7 (.cells cs0.toArray t_iTerm)) (.blk b4 (.cells #[.int .i64 0, .int .i64 0, .string ⟨#[]⟩, .slice none 0 0] t_iTerm)) (.blk b2 (.cells #[.int .i64 k, .int .i64 n, .string s, kvc] t_iTerm)) (.blk b2 (.cells #[.int .i64 k, .int .i64 n, .string s, x30] t_iTerm)) (rowG kvc t_iTerm 4 css) (rowG x30 t_iTerm 4 (css ++ [cs7])) (blks Ls.flatten) M (.blk b8 (.cells cs7.toArray t_iTerm)) (D 4) (D 5) (D 6) (D 8)) S w_, ⟨fun h => Bool.noConfusion h, fun h => Bool.noConfusion h, fun h => Bool.noConfusion h, fun h => Bool.noConfusion h, fun h => Bool.noConfusion h, fun h => Bool.noConfusion h, fun h => Bool.noConfusion h, fun h => Bool.noConfusion h, fun h => Bool.noConfusion h, ⟨[], [], 0, fun h => Bool.noConfusion h, fun h => Bool.noConfusion h, fun h => Bool.noConfusion h, fun h => Bool.noConfusion h, fun h => Bool.noConfusion h, fun h => Bool.noConfusion h, by simpa [cpItems, blks] using hI.draw⟩⟩, ⟨?_, ?_, ?_, ?_, ?_, ?_, ?_, ?_, ?_, trivial⟩, ?_⟩
    · intro D hD_  x31 x30 x29 x28 x27 x26 x25 x24 w_
      rintro ⟨h0_, h1_, h2_, h3_, h4_, h5_, h6_, h7_, h8_, ⟨M, cs7, b8, e7, e8, k8, k9, k11, k1, hI⟩⟩
      refine r_field fo_iTerm_3 ?_
      exact ⟨fun _ => rfl, h1_, h2_, h3_, h4_, h5_, h6_, h7_, h8_, ⟨M, cs7, b8, e7, e8, k8, k9, k11, k1, hI⟩⟩
    · intro D hD_ d0_0 x31 x30 x29 x28 x27 x26 x25 x24 w_
      rintro ⟨h0_, h1_, h2_, h3_, h4_, h5_, h6_, h7_, h8_, ⟨M, cs7, b8, e7, e8, k8, k9, k11, k1, hI⟩⟩
      obtain rfl := h0_ d0_0
      have f11 : D 8 = false := Bool.eq_false_iff.2 fun h => by rw [k1 h] at hD_; cases hD_
      refine r_loadL (b := b2) hI 2 (c := (#[.int .i64 k, .int .i64 n, .string s, kvc])) sc_SiTerm (by rw [f11]; rfl) rfl ?_
      have k1 := fun (_ : setD D 1 8 = true) => (rfl : setD D 1 1 = true)
      exact ⟨h0_, fun _ => rfl, h2_, h3_, h4_, h5_, h6_, h7_, h8_, ⟨M, cs7, b8, e7, e8, k8, k9, k11, k1, hI⟩⟩
    · intro D hD_  x31 x30 x29 x28 x27 x26 x25 x24 w_
      rintro ⟨h0_, h1_, h2_, h3_, h4_, h5_, h6_, h7_, h8_, ⟨M, cs7, b8, e7, e8, k8, k9, k11, k1, hI⟩⟩
      refine r_loadW hI 0 ag_iTerm rfl (by simpa using hcs0.length) ?_
      exact ⟨h0_, h1_, fun _ => rfl, h3_, h4_, h5_, h6_, h7_, h8_, ⟨M, cs7, b8, e7, e8, k8, k9, k11, k1, hI⟩⟩
    · intro D hD_  x31 x30 x29 x28 x27 x26 x25 x24 w_
      rintro ⟨h0_, h1_, h2_, h3_, h4_, h5_, h6_, h7_, h8_, ⟨M, cs7, b8, e7, e8, k8, k9, k11, k1, hI⟩⟩
      exact ⟨h0_, h1_, h2_, fun _ => rfl, h4_, h5_, h6_, h7_, h8_, ⟨M, cs7, b8, e7, e8, k8, k9, k11, k1, hI⟩⟩
    · intro D hD_ d2_0 d3_1 x31 x30 x29 x28 x27 x26 x25 x24 w_
      rintro ⟨h0_, h1_, h2_, h3_, h4_, h5_, h6_, h7_, h8_, ⟨M, cs7, b8, e7, e8, k8, k9, k11, k1, hI⟩⟩
      obtain rfl := h2_ d2_0
      obtain rfl := h3_ d3_1
      have f8 : D 5 = false := Bool.eq_false_iff.2 fun h => by rw [k8 h] at hD_; cases hD_
      have f9 : D 6 = false := Bool.eq_false_iff.2 fun h => by rw [k9 h] at f8; cases f8
      have f11 : D 8 = false := Bool.eq_false_iff.2 fun h => by rw [k11 h] at f9; cases f9
      rw [hD_, f8, f9, f11] at hI
      refine Run.call0 fn_i_mapVars nm_i_mapVars hI (ih _ (List.getElem_mem hj') S cs0 hcs0 hS hv (by omega)) fun v' I' S w_ => ?_
      rintro ⟨rfl, cs7, M, rfl, rfl, hT⟩ _ hI
      have e7 : setD D 4 4 = true → Value.agg cs7.toArray = Value.agg cs7.toArray ∧ TrT M cs7 (irenT vs ks[j]) := fun _ => ⟨rfl, hT⟩
      have k8 := fun (_ : setD D 4 5 = true) => (rfl : setD D 4 4 = true)
      have hI : Inv w [] (cpItems (.blk b7 (.cells cs0.toArray t_iTerm)) (.blk b4 (.cells #[.int .i64 0, .int .i64 0, .string ⟨#[]⟩, .slice none 0 0] t_iTerm)) (.blk b2 (.cells #[.int .i64 k, .int .i64 n, .string s, kvc] t_iTerm)) (.blk b2 (.cells #[.int .i64 k, .int .i64 n, .string s, x30] t_iTerm)) (rowG kvc t_iTerm 4 css) (rowG x30 t_iTerm 4 (css ++ [cs7])) (blks Ls.flatten) M (.blk b8 (.cells cs7.toArray t_iTerm)) true (D 5) (D 6) (D 8)) S w_ := by
        rw [f8, f9, f11]
        simpa [cpItems] using hI
      exact ⟨h0_, h1_, h2_, h3_, fun _ => by first | assumption | trivial, h5_, h6_, h7_, h8_, ⟨M, cs7, b8, e7, e8, k8, k9, k11, k1, hI⟩⟩
    · intro D hD_ d4_0 x31 x30 x29 x28 x27 x26 x25 x24 w_
      rintro ⟨h0_, h1_, h2_, h3_, h4_, h5_, h6_, h7_, h8_, ⟨M, cs7, b8, e7, e8, k8, k9, k11, k1, hI⟩⟩
      have g4_ := h4_ d4_0
      have f9 : D 6 = false := Bool.eq_false_iff.2 fun h => by rw [k9 h] at hD_; cases hD_
      have f11 : D 8 = false := Bool.eq_false_iff.2 fun h => by rw [k11 h] at f9; cases f9
      obtain ⟨q7, hT⟩ := e7 d4_0
      subst q7
      rw [d4_0, hD_, f9, f11] at hI
      refine r_slice1 hI mk_SiTerm (by simp [Value.cells, hT.length]) (by omega) (by omega) fun b8 w_ hI => ?_
      have e7 : setD D 5 4 = true → Value.agg cs7.toArray = Value.agg cs7.toArray ∧ TrT M cs7 (irenT vs ks[j]) := fun _ => ⟨rfl, hT⟩
      have e8 := fun (_ : setD D 5 5 = true) => (rfl : Value.slice (some ⟨b8, 0, none⟩) 1 1 = _)
      have k8 := fun (_ : setD D 5 5 = true) => d4_0
      have k9 := fun (_ : setD D 5 6 = true) => (rfl : setD D 5 5 = true)
      have hI : Inv w [] (cpItems (.blk b7 (.cells cs0.toArray t_iTerm)) (.blk b4 (.cells #[.int .i64 0, .int .i64 0, .string ⟨#[]⟩, .slice none 0 0] t_iTerm)) (.blk b2 (.cells #[.int .i64 k, .int .i64 n, .string s, kvc] t_iTerm)) (.blk b2 (.cells #[.int .i64 k, .int .i64 n, .string s, x30] t_iTerm)) (rowG kvc t_iTerm 4 css) (rowG x30 t_iTerm 4 (css ++ [cs7])) (blks Ls.flatten) M (.blk b8 (.cells cs7.toArray t_iTerm)) (D 4) true (D 6) (D 8)) S w_ := by
        rw [d4_0, f9, f11]
        simpa [cpItems, Value.cells] using hI
      exact ⟨h0_, h1_, h2_, h3_, h4_, fun _ => by first | assumption | trivial, h6_, h7_, h8_, ⟨M, cs7, b8, e7, e8, k8, k9, k11, k1, hI⟩⟩
    · intro D hD_ d1_0 d5_1 d4_2 x31 x30 x29 x28 x27 x26 x25 x24 w_
      rintro ⟨h0_, h1_, h2_, h3_, h4_, h5_, h6_, h7_, h8_, ⟨M, cs7, b8, e7, e8, k8, k9, k11, k1, hI⟩⟩
      obtain rfl := h1_ d1_0
      have g5_ := h5_ d5_1
      have f11 : D 8 = false := Bool.eq_false_iff.2 fun h => by rw [k11 h] at hD_; cases hD_
      have q8 := e8 d5_1
      subst q8
      obtain ⟨_, hT⟩ := e7 d4_2
      rw [d4_2, d5_1, hD_, f11] at hI
      have hblk : ((cpItems (.blk b7 (.cells cs0.toArray t_iTerm)) (.blk b4 (.cells #[.int .i64 0, .int .i64 0, .string ⟨#[]⟩, .slice none 0 0] t_iTerm)) (.blk b2 (.cells #[.int .i64 k, .int .i64 n, .string s, x25] t_iTerm)) (.blk b2 (.cells #[.int .i64 k, .int .i64 n, .string s, x30] t_iTerm)) (rowG x25 t_iTerm 4 css) (rowG x30 t_iTerm 4 (css ++ [cs7])) (blks Ls.flatten) M (.blk b8 (.cells cs7.toArray t_iTerm)) true true false false))[4 + (blks Ls.flatten).length + (blks M).length]? = some (.blk b8 (.cells cs7.toArray t_iTerm)) := by
        have e4 : 4 + (blks Ls.flatten).length + (blks M).length = ((blks Ls.flatten).length + (blks M).length) + 1 + 1 + 1 + 1 := by omega
        rw [e4]
        simp only [cpItems, List.getElem?_cons_succ]
        rw [List.getElem?_append_right (by omega), Nat.add_sub_cancel_left, List.getElem?_append_right (Nat.le_refl _), Nat.sub_self]; rfl
      refine r_append hI 3 cs7 mk_SiTerm (by omega) rfl (by rw [hT.length]) (m := 1) (o := 0) ?_ hT.one (by omega) (by omega) fun v' w_ hI => ?_
      · intro i u hi
        rw [hI.cellL hblk, Nat.zero_add]
        simpa using hi
      rw [rowG_snoc] at hI
      have k9 := fun (_ : setD D 6 6 = true) => d5_1
      have k11 := fun (_ : setD D 6 8 = true) => (rfl : setD D 6 6 = true)
      have hI : Inv w [] (cpItems (.blk b7 (.cells cs0.toArray t_iTerm)) (.blk b4 (.cells #[.int .i64 0, .int .i64 0, .string ⟨#[]⟩, .slice none 0 0] t_iTerm)) (.blk b2 (.cells #[.int .i64 k, .int .i64 n, .string s, x25] t_iTerm)) (.blk b2 (.cells #[.int .i64 k, .int .i64 n, .string s, v'] t_iTerm)) (rowG x25 t_iTerm 4 css) (rowG v' t_iTerm 4 (css ++ [cs7])) (blks Ls.flatten) M (.blk b8 (.cells cs7.toArray t_iTerm)) (D 4) (D 5) true (D 8)) S w_ := by
        rw [d4_2, d5_1, f11]
        exact hI
      exact ⟨h0_, h1_, h2_, h3_, h4_, h5_, fun _ => by first | assumption | trivial, h7_, h8_, ⟨M, cs7, b8, e7, e8, k8, k9, k11, k1, hI⟩⟩
    · intro D hD_ d0_0 d1_1 d2_2 d3_3 d4_4 d5_5 d6_6 x31 x30 x29 x28 x27 x26 x25 x24 w_
      rintro ⟨h0_, h1_, h2_, h3_, h4_, h5_, h6_, h7_, h8_, ⟨M, cs7, b8, e7, e8, k8, k9, k11, k1, hI⟩⟩
      refine r_field fo_iTerm_3 ?_
      exact ⟨h0_, h1_, h2_, h3_, h4_, h5_, h6_, fun _ => rfl, h8_, ⟨M, cs7, b8, e7, e8, k8, k9, k11, k1, hI⟩⟩
    · intro D hD_ d7_0 d6_1 d6_2 d0_3 d1_4 d2_5 d3_6 d4_7 d5_8 d6_9 x31 x30 x29 x28 x27 x26 x25 x24 w_
      rintro ⟨h0_, h1_, h2_, h3_, h4_, h5_, h6_, h7_, h8_, ⟨M, cs7, b8, e7, e8, k8, k9, k11, k1, hI⟩⟩
      obtain rfl := h7_ d7_0
      have g6_ := h6_ d6_1
      rw [d4_7, d5_8, d6_1, hD_] at hI
      obtain ⟨va, vn, vc, hv9⟩ := Inv.rowSlice hI 3 rfl
      refine r_store hI 2 (n := 1) (by rw [hv9]; rfl) (by decide +kernel) rfl (by simp) (by rw [hv9]; simp [Value.cells, Value.oneCell']) fun w_ hI => ?_
      have hcl9 : Value.cells x30 = #[x30] := by rw [hv9]; rfl
      rw [hcl9] at hI
      have k1 := fun (_ : setD D 8 8 = true) => d1_4
      have k11 := fun (_ : setD D 8 8 = true) => d6_1
      have hI : Inv w [] (cpItems (.blk b7 (.cells cs0.toArray t_iTerm)) (.blk b4 (.cells #[.int .i64 0, .int .i64 0, .string ⟨#[]⟩, .slice none 0 0] t_iTerm)) (.blk b2 (.cells #[.int .i64 k, .int .i64 n, .string s, kvc] t_iTerm)) (.blk b2 (.cells #[.int .i64 k, .int .i64 n, .string s, x30] t_iTerm)) (rowG kvc t_iTerm 4 css) (rowG x30 t_iTerm 4 (css ++ [cs7])) (blks Ls.flatten) M (.blk b8 (.cells cs7.toArray t_iTerm)) (D 4) (D 5) (D 6) true) S w_ := by
        rw [d4_7, d5_8, d6_1]
        exact hI
      exact ⟨h0_, h1_, h2_, h3_, h4_, h5_, h6_, h7_, fun _ => trivial, ⟨M, cs7, b8, e7, e8, k8, k9, k11, k1, hI⟩⟩
    intro D d8_ d7_ d6_ d5_ d4_ d3_ d2_ d1_ d0_ x31 x30 x29 x28 x27 x26 x25 x24 w_
    rintro ⟨h0_, h1_, h2_, h3_, h4_, h5_, h6_, h7_, h8_, ⟨M, cs7, b8, e7, e8, k8, k9, k11, k1, hI⟩⟩
    obtain rfl := h7_ d7_
    have g6_ := h6_ d6_
    have g5_ := h5_ d5_
    have g4_ := h4_ d4_
    obtain rfl := h3_ d3_
    obtain rfl := h2_ d2_
    obtain rfl := h1_ d1_
    obtain rfl := h0_ d0_
    clear h0_ h1_ h2_ h3_ h4_ h5_ h6_ h7_ h8_
    obtain ⟨_, hT⟩ := e7 d4_
    rw [d4_, d5_, d6_, d8_] at hI
    refine r_add (by omega) ?_
    refine ⟨⟨j + 1, x30, Ls ++ [M], css ++ [cs7], hj', rfl, ?_, ?_⟩, by simp [intOf]; omega⟩
    · rw [irenL_take vs ks j hj']
      exact hg.snoc hT hT.length
    · simp only [List.flatten_append, List.flatten_cons, List.flatten_nil, List.append_nil, blks_append]
      refine hI.sub ?_
      simp only [cpItems]
      rw [← List.append_assoc]
      exact ((((List.sublist_append_left _ _).cons_cons _).cons_cons _).cons_cons _).cons _
  · have : j = ks.length := by omega
    subst this
    rw [List.take_length] at hg
    obtain ⟨va, vn, vc, hvk⟩ := hI.rowSlice 2 rfl
    have hv1 : kvc.oneCell' = true := by rw [hvk]; rfl
    refine r_loadW hI 1 ag_iTerm rfl rfl ?_
    refine r_storeW hI 0 rfl ag_iTerm rfl rfl ?_ fun w' hI => ?_
    · intro u hu
      have hu' : u ∈ ([.int .i64 k, .int .i64 n, .string s, kvc] : List Value) := hu
      simp at hu'
      rcases hu' with rfl | rfl | rfl | rfl <;> first | rfl | exact hv1
    refine loadV_W hI 0 ag_iTerm rfl rfl ?_
    have hI : Inv w [] ([] ++ (rowG kvc t_iTerm 4 css :: blks Ls.flatten)) S w' := hI.sub (List.sublist_append_right [_, _] _)
    obtain ⟨L, hT, hI⟩ := Inv.rowTree hI hg
    exact ⟨_, _, _, rfl, hI, Ext.refl _ _ _, rfl, _, L, rfl, rfl, TrT.iff.2 ⟨kvc, rfl, h1, h2, hs, hT⟩⟩
theorem renumbered_calls {ts : List T} {S : Store} {v : Value} (h : RdSl S 4 (RdT S) v ts) (hw : ts.length + wL ts ≤ 1048577) : Tri Tryz.prog n_i_renumbered [v] [] S (PostS 4 TrT S (irenL (varsL ts []) ts)) := by
  intro w hI
  have hlen := h.le
  simp only [maxLen] at hlen
  have hcl := cnt_wL ts
  have hvl := varsL_le ts []
  simp only [List.length_nil] at hvl
  refine calls_i_renumbered ?_
  unfold sh_i_renumbered
  refine Run.call0 fn_i_varsOf nm_i_varsOf hI (varsOf_calls h (by omega)) fun v1 I' S w' => ?_
  rintro ⟨rfl, rfl⟩ _ hI
  have hl' : (varsL ts []).length ≤ 1000000000 := by omega
  generalize varsL ts [] = vs at hI hl' ⊢
  refine r_alloc hI zo_Sint fun b3 w' hI => ?_
  have hv1 : v1.cells = #[v1] ∧ v1.oneCell' = true := by
    have := hI.its (rowI v1 vs) (by simp)
    rcases this.2 with ⟨rfl, _⟩ | ⟨g, cap, cur, rfl, _⟩ <;> exact ⟨rfl, rfl⟩
  refine r_store hI 1 (n := 1) (by rw [hv1.1]; rfl) (by rw [sc_Sint]; rfl) rfl (Nat.le_of_ble_eq_true rfl) (by rw [hv1.1]; simpa using hv1.2) fun w' hI => ?_
  have hst : putCells (Value.slice none 0 0).cells 0 v1.cells.toList = #[v1] := by
    rw [hv1.1]; rfl
  have hI : Inv w [] [rowI v1 vs, .blk b3 (.cells #[v1] t_Sint)] S w' := by
    have := hI
    simp only [List.cons_append, List.nil_append] at this
    rw [hst] at this
    exact this
  have hI := hI.perm (M := [.blk b3 (.cells #[v1] t_Sint)] ++ [rowI v1 vs]) (List.Perm.swap _ _ _)
  obtain ⟨S1, hle1, hrd1, hI, _⟩ := Inv.lend (A := [_]) hI
  obtain ⟨hI, hle2⟩ := Inv.publishLast (L := []) hI
  have hb : addS S1 b3 (.cells #[v1] t_Sint) b3 = some (.cells #[v1] t_Sint) := by simp [addS]
  generalize addS S1 b3 (.cells #[v1] t_Sint) = S2 at hI hle2 hb
  have hr1 := hrd1.ints.mono hle2 fun _ _ h => h
  have hle := hle1.trans hle2
  have h := h.mono hle fun _ _ h => h.mono hle
  refine r_lenSl h sl_SiTerm ?_
  refine ⟨fun i t w' => ∃ (k : Nat) (Ls : List Heaplet) (css : List (List Value)), k ≤ ts.length ∧ i = .int .i64 k ∧ Grown 4 TrT Ls css (irenL vs (ts.take k)) ∧ Inv w [] (rowG t t_iTerm 4 css :: blks Ls.flatten) S2 w',
    fun i _ _ => ts.length - (intOf i).toNat, ⟨0, [], [], Nat.zero_le _, rfl, Grown.nil _ _, hI.rowNil t_iTerm 4⟩, ?_⟩
  intro t11 _ t4 _ _ _ _ _ _ _ _ _ _ w'
  rintro ⟨k, Ls, css, hk, rfl, hg, hI⟩
  refine r_lss ?_
  refine condP (fun hki => ?_) (fun hki => ?_)
  · have hk' : k < ts.length := by omega
    have htl : (ts.take k).length = k := by simp; omega
    have hcl := hg.hc
    rw [irenL_len] at hcl
    have hm := List.getElem_mem hk'
    have hwm := wL_mem hm
    refine r_elem hI h sl_SiTerm ag_iTerm hk' (fun _ _ => RdT.length) fun cs hcs => ?_
    have hlc := hcs.length
    refine r_alloc hI zo_iTerm fun b6 w' hI => ?_
    have hI := hI.perm (M := .blk b6 _ :: (rowG t4 t_iTerm 4 css :: blks Ls.flatten)) (List.perm_append_comm (l₁ := [_]))
    refine r_storeW hI 0 rfl ag_iTerm (by simpa using hlc) rfl (by simpa using hcs.one) fun w' hI => ?_
    refine r_loadW hI 0 ag_iTerm rfl (by simpa using hlc) ?_
    have hI : Inv w [] (rowG t4 t_iTerm 4 css :: blks Ls.flatten) S2 w' := hI.sub (List.sublist_cons_self _ _)
    refine r_makeFunc ?_
    refine Run.call0 fn_i_mapVars nm_i_mapVars hI (mapVars_calls vs hl' _ S2 cs b3 v1 t_Sint hcs hb hr1 (by omega)) fun v' I' S' w' => ?_
    rintro ⟨rfl, cs', L, rfl, rfl, hT⟩ _ hI
    refine r_append1 hI 0 cs' mk_SiTerm (by omega) (by omega) rfl hT.length hT.one (by omega) (by omega) fun v' w' hI => ?_
    refine r_add (by omega) ?_
    refine ⟨⟨k + 1, Ls ++ [L], css ++ [cs'], hk', rfl, ?_, ?_⟩, by simp [intOf]; omega⟩
    · rw [irenL_take vs ts k hk']
      exact hg.snoc hT hT.length
    · simp only [List.flatten_append, List.flatten_cons, List.flatten_nil, List.append_nil, blks_append]
      exact hI
  · have : k = ts.length := by omega
    subst this
    rw [List.take_length] at hg
    obtain ⟨L, hT, hI⟩ := Inv.rowTree (A := []) hI hg
    exact ⟨_, _, _, rfl, hI.less hle, Ext.refl _ _ _, rfl, _, rfl, hT⟩
end

end Go.Proofs.YtaaihodhhacapaaGreat

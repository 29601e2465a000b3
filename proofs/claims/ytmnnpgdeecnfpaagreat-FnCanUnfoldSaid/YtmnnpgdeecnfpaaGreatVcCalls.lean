/- The verification condition of a function's whole body gives 'Calls'. -/
import Derived.Test.YtmnnpgdeecnfpaaGreatVcSound
import Derived.Laws.Sem
namespace Go.Proofs.YtmnnpgdeecnfpaaGreat
open Go

/- which slots a code writes -/
def Wo (l : List Oper) (t : Nat) : Prop := ∃ o ∈ l, o.dst = some t
def Wc : Code → Nat → Prop
  | .region _ ops _, t => Wo ops.toList t
  | .seq a b, t | .cond _ a b, t => Wc a t ∨ Wc b t
  | .block _ a, t | .loop a, t | .scope a, t => Wc a t
  | _, _ => False

theorem mem_wrOps {t : Nat} : ∀ (ops : List Oper) (l : List Nat), t ∈ wrOps ops l ↔ t ∈ l ∨ Wo ops t
  | [], l => by simp [wrOps, Wo]
  | o :: os, l => by
    simp only [wrOps]
    cases hd : o.dst with
    | none =>
      rw [mem_wrOps os l]
      simp [Wo, hd]
    | some d =>
      simp only []
      cases he : l.elem d with
      | true =>
        have hm : d ∈ l := by simpa using he
        simp only []
        rw [mem_wrOps os l]
        simp only [Wo, List.mem_cons, exists_eq_or_imp, hd, Option.some.injEq]
        constructor
        · rintro (h | h)
          · exact .inl h
          · exact .inr (.inr h)
        · rintro (h | h | h)
          · exact .inl h
          · subst h; exact .inl hm
          · exact .inr h
      | false =>
        simp only []
        rw [mem_wrOps os (d :: l)]
        simp only [Wo, List.mem_cons, exists_eq_or_imp, hd, Option.some.injEq]
        constructor
        · rintro ((h | h) | h)
          · exact .inr (.inl h.symm)
          · exact .inl h
          · exact .inr (.inr h)
        · rintro (h | h | h)
          · exact .inl (.inr h)
          · exact .inl (.inl h.symm)
          · exact .inr h

theorem mem_wr {t : Nat} : ∀ (c : Code) (l : List Nat), t ∈ wr c l ↔ t ∈ l ∨ Wc c t
  | .region _ ops _, l => mem_wrOps ops.toList l
  | .seq a b, l => by simp only [wr, Wc]; rw [mem_wr b, mem_wr a, or_assoc]
  | .cond _ a b, l => by simp only [wr, Wc]; rw [mem_wr b, mem_wr a, or_assoc]
  | .block _ a, l => by simp only [wr, Wc]; exact mem_wr a l
  | .loop a, l => by simp only [wr, Wc]; exact mem_wr a l
  | .scope a, l => by simp only [wr, Wc]; exact mem_wr a l
  | .skip, l | .ret, l | .exit _, l | .label _, l | .goto _, l | .refuse _, l | .rangeFunc .., l => by simp [wr, Wc]

/- outside what is written two environments agree -/
def Agr (W : Nat → Prop) (ρ ρ' : Env) : Prop := ∀ t, ¬ W t → ρ' t = ρ t
theorem Agr.refl (W : Nat → Prop) (ρ : Env) : Agr W ρ ρ := fun _ _ => rfl
theorem Agr.trans {W : Nat → Prop} {ρ ρ' ρ'' : Env} (h : Agr W ρ ρ') (h' : Agr W ρ' ρ'') : Agr W ρ ρ'' := fun t ht => (h' t ht).trans (h t ht)
theorem Agr.mono {W W' : Nat → Prop} {ρ ρ' : Env} (h : Agr W ρ ρ') (hw : ∀ t, W t → W' t) : Agr W' ρ ρ' := fun t ht => h t fun hh => ht (hw t hh)
theorem Agr.put {W : Nat → Prop} (ρ : Env) (dst : Option Nat) (v : Value) (h : ∀ d, dst = some d → W d) : Agr W ρ (putE ρ dst v) := by
  cases dst with
  | none => exact Agr.refl _ _
  | some d => exact fun t ht => upd_ne ρ v fun e => ht (e ▸ h d rfl)

theorem forallL_inst : ∀ (l : List Nat) (ρ : Env) (p : Env → Prop), forallL l ρ p → ∀ ρ', (∀ t, t ∉ l → ρ' t = ρ t) → p ρ'
  | [], ρ, p, h, ρ', e => by have : ρ' = ρ := funext fun t => e t (by simp); rw [this]; exact h
  | m :: l, ρ, p, h, ρ', e => by
    refine forallL_inst l (upd ρ m (ρ' m)) p (h (ρ' m)) ρ' fun t ht => ?_
    by_cases hm : t = m
    · subst hm; rw [upd_same]
    · rw [upd_ne _ _ hm]; exact e t (by simp [hm, ht])
theorem forallL_intro : ∀ (l : List Nat) (ρ : Env) (p : Env → Prop), (∀ ρ', (∀ t, t ∉ l → ρ' t = ρ t) → p ρ') → forallL l ρ p
  | [], ρ, p, h => h ρ fun _ _ => rfl
  | m :: l, ρ, p, h => fun x => forallL_intro l _ p fun ρ' e => h ρ' fun t ht => by
      have hne : t ≠ m := fun hh => ht (by rw [hh]; exact List.mem_cons_self ..)
      rw [e t (fun hh => ht (List.mem_cons_of_mem _ hh)), upd_ne _ _ hne]

theorem GuardO.mono {ops : List Oper} {ρ : Env} {g : Option (Nat × Bool)} {A B A' B' : Prop} (h : GuardO ops ρ g A B) (ha : A → A') (hb : B → B') :
    GuardO ops ρ g A' B' := by
  unfold GuardO GuardV at *
  split
  · exact ha h
  · rename_i j b
    simp only [] at h
    split
    · rename_i d hd
      rw [hd] at h
      simp only [] at h
      split
      · rename_i c hc
        rw [hc] at h
        simp only [] at h
        split
        · rename_i e; rw [if_pos e] at h; exact ha h
        · rename_i e; rw [if_neg e] at h; exact hb h
      · rename_i hv
        split at h
        · rename_i c hc; exact absurd hc (hv c)
        · exact hb h
    · rename_i hd
      rw [hd] at h
      exact hb h

section mono
variable {P : Program}
theorem runL_mono : ∀ (l : List Oper) (ρ : Env) (w : World) (K K' : Env → World → Prop), runL P l ρ w K →
    (∀ ρ' w', Agr (Wo l) ρ ρ' → K ρ' w' → K' ρ' w') → runL P l ρ w K'
  | [], ρ, w, K, K', h, hk => hk _ _ (Agr.refl _ _) h
  | o :: os, ρ, w, K, K', h, hk => by
    refine stepE.mono h fun v w' hh => runL_mono os _ w' K K' hh fun ρ' w'' ha => hk ρ' w'' ?_
    exact (Agr.put ρ o.dst v fun d hd => ⟨o, List.mem_cons_self .., hd⟩).trans
      (ha.mono fun t ⟨o', h1, h2⟩ => ⟨o', List.mem_cons_of_mem _ h1, h2⟩)
theorem skipL_agr : ∀ (l : List Oper) (ρ : Env), Agr (Wo l) ρ (skipL l ρ)
  | [], _ => Agr.refl _ _
  | o :: os, ρ => (Agr.put ρ o.dst undef fun _ hd => ⟨o, List.mem_cons_self .., hd⟩).trans
      ((skipL_agr os _).mono fun _ ⟨o', h1, h2⟩ => ⟨o', List.mem_cons_of_mem _ h1, h2⟩)

theorem vcOps_mono {all : List Oper} : ∀ (m : Nat) (l : List Oper) (ρ : Env) (w : World) (K K' : Env → World → Prop), vcOps P all m l ρ w K →
    (∀ ρ' w', Agr (Wo l) ρ ρ' → K ρ' w' → K' ρ' w') → vcOps P all m l ρ w K' := by
  intro m
  induction m with
  | zero => intro l ρ w K K' h; exact h.elim
  | succ m ih =>
    intro l ρ w K K' h hk
    cases l with
    | nil => exact hk _ _ (Agr.refl _ _) h
    | cons o os =>
      simp only [vcOps] at h ih ⊢
      cases hg : o.guard with
      | none =>
        rw [hg] at h
        simp only [] at h ⊢
        refine stepE.mono h fun v w' hh => ih os _ w' K K' hh fun ρ' w'' ha => hk ρ' w'' ?_
        exact (Agr.put ρ o.dst v fun d hd => ⟨o, List.mem_cons_self .., hd⟩).trans
          (ha.mono fun t ⟨o', h1, h2⟩ => ⟨o', List.mem_cons_of_mem _ h1, h2⟩)
      | some g =>
        rw [hg] at h
        simp only [] at h ⊢
        have hs := grp_ungrp (some g) os
        have w1 : ∀ t, Wo (o :: grp (some g) os) t → Wo (o :: os) t := fun t ⟨o', h1, h2⟩ => ⟨o', by
          rw [hs, ← List.cons_append]; exact List.mem_append_left _ h1, h2⟩
        have w2 : ∀ t, Wo (ungrp (some g) os) t → Wo (o :: os) t := fun t ⟨o', h1, h2⟩ => ⟨o', by
          rw [hs, ← List.cons_append]; exact List.mem_append_right _ h1, h2⟩
        refine GuardO.mono h (fun hh => ?_) (fun hh => ?_)
        · refine runL_mono _ _ _ _ _ hh fun ρ' w' ha hh' => ih _ _ _ K K' hh' fun ρ'' w'' ha' => hk ρ'' w'' ?_
          exact (ha.mono w1).trans (ha'.mono w2)
        · refine ih _ _ _ K K' hh fun ρ'' w'' ha' => hk ρ'' w'' ?_
          exact ((skipL_agr _ _).mono w1).trans (ha'.mono w2)

theorem allOn_mono : ∀ (l : List Edge) {D : Nat → Bool} {p q : Prop}, allOn l D p → (p → q) → allOn l D q
  | [], _, _, _, h, hq => hq h
  | e :: es, D, p, q, h, hq => by
    simp only [allOn] at h ⊢
    cases hb : Region.binds .any e with
    | false => rw [hb] at h; exact allOn_mono es h hq
    | true => rw [hb] at h; exact fun hd => allOn_mono es (h hd) hq
theorem allDone_mono {D : Nat → Bool} {p q : Prop} : ∀ n : Nat, allDone n D p → (p → q) → allDone n D q
  | 0, h, hq => hq h
  | n + 1, h, hq => fun hd => allDone_mono n (h hd) hq
theorem opE_mono {all : List Oper} {o : Oper} {ρ : Env} {w : World} {K K' : Env → World → Prop} (h : opE P all o ρ w K)
    (hk : ∀ v w', K (putE ρ o.dst v) w' → K' (putE ρ o.dst v) w') : opE P all o ρ w K' :=
  GuardO.mono h (fun hh => stepE.mono hh fun v w' => hk v w') (hk _ _)
theorem forallL_mono : ∀ (l : List Nat) (ρ : Env) {p q : Env → Prop}, forallL l ρ p → (∀ ρ', (∀ t, t ∉ l → ρ' t = ρ t) → p ρ' → q ρ') → forallL l ρ q :=
  fun l ρ p _ h hq => forallL_intro l ρ _ fun ρ' e => hq ρ' e (forallL_inst l ρ p h ρ' e)
theorem vcDraw_mono {ops : List Oper} {ρ : Env} {w : World} {K K' : Env → World → Prop} (h : vcDraw P ops ρ w K)
    (hk : ∀ ρ' w', Agr (Wo ops) ρ ρ' → K ρ' w' → K' ρ' w') : vcDraw P ops ρ w K' := by
  obtain ⟨A, h1, h2, h3⟩ := h
  refine ⟨A, h1, h2, fun D => ?_⟩
  refine allDone_mono _ (h3 D) fun hh => forallL_mono _ _ hh fun ρ' hρ' hp w' hA => hk ρ' w' (fun t ht => hρ' t fun hm => ht ?_) (hp w' hA)
  exact ((mem_wrOps ops []).1 hm).resolve_left (by simp)
theorem drawSteps_env {all : List Oper} {M : List Nat} {A : (Nat → Bool) → Cur (World → Prop) M} {ρ : Env} (hM : ∀ t, Wo all t → t ∈ M) : ∀ (l : List Oper) (i : Nat), (∀ t, Wo l t → Wo all t) →
    drawSteps P all M A ρ i l → drawE P all (fun D ρ' w' => ap M (A D) ρ' w' ∧ Agr (Wo all) ρ ρ') i l
  | [], _, _, _ => trivial
  | o :: os, i, hw, h => by
    refine ⟨fun D ρ' w' hD => ?_, drawSteps_env hM os (i + 1) (fun t ⟨o', h1, h2⟩ => hw t ⟨o', List.mem_cons_of_mem _ h1, h2⟩) h.2⟩
    refine allOn_mono _ (h.1 D hD) fun hh hA => ?_
    have h1 := forallL_inst _ _ _ hh ρ' (fun t ht => hA.2 t fun hwt => ht (hM t hwt)) w' hA.1
    exact opE_mono h1 fun v w'' hv => ⟨hv, hA.2.trans (Agr.put ρ' o.dst v fun d hd => hw d ⟨o, List.mem_cons_self .., hd⟩)⟩

theorem CondV.mono {v : Value} {A B A' B' : Prop} (h : CondV v A B) (ha : A → A') (hb : B → B') : CondV v A' B' := by
  unfold CondV at *
  split
  · rename_i c
    simp only [] at h
    split
    · rename_i e; rw [if_pos e] at h; exact ha h
    · rename_i e; rw [if_neg e] at h; exact hb h
  · rename_i hv
    split at h
    · rename_i c; exact absurd rfl (hv c)
    · exact h

theorem thenE_cases {K K' : Env → World → Prop} {Q Q' : Exit → Env → World → Prop} {ρ : Env} {w : World} (hk : K ρ w → K' ρ w)
    (hq : ∀ e, Q e ρ w → Q' e ρ w) : ∀ e, thenE K Q e ρ w → thenE K' Q' e ρ w := by
  intro e
  cases e <;> first | exact hk | exact hq _

theorem vc_mono : ∀ (c : Code) (an : An) (Q Q' : Exit → Env → World → Prop) (ρ : Env) (w : World), vc P c an Q ρ w →
    (∀ e ρ' w', Agr (Wc c) ρ ρ' → Q e ρ' w' → Q' e ρ' w') → vc P c an Q' ρ w
  | .skip, an, Q, Q', ρ, w, h, hq => hq _ _ _ (Agr.refl _ _) h
  | .ret, an, Q, Q', ρ, w, h, hq => hq _ _ _ (Agr.refl _ _) h
  | .exit id, an, Q, Q', ρ, w, h, hq => hq _ _ _ (Agr.refl _ _) h
  | .region id ops draw, an, Q, Q', ρ, w, h, hq => by
    simp only [vc] at h ⊢
    cases draw with
    | true => exact vcDraw_mono h fun ρ' w' ha => hq _ ρ' w' ha
    | false => exact vcOps_mono _ _ _ _ _ _ (by simpa only [cond_false] using h) fun ρ' w' ha => hq _ ρ' w' ha
  | .seq a b, an, Q, Q', ρ, w, h, hq => by
    simp only [vc] at h ⊢
    cases hc : an.cut with
    | none =>
      rw [hc] at h
      simp only [] at h ⊢
      refine vc_mono a _ _ _ ρ w h fun e ρ' w' ha => ?_
      refine thenE_cases (fun hh => ?_) (fun e' hh => hq e' ρ' w' (ha.mono fun t => .inl) hh) e
      exact vc_mono b _ _ _ ρ' w' hh fun e' ρ'' w'' ha' => hq e' ρ'' w'' ((ha.mono fun t => .inl).trans (ha'.mono fun t => .inr))
    | some lv =>
      rw [hc] at h
      simp only [] at h ⊢
      obtain ⟨J, h1, h2⟩ := h
      refine ⟨J, ?_, ?_⟩
      · refine vc_mono a _ _ _ ρ w h1 fun e ρ' w' ha => ?_
        exact thenE_cases id (fun e' hh => hq e' ρ' w' (ha.mono fun t => .inl) hh) e
      · refine forallL_intro _ _ _ fun ρ' hρ' w' hJ => ?_
        have ha : Agr (Wc a) ρ ρ' := fun t ht => hρ' t fun hm => ht (((mem_wr a []).1 hm).resolve_left (by simp))
        exact vc_mono b _ _ _ ρ' w' (forallL_inst _ _ _ h2 ρ' hρ' w' hJ) fun e' ρ'' w'' ha' =>
          hq e' ρ'' w'' ((ha.mono fun t => .inl).trans (ha'.mono fun t => .inr))
  | .cond x a b, an, Q, Q', ρ, w, h, hq => by
    simp only [vc] at h ⊢
    exact CondV.mono h (fun hh => vc_mono a _ _ _ ρ w hh fun e ρ' w' ha => hq e ρ' w' (ha.mono fun t => .inl))
      (fun hh => vc_mono b _ _ _ ρ w hh fun e ρ' w' ha => hq e ρ' w' (ha.mono fun t => .inr))
  | .block id a, an, Q, Q', ρ, w, h, hq => by
    simp only [vc] at h ⊢
    refine vc_mono a _ _ _ ρ w h fun e ρ' w' ha hh => ?_
    cases e with
    | exit id' =>
      simp only [blockE] at hh ⊢
      cases hb : Nat.beq id' id <;> rw [hb] at hh <;> exact hq _ ρ' w' ha hh
    | _ => exact hq _ ρ' w' ha hh
  | .loop a, an, Q, Q', ρ, w, h, hq => by
    simp only [vc] at h ⊢
    obtain ⟨I, μ, h1, h2⟩ := h
    refine ⟨I, μ, h1, forallL_intro _ _ _ fun ρ' hρ' w' hI => ?_⟩
    have ha : Agr (Wc a) ρ ρ' := fun t ht => hρ' t fun hm => ht (((mem_wr a []).1 hm).resolve_left (by simp))
    refine vc_mono a _ _ _ ρ' w' (forallL_inst _ _ _ h2 ρ' hρ' w' hI) fun e ρ'' w'' ha' => ?_
    exact thenE_cases id (fun e' hh => hq e' ρ'' w'' (ha.trans ha') hh) e
  | .scope .., _, _, _, _, _, h, _ | .label .., _, _, _, _, _, h, _ | .goto .., _, _, _, _, _, h, _ | .refuse .., _, _, _, _, _, h, _
  | .rangeFunc .., _, _, _, _, _, h, _ => h.elim
end mono

def envOf (a : Act) : Env := fun t => a.tmps.getD t undef
theorem Rel.env {n : Nat} {ρ : Env} {a : Act} (h : Rel n ρ a) : ρ = envOf a := by
  funext t
  by_cases ht : t < n
  · simp [envOf, Array.getD_eq_getD_getElem?, h.at_ t ht]
  · rw [h.out t (by omega)]
    simp [envOf, Array.getD_eq_getD_getElem?, h.size, show ¬ t < n from ht]

section sound
variable {P : Program} {n : Nat}
def post (n : Nat) (Q : Exit → Env → World → Prop) : Exit → Act → World → Prop := fun e a w => ∃ ρ, Rel n ρ a ∧ Q e ρ w

theorem post_then {K : Env → World → Prop} {Q : Exit → Env → World → Prop} {next : Act → World → Prop} {Q' : Exit → Act → World → Prop} {a : Act} {w : World}
    (hk : ∀ ρ, Rel n ρ a → K ρ w → next a w) (hq : ∀ e ρ, Rel n ρ a → Q e ρ w → Q' e a w) : ∀ e, post n (thenE K Q) e a w → Exit.then next Q' e a w := by
  rintro e ⟨ρ, hr, h⟩
  cases e <;> first | exact hk ρ hr h | exact hq _ ρ hr h

theorem vc_sound (hm : P.follows .mixedOrders = true) : ∀ (c : Code) (an : An) (Q : Exit → Env → World → Prop) (ρ : Env) (w : World) (a : Act), Rel n ρ a →
    fits n c = true → vc P c an Q ρ w → c.wp P (post n Q) a w
  | .skip, an, Q, ρ, w, a, hr, _, h => wp_skip ⟨ρ, hr, h⟩
  | .ret, an, Q, ρ, w, a, hr, _, h => wp_ret ⟨ρ, hr, h⟩
  | .exit id, an, Q, ρ, w, a, hr, _, h => wp_exit ⟨ρ, hr, h⟩
  | .region id ops draw, an, Q, ρ, w, a, hr, hf, h => by
    simp only [fits, Bool.and_eq_true, Bool.or_eq_true, Bool.not_eq_true'] at hf
    obtain ⟨⟨hf1, hf2⟩, hf3⟩ := hf
    have hfa : fitAll n ops := fun o ho => List.all_eq_true.1 hf1 o ho
    simp only [vc] at h
    cases draw with
    | true =>
      obtain ⟨A, h1, h2, h3⟩ := h
      have hb : backL 0 ops.toList = true := by simpa using hf3
      refine wp_region_any hm ?_
      have hW : ∀ t, Wo ops.toList t → t ∈ wrOps ops.toList [] := fun t ht => (mem_wrOps _ _).2 (.inr ht)
      refine vcDraw_any hfa hb (drawSteps_env hW _ 0 (fun _ h => h) h2) ?_ _ _ ρ a _ (by simp) hr ?_ ?_
      · intro D ρ' a' w' hr' hD hA
        have h4 := allDone_elim _ (h3 D) (fun i hi => hD i (by simpa using hi))
        exact ⟨ρ', hr', forallL_inst _ _ _ h4 ρ' (fun t ht => hA.2 t fun hw => ht (hW t hw)) w' hA.1⟩
      · have : (fun j => (Array.replicate ops.size false).getD j false) = fun _ => false := by
          funext j
          simp only [Array.getD_eq_getD_getElem?, Array.getElem?_replicate]
          split <;> rfl
        rw [this]; exact ⟨h1, Agr.refl _ _⟩
      · intro k hk; omega
    | false =>
      refine wp_region ?_
      have := vcOps_sound (Q := post n Q) hfa hf2 _ ops.toList 0 ρ a w _ (Nat.lt_succ_self _) rfl hr h fun ρ' a' w' hr' hh => ⟨ρ', hr', hh⟩
      simpa [List.range_eq_range'] using this
  | .seq x y, an, Q, ρ, w, a, hr, hf, h => by
    simp only [fits, Bool.and_eq_true] at hf
    simp only [vc] at h
    cases hc : an.cut with
    | none =>
      rw [hc] at h
      simp only [] at h
      refine wp_seq (wp_mono (vc_sound hm x _ _ ρ w a hr hf.1 h) fun e a' w' => ?_)
      exact post_then (fun ρ' hr' hh => vc_sound hm y _ _ ρ' w' a' hr' hf.2 hh) (fun e' ρ' hr' hh => ⟨ρ', hr', hh⟩) e
    | some lv =>
      rw [hc] at h
      simp only [] at h
      obtain ⟨J, h1, h2⟩ := h
      have h1' := vc_mono x _ _ (thenE (fun ρ' w' => ap lv J ρ' w' ∧ Agr (Wc x) ρ ρ') Q) ρ w h1 fun e ρ' w' ha =>
        thenE_cases (fun hh => ⟨hh, ha⟩) (fun _ => id) e
      refine wp_seq (wp_mono (vc_sound hm x _ _ ρ w a hr hf.1 h1') fun e a' w' => ?_)
      refine post_then (fun ρ' hr' hh => ?_) (fun e' ρ' hr' hh => ⟨ρ', hr', hh⟩) e
      refine vc_sound hm y _ _ ρ' w' a' hr' hf.2 (forallL_inst _ _ _ h2 ρ' (fun t ht => hh.2 t fun hw => ht ?_) w' hh.1)
      exact (mem_wr x []).2 (.inr hw)
  | .cond x c d, an, Q, ρ, w, a, hr, hf, h => by
    simp only [fits, Bool.and_eq_true] at hf
    simp only [vc] at h
    have he := hr.eval hf.1.1
    unfold CondV at h
    split at h
    · rename_i t ht
      rw [ht] at he
      refine wp_cond he ?_
      split at h
      · rename_i e; rw [if_pos e]; exact vc_sound hm c _ _ ρ w a hr hf.1.2 h
      · rename_i e; rw [if_neg e]; exact vc_sound hm d _ _ ρ w a hr hf.2 h
    · exact h.elim
  | .block id c, an, Q, ρ, w, a, hr, hf, h => by
    simp only [fits] at hf
    simp only [vc] at h
    refine wp_block (wp_mono (vc_sound hm c _ _ ρ w a hr hf h) fun e a' w' => ?_)
    rintro ⟨ρ', hr', hh⟩
    cases e with
    | exit id' =>
      simp only [blockE] at hh
      simp only [Exit.inBlock]
      by_cases e : id' = id
      · have : Nat.beq id' id = true := by simpa using e
        rw [this] at hh
        rw [if_pos e]; exact ⟨ρ', hr', hh⟩
      · have : Nat.beq id' id = false := by simpa [← Bool.not_eq_true] using e
        rw [this] at hh
        rw [if_neg e]; exact ⟨ρ', hr', hh⟩
    | _ => exact ⟨ρ', hr', hh⟩
  | .loop c, an, Q, ρ, w, a, hr, hf, h => by
    simp only [fits] at hf
    simp only [vc] at h
    obtain ⟨I, μ, h1, h2⟩ := h
    refine wp_loop (fun a' w' => ∃ ρ', Rel n ρ' a' ∧ Agr (Wc c) ρ ρ' ∧ ap an.live I ρ' w') (fun a' w' => ap an.live μ (envOf a') w')
      ⟨ρ, hr, Agr.refl _ _, h1⟩ ?_
    rintro a' w' ⟨ρ', hr', ha', hI⟩
    have h2' := forallL_inst _ _ _ h2 ρ' (fun t ht => ha' t fun hw => ht ((mem_wr c []).2 (.inr hw))) w' hI
    have h3 := vc_mono c _ _ (thenE (fun ρ'' w'' => (ap an.live I ρ'' w'' ∧ ap an.live μ ρ'' w'' < ap an.live μ ρ' w') ∧ Agr (Wc c) ρ' ρ'') Q) ρ' w' h2'
      fun e ρ'' w'' ha => thenE_cases (fun hh => ⟨hh, ha⟩) (fun _ => id) e
    refine wp_mono (vc_sound hm c _ _ ρ' w' a' hr' hf h3) fun e a'' w'' => ?_
    refine post_then (fun ρ'' hr'' hh => ⟨⟨ρ'', hr'', ha'.trans hh.2, hh.1.1⟩, ?_⟩) (fun e' ρ'' hr'' hh => ⟨ρ'', hr'', hh⟩) e
    rw [← hr''.env, ← hr'.env]
    exact hh.1.2
  | .scope .., _, _, _, _, _, _, _, h | .label .., _, _, _, _, _, _, _, h | .goto .., _, _, _, _, _, _, _, h | .refuse .., _, _, _, _, _, _, _, h
  | .rangeFunc .., _, _, _, _, _, _, _, h => h.elim
end sound

/- the results -/
def LoadV (P : Program) (T : TypeId) (p : Value) (w : World) (K : Value → Prop) : Prop :=
  ∃ v, (do loadVar T (← asAddr p) : Sem Value).run P w = .ok v w ∧ K v
def retL (P : Program) : List ResultVar → Env → World → (List Value → Prop) → Prop
  | [], _, _, K => K []
  | .tmp t :: rs, ρ, w, K => retL P rs ρ w fun vs => K (ρ t :: vs)
  | .cell t T :: rs, ρ, w, K => LoadV P T (ρ t) w fun v => retL P rs ρ w fun vs => K (v :: vs)
def retV : List Value → Value
  | [v] => v
  | vs => .tuple vs.toArray
def retE (P : Program) (rs : List ResultVar) (ρ : Env) (w : World) (R : Ending → World → Prop) : Prop :=
  retL P rs ρ w fun vs => R (.returned (retV vs)) w
def retQ (P : Program) (rs : List ResultVar) (R : Ending → World → Prop) : Exit → Env → World → Prop
  | .normal, ρ, w | .ret, ρ, w => retE P rs ρ w R
  | _, _, _ => False

def resM (tmps : Array Value) : ResultVar → Sem Value
  | .tmp t => pure (tmps.getD t undef)
  | .cell t T => do loadVar T (← asAddr (tmps.getD t undef))
theorem results_eq (fn : Func) (tmps : Array Value) : results fn tmps = (do
    let vs ← fn.results.mapM (resM tmps)
    pure (if h : vs.size = 1 then vs[0] else .tuple vs)) := by
  unfold results
  congr 2
theorem retL_run {P : Program} {a : Act} {w : World} : ∀ (rs : List ResultVar) (K : List Value → Prop), retL P rs (envOf a) w K →
    ∃ vs, (rs.mapM (resM a.tmps)).run P w = .ok vs w ∧ vs.length = rs.length ∧ K vs
  | [], K, h => ⟨[], by simp, rfl, h⟩
  | .tmp t :: rs, K, h => by
    obtain ⟨vs, h1, h2, h3⟩ := retL_run rs _ h
    refine ⟨_ :: vs, ?_, by simp [h2], h3⟩
    rw [List.mapM_cons]
    simp only [Sem.run_bind, resM, Sem.run_pure, Result.andThen_ok, h1]
    rfl
  | .cell t T :: rs, K, h => by
    obtain ⟨v, h0, h⟩ := h
    obtain ⟨vs, h1, h2, h3⟩ := retL_run rs _ h
    refine ⟨v :: vs, ?_, by simp [h2], h3⟩
    rw [List.mapM_cons]
    have h0' : (resM a.tmps (.cell t T)).run P w = .ok v w := h0
    simp only [Sem.run_bind, h0', Result.andThen_ok, h1, Sem.run_pure]

theorem results_run {P : Program} {fn : Func} {a : Act} {w : World} {R : Ending → World → Prop}
    (h : retE P fn.results.toList (envOf a) w R) : ∃ v, (results fn a.tmps).run P w = .ok v w ∧ R (.returned v) w := by
  obtain ⟨vs, h1, h2, h3⟩ := retL_run fn.results.toList _ h
  refine ⟨_, ?_, h3⟩
  rw [results_eq, Array.mapM_eq_mapM_toList]
  simp only [Sem.run_bind, Sem.run_map, h1, Result.andThen_ok, Sem.run_pure]
  congr 1
  match vs with
  | [] => simp [retV]
  | [v] => simp [retV]
  | v :: u :: r => simp [retV]

def initE : Nat → List Value → Env → Env
  | _, [], ρ => ρ
  | k, v :: vs, ρ => initE (k + 1) vs (upd ρ k v)
theorem initE_at : ∀ (l : List Value) (k : Nat) (ρ : Env) (t : Nat), initE k l ρ t = if k ≤ t ∧ t < k + l.length then (l[t - k]?).getD undef else ρ t
  | [], k, ρ, t => by simp [initE]; intro h1 h2; omega
  | v :: vs, k, ρ, t => by
    rw [initE, initE_at vs (k + 1) _ t]
    by_cases h : t = k
    · subst h
      rw [if_neg (by omega), if_pos (by simp), upd_same]
      simp
    · rw [upd_ne _ _ h]
      by_cases h1 : k + 1 ≤ t ∧ t < k + 1 + vs.length
      · rw [if_pos h1, if_pos (by simp; omega)]
        rw [show t - k = (t - (k + 1)) + 1 by omega, List.getElem?_cons_succ]
      · rw [if_neg h1, if_neg (by simp; omega)]

theorem calls_of_vc {P : Program} {f : FuncId} {fn : Func} {c : Code} {n : Nat} (an : An) {args : List Value} {w : World} {R : Ending → World → Prop}
    (hm : P.follows .mixedOrders = true) (hf : P.funcs[f]? = some fn) (hb : fn.body = some c) (hn : fn.ntmps = n) (hl : Nat.ble args.length n = true)
    (hfit : fits n c = true) (h : vc P c an (retQ P fn.results.toList R) (initE 0 args fun _ => undef) w) : Calls P f args.toArray w R := by
  have hl' : args.length ≤ n := Nat.le_of_ble_eq_true hl
  refine calls_of_wp hf hb ?_
  have hr : Rel n (initE 0 args fun _ => undef) { tmps := args.toArray ++ Array.replicate (fn.ntmps - args.toArray.size) undef, defers := [] } := by
    refine ⟨by simp; omega, fun t ht => ?_, fun t ht => ?_, rfl⟩
    · rw [initE_at]
      by_cases h1 : t < args.length
      · rw [if_pos (by omega)]
        simp [Array.getElem?_append, h1]
      · rw [if_neg (by omega)]
        rw [Array.getElem?_append_right (by simp; omega), Array.getElem?_replicate, if_pos (by simp; omega)]
    · rw [initE_at, if_neg (by omega)]
  refine wp_mono (vc_sound hm c an _ _ w _ hr hfit h) fun e a' w' => ?_
  rintro ⟨ρ', hr', hh⟩
  rw [hr'.env] at hh
  cases e with
  | normal =>
    obtain ⟨v, h1, h2⟩ := results_run hh
    exact ⟨hr'.defers, v, h1, h2⟩
  | ret =>
    obtain ⟨v, h1, h2⟩ := results_run hh
    exact ⟨hr'.defers, v, h1, h2⟩
  | _ => exact hh.elim

def bodyOf (fn : Func) : Code := fn.body.getD .skip
def ready (fn : Func) (k : Nat) : Bool := fn.body.isSome && Nat.ble k fn.ntmps && fits fn.ntmps (bodyOf fn)
theorem calls_sh {P : Program} {f : FuncId} {fn : Func} (an : An) (args : List Value) {w : World} {R : Ending → World → Prop} {p : Prop}
    (hm : P.follows .mixedOrders = true) (hf : P.funcs[f]? = some fn) (hr : ready fn args.length = true)
    (h : p = vc P (bodyOf fn) an (retQ P fn.results.toList R) (initE 0 args fun _ => undef) w) (hp : p) : Calls P f args.toArray w R := by
  simp only [ready, Bool.and_eq_true] at hr
  obtain ⟨⟨h1, h2⟩, h3⟩ := hr
  refine calls_of_vc an hm hf (c := bodyOf fn) ?_ rfl h2 h3 (h ▸ hp)
  unfold bodyOf
  cases hb : fn.body with
  | none => rw [hb] at h1; cases h1
  | some c => rfl

end Go.Proofs.YtmnnpgdeecnfpaaGreat

/- Replicated logs: what holds of each node and letter, and how a step of one node keeps it for the others. -/
import Derived.Test.YtfadalgikdffeaaSB
set_option linter.unusedVariables false
set_option linter.unusedSimpArgs false
namespace Go.Proofs.Ytfadalgikdffeaa.EVT
open Go Go.EV

structure RN (N : Nat) (c : Cast) (h : Gh) (i : Nat) (r : Rep) : Prop where
  nd : Node N c i r.1
  ok : okR r
  good : Good h.g r.2.2.1
  led : r.1.2.2.2.1 = 2 → h.el r.1.2.2.1 = true ∧ h.ld r.1.2.2.1 = (i : Int) ∧ h.g r.1.2.2.1 = r.2.2.1 ∧ ∀ m : Nat, m < N → r.2.2.2.getD m 0 ≤ (h.a m r.1.2.2.1 : Int)
  cand : r.1.2.2.2.1 = 1 → (h.el r.1.2.2.1 = true → h.ld r.1.2.2.1 ≠ (i : Int)) ∧ h.d i r.1.2.2.1 = r.2.2.1
  own : ∀ t, t ≤ r.1.2.2.1 → ∀ k, 1 ≤ k → k ≤ h.a i t → trm (h.g t) k = t → (h.g t).take k <+: r.2.2.1 ∨ ∃ u, u ≤ r.1.2.2.1 ∧ Bad h t k u
  now : (h.g r.1.2.2.1).take (h.a i r.1.2.2.1) <+: r.2.2.1
  fut : ∀ t, r.1.2.2.1 < t → h.a i t = 0
  com : ComOk N h r.1.2.2.1 r.2.1 r.2.2.1
structure LOK (N : Nat) (c : Cast) (h : Gh) (l : Let) : Prop where
  base : Lok N c l
  ask : l.1 = 1 → 0 ≤ l.2.1 ∧ c l.2.1.toNat l.2.2.2.1 = l.2.1 ∧ l.2.2.2.2.1 = ((h.d l.2.1.toNat l.2.2.2.1).length : Int) ∧ l.2.2.2.2.2.1 = trm (h.d l.2.1.toNat l.2.2.2.1) (h.d l.2.1.toNat l.2.2.2.1).length
  app : l.1 = 3 → h.el l.2.2.2.1 = true ∧ ∃ a : Nat, l.2.2.2.2.1 = (a : Int) ∧ a + l.2.2.2.2.2.2.2.2.length ≤ (h.g l.2.2.2.1).length ∧ l.2.2.2.2.2.2.2.2 = ((h.g l.2.2.2.1).drop a).take l.2.2.2.2.2.2.2.2.length ∧ l.2.2.2.2.2.1 = trm (h.g l.2.2.2.1) a ∧
    (0 ≤ l.2.2.2.2.2.2.1 ∧ l.2.2.2.2.2.2.1 ≤ ((h.g l.2.2.2.1).length : Int)) ∧ ComOk N h l.2.2.2.1 l.2.2.2.2.2.2.1 (h.g l.2.2.2.1)
  ack : l.1 = 4 → l.2.2.2.2.2.2.2.1 = true → 0 ≤ l.2.1 ∧ l.2.2.2.2.1 ≤ (h.a l.2.1.toNat l.2.2.2.1 : Int)
/-- A step of node i. -/
structure Stp (i : Nat) (c c' : Cast) (h h' : Gh) : Prop where
  ext : Ext c c'
  oth : ∀ m, m ≠ i → ∀ t, c' m t = c m t
  gr : Gr c h h'
  a : ∀ m, m ≠ i → ∀ t, h'.a m t = h.a m t
  d : ∀ m, m ≠ i → ∀ t, h'.d m t = h.d m t
  g : ∀ t, h'.ld t ≠ (i : Int) → h'.g t = h.g t ∧ h'.el t = h.el t ∧ h'.ld t = h.ld t
theorem Stp.refl (i : Nat) (c : Cast) (h : Gh) : Stp i c c h h := ⟨Ext.refl c, fun _ _ _ => rfl, Gr.refl c h, fun _ _ _ => rfl, fun _ _ _ => rfl, fun _ _ => ⟨rfl, rfl, rfl⟩⟩
section
variable {N : Nat} {c c' : Cast} {h h' : Gh} {i j : Nat}
theorem ComOk.gr (hg : Gr c h h') (hi : Inv N c h) {T T' : Int} (hT : T ≤ T') {cm : Int} {L : Lg} (hc : ComOk N h T cm L) : ComOk N h' T' cm L := by
  rcases hc with hc | ⟨t, k, h1, h2, h3, h4⟩
  · exact .inl hc
  · exact .inr ⟨t, k, by omega, hg.cmt hi h2, h3, by rw [take_pre (hg.pre hi t) h2.2.2.1]; exact h4⟩
theorem own_gr (hg : Gr c h h') (hi : Inv N c h) {T T' : Int} (hT : T ≤ T') {m : Nat} (ha : ∀ t, h'.a m t = h.a m t) (hf : ∀ t, T < t → h.a m t = 0) {L : Lg}
    (ho : ∀ t, t ≤ T → ∀ k, 1 ≤ k → k ≤ h.a m t → trm (h.g t) k = t → (h.g t).take k <+: L ∨ ∃ u, u ≤ T ∧ Bad h t k u) :
    ∀ t, t ≤ T' → ∀ k, 1 ≤ k → k ≤ h'.a m t → trm (h'.g t) k = t → (h'.g t).take k <+: L ∨ ∃ u, u ≤ T' ∧ Bad h' t k u := by
  intro t ht k h1 h2 h3
  rw [ha] at h2
  have hk := hi.ack m t
  have hp := hg.pre hi t
  rw [trm_pre hp (by omega)] at h3
  rw [take_pre hp (by omega)]
  by_cases hTt : t ≤ T
  · rcases ho t hTt k h1 h2 h3 with h4 | ⟨u, h4, h5⟩
    · exact .inl h4
    · exact .inr ⟨u, by omega, hg.bad hi (by omega) h5⟩
  · rw [hf t (by omega)] at h2; omega
theorem RN.ext (hi : Inv N c h) (hs : Stp i c c' h h') (hj : j ≠ i) {r : Rep} (hr : RN N c h j r) : RN N c' h' j r := by
  have hne : ((j : Nat) : Int) ≠ (i : Int) := by omega
  refine ⟨hr.nd.ext hs.ext hs.oth hj, hr.ok, hs.gr.good hi hr.good, fun e => ?_, fun e => ?_, ?_, ?_, fun t ht => by rw [hs.a j hj]; exact hr.fut t ht, hr.com.gr hs.gr hi (Int.le_refl _)⟩
  · obtain ⟨a1, a2, a3, a4⟩ := hr.led e
    obtain ⟨b1, b2, _⟩ := hs.gr.el _ a1
    obtain ⟨b3, _, _⟩ := hs.g r.1.2.2.1 (by rw [b2, a2]; exact hne)
    exact ⟨b1, by rw [b2, a2], by rw [b3, a3], fun m hm => Int.le_trans (a4 m hm) (by have := hs.gr.a m r.1.2.2.1; omega)⟩
  · obtain ⟨a1, a2⟩ := hr.cand e
    refine ⟨fun h1 h2 => ?_, by rw [hs.d j hj]; exact a2⟩
    obtain ⟨_, b4, b5⟩ := hs.g r.1.2.2.1 (by rw [h2]; exact hne)
    exact a1 (by rw [← b4]; exact h1) (by rw [← b5]; exact h2)
  · exact own_gr hs.gr hi (Int.le_refl _) (hs.a j hj) hr.fut hr.own
  · have hk := hi.ack j r.1.2.2.1
    rw [hs.a j hj, take_pre (hs.gr.pre hi _) hk]
    exact hr.now
theorem LOK.ext (hi : Inv N c h) (hs : Stp i c c' h h') {l : Let} (hl : LOK N c h l) : LOK N c' h' l := by
  refine ⟨hl.base.ext hs.ext, fun e => ?_, fun e => ?_, fun e1 e2 => ?_⟩
  · obtain ⟨a1, a2, a3, a4⟩ := hl.ask e
    have hne : c l.2.1.toNat l.2.2.2.1 ≠ -1 := by rw [a2]; omega
    rw [hs.gr.d _ _ hne]
    exact ⟨a1, by rw [hs.ext _ _ hne]; exact a2, a3, a4⟩
  · obtain ⟨a1, a, a2, a3, a4, a5, a6, a7⟩ := hl.app e
    obtain ⟨b1, _, E, b2, _⟩ := hs.gr.el _ a1
    have hp := hs.gr.pre hi l.2.2.2.1
    have hlen := hp.length_le
    refine ⟨b1, a, a2, by omega, ?_, by rw [trm_pre hp (by omega)]; exact a5, by omega, ?_⟩
    · rw [b2, List.drop_append_of_le_length (by omega), List.take_append_of_le_length (by rw [List.length_drop]; omega)]
      exact a4
    · have := a7.gr hs.gr hi (Int.le_refl _)
      rcases this with h1 | ⟨t, k, h1, h2, h3, h4⟩
      · exact .inl h1
      · exact .inr ⟨t, k, h1, h2, h3, by rw [take_pre hp (by omega)]; exact h4⟩
  · obtain ⟨a1, a2⟩ := hl.ack e1 e2
    exact ⟨a1, Int.le_trans a2 (by have := hs.gr.a l.2.1.toNat l.2.2.2.1; omega)⟩
end
abbrev R0 : Rep := ((0, 0, 0, 0, 0, 0, []), 0, [], [])
structure SysR (N : Nat) (c : Cast) (h : Gh) (R : List Rep) (W : List Let) : Prop where
  n0 : 1 ≤ N
  n7 : N ≤ 7
  len : R.length = N
  inv : Inv N c h
  node : ∀ i, i < N → RN N c h i (R.getD i R0)
  lets : ∀ l ∈ W, LOK N c h l
theorem getD_setR {R : List Rep} {i j : Nat} {x d : Rep} (hi : i < R.length) : (R.set i x).getD j d = if i = j then x else R.getD j d := by
  simp only [List.getD_eq_getElem?_getD, List.getElem?_set]
  by_cases e : i = j
  · subst e; simp [hi]
  · simp [e]
theorem SysR.set {N : Nat} {c c' : Cast} {h h' : Gh} {R : List Rep} {W W' : List Let} (hs : SysR N c h R W) {i : Nat} (hi : i < N) (st : Stp i c c' h h') (hv : Inv N c' h') {r : Rep} (hr : RN N c' h' i r) (hW : ∀ l ∈ W', LOK N c' h' l ∨ l ∈ W) : SysR N c' h' (R.set i r) W' :=
  ⟨hs.n0, hs.n7, by rw [List.length_set]; exact hs.len, hv, fun j hj => by
    rw [getD_setR (by rw [hs.len]; exact hi)]
    split
    · rename_i e; subst e; exact hr
    · rename_i e
      exact (hs.node j hj).ext hs.inv st (Ne.symm e), fun l hl => by
    rcases hW l hl with h1 | h1
    · exact h1
    · exact (hs.lets l h1).ext hs.inv st⟩
/-! ### the ghosts' own facts, kept -/
section
variable {N : Nat} {c : Cast} {h h' : Gh}
theorem Inv.vot' (hi : Inv N c h) (hg : Gr c h h') (ha : ∀ m t', c m t' ≠ -1 → ∀ t, t < t' → h'.a m t = h.a m t) :
    ∀ m t', c m t' ≠ -1 → ∀ t, t < t' → ∀ k, 1 ≤ k → k ≤ h'.a m t → trm (h'.g t) k = t → (∃ L, Good h'.g L ∧ (h'.g t).take k <+: L ∧ upTo (h'.d (c m t').toNat t') L) ∨ ∃ u, u ≤ t' ∧ Bad h' t k u := by
  intro m t' hm t ht k h1 h2 h3
  rw [ha m t' hm t ht] at h2
  have hk := hi.ack m t
  have hp := hg.pre hi t
  rw [trm_pre hp (by omega)] at h3
  rw [take_pre hp (by omega)]
  have hsl := hi.slf m t' hm
  rw [hg.d _ _ (by rw [hsl.2]; omega)]
  rcases hi.vot m t' hm t ht k h1 h2 h3 with ⟨L, b1, b2, b3⟩ | ⟨u, b1, b2⟩
  · exact .inl ⟨L, hg.good hi b1, b2, b3⟩
  · exact .inr ⟨u, b1, hg.bad hi (by omega) b2⟩
theorem Inv.chose' (hi : Inv N c h) (hg : Gr c h h') (ha : ∀ m t', c m t' ≠ -1 → ∀ t, t < t' → h'.a m t = h.a m t) {t' : Int} {G : Lg} (hG : G <+: h'.g t')
    (hc : ∃ Q, Quor N Q ∧ ∀ m, Q m = true → c m t' ≠ -1 ∧ ∀ t, t < t' → ∀ k, 1 ≤ k → k ≤ h.a m t → trm (h.g t) k = t → (h.g t).take k <+: G ∨ ∃ u, u < t' ∧ Bad h t k u) :
    ∃ Q, Quor N Q ∧ ∀ m, Q m = true → c m t' ≠ -1 ∧ ∀ t, t < t' → ∀ k, 1 ≤ k → k ≤ h'.a m t → trm (h'.g t) k = t → (h'.g t).take k <+: h'.g t' ∨ ∃ u, u < t' ∧ Bad h' t k u := by
  obtain ⟨Q, hQ, hq⟩ := hc
  refine ⟨Q, hQ, fun m hm => ⟨(hq m hm).1, fun t ht k h1 h2 h3 => ?_⟩⟩
  rw [ha m t' (hq m hm).1 t ht] at h2
  have hk := hi.ack m t
  have hp := hg.pre hi t
  rw [trm_pre hp (by omega)] at h3
  rw [take_pre hp (by omega)]
  rcases (hq m hm).2 t ht k h1 h2 h3 with b | ⟨u, b1, b2⟩
  · exact .inl (b.trans hG)
  · exact .inr ⟨u, b1, hg.bad hi (by omega) b2⟩
/-- Who wins an election has all that was acknowledged by one of those that voted. -/
theorem elect_chose (hi : Inv N c h) {t' n : Int} (hn : Won N c t' n) (hel : h.el t' = false) {D : Lg} (hD : h.d n.toNat t' = D) (hr : ∀ e ∈ D, e.1 ≤ t') :
    ∃ Q, Quor N Q ∧ ∀ m, Q m = true → c m t' ≠ -1 ∧ ∀ t, t < t' → ∀ k, 1 ≤ k → k ≤ h.a m t → trm (h.g t) k = t → (h.g t).take k <+: D ∨ ∃ u, u < t' ∧ Bad h t k u := by
  obtain ⟨hn0, Q, hQ, hq⟩ := hn
  refine ⟨Q, hQ, fun m hm => ⟨by rw [hq m hm]; omega, fun t ht k h1 h2 h3 => ?_⟩⟩
  have hk : k ≤ (h.g t).length := Nat.le_trans h2 (hi.ack m t)
  rcases hi.vot m t' (by rw [hq m hm]; omega) t ht k h1 h2 h3 with ⟨L, b1, b2, b3⟩ | ⟨u, b1, b2⟩
  rotate_left
  · refine .inr ⟨u, ?_, b2⟩
    by_cases e : u = t'
    · subst e
      have := b2.2.1
      rw [hel] at this
      cases this
    · omega
  rw [hq m hm, hD] at b3
  have hkL : k ≤ L.length := by have := b2.length_le; rw [List.length_take] at this; omega
  have hL0 : L ≠ [] := fun e => by subst e; simp at hkL; omega
  obtain ⟨c1, c2⟩ := b1.last hL0
  obtain ⟨s, hsd⟩ : ∃ s, trm L L.length = s := ⟨_, rfl⟩
  rw [hsd] at c1 c2
  have ht1 : trm L k = t := by rw [trm_pre b2 (by rw [List.length_take]; omega), trm_take (Nat.le_refl _), h3]
  have hst : t ≤ s := by
    have h7 := trm_mono (hi.asc s) h1 hkL c1
    have e1 := trm_take (L := h.g s) (k := k) (n := L.length) hkL
    have e2 := trm_take (L := h.g s) (k := L.length) (n := L.length) (Nat.le_refl _)
    rw [← c2] at e1 e2
    rw [← e1, ← e2, ht1, hsd] at h7
    exact h7
  have ht0 : 1 ≤ t := by
    obtain ⟨e, he, he2⟩ := trm_mem (L := h.g t) (k := k) h1 hk
    rw [h3] at he2
    have := (hi.rng t e he).1
    omega
  have hgD : Good h.g D := by rw [← hD]; exact hi.dg _ _
  have hD0 : D ≠ [] := fun e => by
    subst e
    have e9 : trm ([] : Lg) ([] : Lg).length = 0 := rfl
    rcases b3 with b3 | ⟨b3, b4⟩
    · rw [e9] at b3; omega
    · rw [e9] at b3; omega
  have hDl : 1 ≤ D.length := by
    cases D with
    | nil => exact absurd rfl hD0
    | cons => simp
  obtain ⟨d1, d2⟩ := hgD.last hD0
  obtain ⟨u, hud⟩ : ∃ u, trm D D.length = u := ⟨_, rfl⟩
  rw [hud] at d1 d2
  rcases b3 with b3 | ⟨b3, b4⟩
  · rw [hud, hsd] at b3
    have hu : u < t' := by
      obtain ⟨e, he, he2⟩ := trm_mem (L := D) (k := D.length) hDl (Nat.le_refl _)
      have h5 := hr e he
      rw [he2, hud] at h5
      by_cases e3 : u = t'
      · exfalso
        rw [e3, hi.none t' hel, List.length_nil] at d1
        omega
      · omega
    have hel2 : h.el u = true := by
      cases e : h.el u with
      | true => rfl
      | false => rw [hi.none u e, List.length_nil] at d1; omega
    by_cases hpu : (h.g t).take k <+: h.g u
    · left
      have hDu : D <+: h.g u := by rw [d2]; exact List.take_prefix _ _
      by_cases hkD : k ≤ D.length
      · exact List.prefix_of_prefix_length_le hpu hDu (by rw [List.length_take]; omega)
      · exfalso
        have hDP := List.prefix_of_prefix_length_le hDu hpu (by rw [List.length_take]; omega)
        have e1 := trm_pre hDP (Nat.le_refl _)
        rw [hud, trm_take (by omega)] at e1
        obtain ⟨e, he, he2⟩ := trm_mem (L := h.g t) (k := D.length) hDl (by omega)
        have := (hi.rng t e he).2
        omega
    · exact .inr ⟨u, hu, by omega, hel2, hpu⟩
  · left
    rw [hud, hsd] at b3
    rw [b3] at d1 d2
    have h6 : L <+: D := by
      have p1 : L <+: h.g s := by rw [c2]; exact List.take_prefix _ _
      have p2 : D <+: h.g s := by rw [d2]; exact List.take_prefix _ _
      exact List.prefix_of_prefix_length_le p1 p2 b4
    exact b2.trans h6
end
end Go.Proofs.Ytfadalgikdffeaa.EVT
/- Replicated logs: the steps of one node. -/
set_option linter.unusedVariables false
set_option linter.unusedSimpArgs false
namespace Go.Proofs.Ytfadalgikdffeaa.EVT
open Go Go.EV

section
variable {N : Nat} {c : Cast} {h : Gh} {i : Nat}
theorem RN.up (hi : Inv N c h) {r : Rep} (hr : RN N c h i r) {b : Bal} (hb : Node N c i b) (hok : okR (b, r.2.1, r.2.2.1, [])) (ht : r.1.2.2.1 ≤ b.2.2.1) (h0 : b.2.2.2.1 = 0) : RN N c h i (b, r.2.1, r.2.2.1, []) := by
  refine ⟨hb, hok, hr.good, fun e => ?_, fun e => ?_, own_gr (Gr.refl c h) hi ht (fun _ => rfl) hr.fut hr.own, ?_, fun t h1 => hr.fut t (by dsimp only at h1; omega), hr.com.gr (Gr.refl c h) hi ht⟩
  · dsimp only at e; omega
  · dsimp only at e; omega
  · dsimp only
    by_cases e : b.2.2.1 = r.1.2.2.1
    · rw [e]; exact hr.now
    · rw [hr.fut _ (by omega), List.take_zero]; exact List.nil_prefix
/-- A leader marks what a quorum has. -/
theorem hasN_cnt : ∀ (mt : List Int) (k : Int), mt.length ≤ 7 → hasN mt k = cntf (fun m => decide (m < mt.length) && decide (k ≤ mt.getD m 0)) := by
  intro mt k hl
  unfold hasN cntf
  have key : ∀ (n : Nat), n ≤ mt.length → ((mt.take n).filter (fun m => decide (k ≤ m))).length = ((List.range n).filter (fun m => decide (m < mt.length) && decide (k ≤ mt.getD m 0))).length := by
    intro n
    induction n with
    | zero => intro _; simp
    | succ n ih =>
      intro hn
      have hn' : n < mt.length := by omega
      rw [List.take_add_one, List.getElem?_eq_getElem hn', List.range_succ, List.filter_append, List.filter_append, List.length_append, List.length_append, ih (by omega)]
      congr 1
      simp only [Option.toList_some]
      by_cases hk : k ≤ mt[n]
      · rw [List.filter_cons_of_pos (by simpa using hk), List.filter_cons_of_pos (by rw [getD_at 0 hn']; simp [hn', hk])]; simp
      · rw [List.filter_cons_of_neg (by simpa using hk), List.filter_cons_of_neg (by rw [getD_at 0 hn']; simp [hk])]; rfl
  have h7 : (List.range 7).filter (fun m => decide (m < mt.length) && decide (k ≤ mt.getD m 0)) = (List.range mt.length).filter (fun m => decide (m < mt.length) && decide (k ≤ mt.getD m 0)) := by
    have e : List.range 7 = List.range mt.length ++ (List.range (7 - mt.length)).map (mt.length + ·) := by
      rw [← List.range_add, show mt.length + (7 - mt.length) = 7 by omega]
    rw [e, List.filter_append]
    have : ((List.range (7 - mt.length)).map (mt.length + ·)).filter (fun m => decide (m < mt.length) && decide (k ≤ mt.getD m 0)) = [] := by
      rw [List.filter_eq_nil_iff]
      intro a ha
      obtain ⟨b, _, rfl⟩ := List.mem_map.1 ha
      simp only [Bool.and_eq_true, decide_eq_true_eq]
      omega
    rw [this, List.append_nil]
  have := key mt.length (Nat.le_refl _)
  rw [List.take_length] at this
  rw [this, h7]
theorem RN.commits {r : Rep} (hr : RN N c h i r) (hrole : r.1.2.2.2.1 = 2) : RN N c h i (commitR r) := by
  obtain ⟨l1, l2, l3, l4⟩ := hr.led hrole
  refine ⟨hr.nd, hr.ok.commits, hr.good, hr.led, hr.cand, hr.own, hr.now, hr.fut, ?_⟩
  obtain ⟨h1, h2⟩ := comN_le (b := r.1) (L := r.2.2.1) (mt := r.2.2.2) (cm := r.2.1) r.2.2.1.length
  rcases h2 with h2 | ⟨j, a1, a2, a3, a4, a5⟩
  · show ComOk N h r.1.2.2.1 (comN r.1 r.2.2.1 r.2.2.2 r.2.1 r.2.2.1.length) r.2.2.1
    rw [h2]; exact hr.com
  · show ComOk N h r.1.2.2.1 (comN r.1 r.2.2.1 r.2.2.2 r.2.1 r.2.2.1.length) r.2.2.1
    rw [a3]
    have hml := hr.ok.mlen
    unfold wantM at hml
    rw [if_pos hrole] at hml
    have hns := hr.nd.ns
    have hm7 := hr.ok.mlen7
    refine .inr ⟨r.1.2.2.1, j, Int.le_refl _, ⟨l1, a1, by rw [l3]; exact a2, by rw [l3]; exact a4, fun m => decide (m < r.2.2.2.length) && decide ((j : Int) ≤ r.2.2.2.getD m 0), ⟨fun n hn => ?_, ?_⟩, fun m hm => ?_⟩, Int.le_refl _, ?_⟩
    · simp only [Bool.and_eq_true, decide_eq_true_eq] at hn
      omega
    · rw [← hasN_cnt r.2.2.2 (j : Int) hm7]
      unfold quo at a5
      simp only [Bool.and_eq_true, decide_eq_true_eq] at a5
      omega
    · simp only [Bool.and_eq_true, decide_eq_true_eq] at hm
      have := l4 m (by omega)
      omega
    · rw [l3, Int.toNat_natCast]; exact List.prefix_refl _
/-- An election. -/
theorem elect (hi : Inv N c h) (hN : N ≤ 7) {b : Bal} {cm : Int} {L : Lg} {mt : List Int} (hn : Node N c i b) (hrole : b.2.2.2.1 = 2) (good : Good h.g L) (hd : h.d i b.2.2.1 = L) (hc : h.el b.2.2.1 = true → h.ld b.2.2.1 ≠ (i : Int))
    (own : ∀ t, t ≤ b.2.2.1 → ∀ k, 1 ≤ k → k ≤ h.a i t → trm (h.g t) k = t → (h.g t).take k <+: L ∨ ∃ u, u ≤ b.2.2.1 ∧ Bad h t k u) (fut : ∀ t, b.2.2.1 < t → h.a i t = 0) (com : ComOk N h b.2.2.1 cm L) (hok : okR (beginR (b, cm, L, mt))) (slf : c i b.2.2.1 = (i : Int)) :
    ∃ h', Stp i c c h h' ∧ Inv N c h' ∧ RN N c h' i (beginR (b, cm, L, mt)) ∧ (∀ t, h'.g t = h.g t ∨ h'.g t = L) := by
  have hwon := hn.led hrole
  have hel : h.el b.2.2.1 = false := by
    cases e : h.el b.2.2.1 with
    | false => rfl
    | true => exact absurd (Won.one hN (hi.won _ e).2.1 hwon) (hc e)
  have hg0 := hi.none _ hel
  obtain ⟨q1, q2, _, _, _, q6⟩ := chk_iff.1 hn.ok
  have ht1 : 1 ≤ b.2.2.1 := by
    by_cases e : b.2.2.1 = 0
    · rw [e, hrole] at q6
      simp [cons] at q6
    · omega
  have hrng : ∀ e ∈ L, 1 ≤ e.1 ∧ e.1 ≤ b.2.2.1 := fun e he => by
    have := hok.rng e he
    exact ⟨this.1, this.2.1⟩
  generalize hT : b.2.2.1 = T at *
  let h' : Gh := { el := fun t => if t = T then true else h.el t, ld := fun t => if t = T then (i : Int) else h.ld t, g := fun t => if t = T then L else h.g t, a := fun m t => if m = i ∧ t = T then L.length else h.a m t, d := h.d }
  have e1 : h'.el T = true := if_pos rfl
  have e2 : h'.ld T = (i : Int) := if_pos rfl
  have e3 : h'.g T = L := if_pos rfl
  have e4 : h'.a i T = L.length := if_pos ⟨rfl, rfl⟩
  have n1 : ∀ t, t ≠ T → h'.el t = h.el t := fun t ht => if_neg ht
  have n2 : ∀ t, t ≠ T → h'.ld t = h.ld t := fun t ht => if_neg ht
  have n3 : ∀ t, t ≠ T → h'.g t = h.g t := fun t ht => if_neg ht
  have n4 : ∀ m t, ¬ (m = i ∧ t = T) → h'.a m t = h.a m t := fun m t ht => if_neg ht
  have n5 : h'.d = h.d := rfl
  clear_value h'
  have a0 : ∀ m, h.a m T = 0 := fun m => by have := hi.ack m T; rw [hg0, List.length_nil] at this; omega
  have gr : Gr c h h' := by
    refine ⟨fun t ht => ?_, fun m t => ?_, fun _ _ _ => by rw [n5]⟩
    · have hne : t ≠ T := fun e => by rw [e, hel] at ht; cases ht
      rw [n1 t hne, n2 t hne, n3 t hne]
      exact ⟨ht, rfl, [], by simp, by simp⟩
    · by_cases e : m = i ∧ t = T
      · rw [e.2, a0]; omega
      · rw [n4 m t e]; exact Nat.le_refl _
  have ha : ∀ m t', c m t' ≠ -1 → ∀ t, t < t' → h'.a m t = h.a m t := fun m t' hm t ht => by
    refine n4 m t fun e => ?_
    rw [e.1] at hm
    rw [e.2] at ht
    exact hm (hn.later t' (by rw [hT]; exact ht))
  have st : Stp i c c h h' := ⟨Ext.refl c, fun _ _ _ => rfl, gr, fun m hm t => n4 m t fun e => hm e.1, fun _ _ _ => by rw [n5], fun t ht => by
    have hne : t ≠ T := fun e => by rw [e] at ht; exact ht e2
    exact ⟨n3 t hne, n1 t hne, n2 t hne⟩⟩
  refine ⟨h', st, ⟨fun t => ?_, fun t => ?_, fun t => ?_, fun t ht => ?_, fun m t => ?_, fun t ht => ?_, fun n t => by rw [n5]; exact gr.good hi (hi.dg n t), hi.slf, hi.vot' gr ha, fun t' ht' => ?_⟩, ?_, fun t => ?_⟩
  · by_cases e : t = T
    · rw [e, e3]; exact gr.good hi good
    · rw [n3 t e]; exact gr.good hi (hi.good t)
  · by_cases e : t = T
    · rw [e, e3]; exact hrng
    · rw [n3 t e]; exact hi.rng t
  · by_cases e : t = T
    · rw [e, e3]; exact hok.asc
    · rw [n3 t e]; exact hi.asc t
  · by_cases e : t = T
    · rw [e, e1] at ht; cases ht
    · rw [n1 t e] at ht; rw [n3 t e]; exact hi.none t ht
  · by_cases e : t = T
    · rw [e, e3]
      by_cases em : m = i
      · rw [em, e4]; exact Nat.le_refl _
      · rw [n4 m T (fun x => em x.1), a0]; omega
    · rw [n3 t e, n4 m t (fun x => e x.2)]; exact hi.ack m t
  · by_cases e : t = T
    · rw [e, e2, Int.toNat_natCast]; exact ⟨ht1, hwon, slf⟩
    · rw [n1 t e] at ht; rw [n2 t e]; exact hi.won t ht
  · by_cases e : t' = T
    · rw [e]
      exact hi.chose' gr ha (G := L) (by rw [e3]; exact List.prefix_refl _) (elect_chose hi hwon hel (by rw [Int.toNat_natCast]; exact hd) (fun x hx => (hrng x hx).2))
    · rw [n1 t' e] at ht'
      exact hi.chose' gr ha (gr.pre hi t') (hi.chose t' ht')
  · have hb1 : (beginR (b, cm, L, mt)).1 = b := rfl
    have hb2 : (beginR (b, cm, L, mt)).2.1 = cm := rfl
    have hb3 : (beginR (b, cm, L, mt)).2.2.1 = L := rfl
    refine ⟨hn, hok, gr.good hi good, fun _ => ?_, fun e => ?_, ?_, ?_, fun t ht => ?_, ?_⟩
    · rw [hb1, hT, e1, e2, e3, hb3]
      refine ⟨rfl, rfl, rfl, fun m hm => ?_⟩
      show ((List.replicate b.2.1.toNat (0 : Int)).set b.1.toNat (L.length : Int)).getD m 0 ≤ _
      have hnd := hn.nd
      have hns := hn.ns
      by_cases em : m = i
      · rw [em, getD_at _ (by rw [List.length_set, List.length_replicate]; omega), e4]
        have : b.1.toNat = i := by omega
        rw [List.getElem_set, if_pos this]
        exact Int.le_refl _
      · rw [getD_at _ (by rw [List.length_set, List.length_replicate]; omega), List.getElem_set, if_neg (by omega), List.getElem_replicate]
        omega
    · rw [hb1, hrole] at e; omega
    · rw [hb1, hb3, hT]
      intro t ht k k1 k2 k3
      by_cases e : t = T
      · left; rw [e, e3]; exact List.take_prefix _ _
      · have := own_gr (m := i) (h' := h') gr hi (Int.le_refl T) (L := L)
        rw [n4 i t (fun x => e x.2)] at k2
        rw [n3 t e] at k3 ⊢
        have hk := hi.ack i t
        rcases own t ht k k1 k2 k3 with o | ⟨u, o1, o2⟩
        · exact .inl o
        · exact .inr ⟨u, o1, gr.bad hi (by omega) o2⟩
    · rw [hb1, hb3, hT, e3, e4, List.take_length]; exact List.prefix_refl _
    · rw [hb1, hT] at ht
      rw [n4 i t (fun x => by omega)]; exact fut t ht
    · rw [hb1, hb2, hb3, hT]; exact com.gr gr hi (Int.le_refl _)
  · by_cases e : t = T
    · rw [e]; exact .inr e3
    · exact .inl (n3 t e)
/-- A leader adds a command. -/
theorem propose (hi : Inv N c h) {r : Rep} (hr : RN N c h i r) (hiN : i < N) {x : List UInt8} (hx : proE r x = 0) : ∃ h', Stp i c c h h' ∧ Inv N c h' ∧ RN N c h' i (propR r x) ∧ (∀ t, (h'.g t).length ≤ (h.g t).length + 1) := by
  have hrole : r.1.2.2.2.1 = 2 := by
    unfold proE at hx
    split at hx
    · omega
    · rename_i e; simpa using e
  obtain ⟨l1, l2, l3, l4⟩ := hr.led hrole
  have hokp := hr.ok.prop hx
  have hT1 := (hi.won _ l1).1
  have hrng0 := hr.ok.rng
  have hasc0 := hr.ok.asc
  have hml := hr.ok.mlen
  unfold wantM at hml
  rw [if_pos hrole] at hml
  generalize hT : r.1.2.2.1 = T at *
  let h' : Gh := { h with g := fun t => if t = T then r.2.2.1 ++ [(T, x)] else h.g t, a := fun m t => if m = i ∧ t = T then r.2.2.1.length + 1 else h.a m t }
  have e3 : h'.g T = r.2.2.1 ++ [(T, x)] := if_pos rfl
  have e4 : h'.a i T = r.2.2.1.length + 1 := if_pos ⟨rfl, rfl⟩
  have n3 : ∀ t, t ≠ T → h'.g t = h.g t := fun t ht => if_neg ht
  have n4 : ∀ m t, ¬ (m = i ∧ t = T) → h'.a m t = h.a m t := fun m t ht => if_neg ht
  have n1 : h'.el = h.el := rfl
  have n2 : h'.ld = h.ld := rfl
  have n5 : h'.d = h.d := rfl
  clear_value h'
  have gr : Gr c h h' := by
    refine ⟨fun t ht => ⟨by rw [n1]; exact ht, by rw [n2], ?_⟩, fun m t => ?_, fun _ _ _ => by rw [n5]⟩
    · by_cases e : t = T
      · rw [e, e3, l3]; exact ⟨[(T, x)], rfl, by simp⟩
      · rw [n3 t e]; exact ⟨[], by simp, by simp⟩
    · by_cases e : m = i ∧ t = T
      · rw [e.1, e.2, e4]; have := hi.ack i T; rw [l3] at this; omega
      · rw [n4 m t e]; exact Nat.le_refl _
  have ha : ∀ m t', c m t' ≠ -1 → ∀ t, t < t' → h'.a m t = h.a m t := fun m t' hm t ht => by
    refine n4 m t fun e => ?_
    rw [e.1] at hm
    rw [e.2] at ht
    exact hm (hr.nd.later t' (by rw [hT]; exact ht))
  have st : Stp i c c h h' := ⟨Ext.refl c, fun _ _ _ => rfl, gr, fun m hm t => n4 m t fun e => hm e.1, fun _ _ _ => by rw [n5], fun t ht => by
    have hne : t ≠ T := fun e => by rw [e, n2, l2] at ht; exact ht rfl
    exact ⟨n3 t hne, by rw [n1], by rw [n2]⟩⟩
  have hgT : Good h'.g (r.2.2.1 ++ [(T, x)]) := by
    intro k k1 k2
    by_cases hk : k ≤ r.2.2.1.length
    · have := gr.good hi hr.good k k1 hk
      rw [trm_pre (List.prefix_append _ _) hk, List.take_append_of_le_length hk]
      exact this
    · have hk' : k = r.2.2.1.length + 1 := by simp at k2; omega
      have et : trm (r.2.2.1 ++ [(T, x)]) k = T := by
        unfold trm
        rw [if_neg (by omega), hk', Nat.add_sub_cancel, List.getD_eq_getElem?_getD, List.getElem?_append_right (Nat.le_refl _), Nat.sub_self]
        rfl
      rw [et, e3]
      exact ⟨k2, rfl⟩
  have hinv : Inv N c h' := by
    refine ⟨fun t => ?_, fun t => ?_, fun t => ?_, fun t ht => ?_, fun m t => ?_, fun t ht => ?_, fun n t => by rw [n5]; exact gr.good hi (hi.dg n t), hi.slf, hi.vot' gr ha, fun t' ht' => ?_⟩
    · by_cases e : t = T
      · rw [e, e3]; exact hgT
      · rw [n3 t e]; exact gr.good hi (hi.good t)
    · by_cases e : t = T
      · rw [e, e3]
        intro y hy
        rcases List.mem_append.1 hy with hy | hy
        · have := hrng0 y hy; omega
        · simp only [List.mem_singleton] at hy; subst hy; exact ⟨hT1, Int.le_refl _⟩
      · rw [n3 t e]; exact hi.rng t
    · by_cases e : t = T
      · rw [e, e3, List.pairwise_append]
        refine ⟨hasc0, by simp, fun y hy z hz => ?_⟩
        simp only [List.mem_singleton] at hz; subst hz; exact (hrng0 y hy).2.1
      · rw [n3 t e]; exact hi.asc t
    · rw [n1] at ht
      have hne : t ≠ T := fun e => by rw [e, l1] at ht; cases ht
      rw [n3 t hne]; exact hi.none t ht
    · by_cases e : m = i ∧ t = T
      · rw [e.1, e.2, e4, e3]; simp
      · rw [n4 m t e]
        exact Nat.le_trans (hi.ack m t) (gr.pre hi t).length_le
    · rw [n1] at ht; rw [n2]; exact hi.won t ht
    · rw [n1] at ht'
      exact hi.chose' gr ha (gr.pre hi t') (hi.chose t' ht')
  refine ⟨h', st, hinv, ?_, fun t => ?_⟩
  rotate_left
  · by_cases e : t = T
    · rw [e, e3, l3]; simp
    · rw [n3 t e]; omega
  have hok1 : okR (propR r x) := hokp
  refine RN.commits (r := (r.1, r.2.1, r.2.2.1 ++ [(r.1.2.2.1, x)], r.2.2.2.set r.1.1.toNat ((r.2.2.1.length + 1 : Nat) : Int))) ?_ hrole
  have hpre : r.2.2.1 <+: r.2.2.1 ++ [(T, x)] := List.prefix_append _ _
  have hnd := hr.nd.nd
  have hns := hr.nd.ns
  rw [hT]
  refine ⟨hr.nd, ?_, hgT, fun _ => ?_, fun e => by dsimp only at e; omega, ?_, ?_, fun t ht => ?_, ?_⟩
  · have h1 : okR (commitR (r.1, r.2.1, r.2.2.1 ++ [(r.1.2.2.1, x)], r.2.2.2.set r.1.1.toNat ((r.2.2.1.length + 1 : Nat) : Int))) := hokp
    rw [hT] at h1
    have hcm := hr.ok.com
    exact ⟨hr.ok.bal, h1.len, h1.rng, h1.asc, ⟨hcm.1, by simp; omega⟩, h1.mlen, h1.mrng, h1.own⟩
  · dsimp only
    rw [hT, n1, n2, e3]
    refine ⟨l1, l2, rfl, fun m hm => ?_⟩
    by_cases em : m = i
    · rw [em, e4, getD_at _ (by rw [List.length_set]; omega), List.getElem_set, if_pos (by omega)]
      exact Int.le_refl _
    · rw [n4 m T (fun q => em q.1), getD_at _ (by rw [List.length_set]; omega), List.getElem_set, if_neg (by omega), ← getD_at 0]
      exact l4 m hm
  · dsimp only
    rw [hT]
    intro t ht k k1 k2 k3
    by_cases e : t = T
    · left; rw [e, e3]; exact List.take_prefix _ _
    · rw [n4 i t (fun q => e q.2)] at k2
      rw [n3 t e] at k3 ⊢
      have hk := hi.ack i t
      have ho := hr.own t (by rw [hT]; exact ht) k k1 k2 k3
      rw [hT] at ho
      rcases ho with o | ⟨u, o1, o2⟩
      · exact .inl (o.trans hpre)
      · exact .inr ⟨u, o1, gr.bad hi (by omega) o2⟩
  · dsimp only
    rw [hT, e3]; exact List.take_prefix _ _
  · dsimp only at ht
    rw [hT] at ht
    rw [n4 i t (fun q => by omega)]; exact hr.fut t (by rw [hT]; exact ht)
  · dsimp only
    rw [hT]
    have hcm := hr.ok.com
    have h1 := hr.com
    rw [hT] at h1
    rcases h1.gr gr hi (Int.le_refl _) with h2 | ⟨t, k, b1, b2, b3, b4⟩
    · exact .inl h2
    · exact .inr ⟨t, k, b1, b2, b3, by rw [List.take_append_of_le_length (by omega)]; exact b4⟩
end
end Go.Proofs.Ytfadalgikdffeaa.EVT
/- Replicated logs: entries that are taken over, campaigns, votes. -/
set_option linter.unusedVariables false
set_option linter.unusedSimpArgs false
namespace Go.Proofs.Ytfadalgikdffeaa.EVT
open Go Go.EV

theorem take_le_pre {α : Type} (L : List α) {k n : Nat} (h : k ≤ n) : L.take k <+: L.take n := by
  rw [← Nat.min_eq_left h, ← List.take_take]; exact List.take_prefix _ _
theorem trm_getD (L : Lg) (k : Nat) : trm L (k + 1) = (L.getD k (0, [])).1 := by
  unfold trm; rw [if_neg (by omega), Nat.add_sub_cancel]
section
variable {N : Nat} {c c' c'' : Cast} {h h' h'' : Gh} {i : Nat}
theorem Stp.trans (s1 : Stp i c c' h h') (s2 : Stp i c' c'' h' h'') : Stp i c c'' h h'' := by
  refine ⟨fun m t hm => ?_, fun m hm t => by rw [s2.oth m hm, s1.oth m hm], ⟨fun t ht => ?_, fun m t => Nat.le_trans (s1.gr.a m t) (s2.gr.a m t), fun n t hn => ?_⟩, fun m hm t => by rw [s2.a m hm, s1.a m hm], fun m hm t => by rw [s2.d m hm, s1.d m hm], fun t ht => ?_⟩
  · have := s1.ext m t hm
    rw [s2.ext m t (by rw [this]; exact hm), this]
  · obtain ⟨a1, a2, E, a3, a4⟩ := s1.gr.el t ht
    obtain ⟨b1, b2, F, b3, b4⟩ := s2.gr.el t a1
    exact ⟨b1, by rw [b2, a2], E ++ F, by rw [b3, a3, List.append_assoc], fun e he => by
      rcases List.mem_append.1 he with he | he
      · exact a4 e he
      · exact b4 e he⟩
  · have := s1.ext n t hn
    rw [s2.gr.d n t (by rw [this]; exact hn), s1.gr.d n t hn]
  · obtain ⟨a1, a2, a3⟩ := s2.g t ht
    obtain ⟨b1, b2, b3⟩ := s1.g t (by rw [← a3]; exact ht)
    exact ⟨by rw [a1, b1], by rw [a2, b2], by rw [a3, b3]⟩
/-- A follower takes over entries. -/
theorem accept (hi : Inv N c h) {r : Rep} (hr : RN N c h i r) (hrole : r.1.2.2.2.1 = 0) {a : Nat} {pr lcm : Int} {es : Lg} {q : Int × Lg} (hel : h.el r.1.2.2.1 = true) (ha1 : a + es.length ≤ (h.g r.1.2.2.1).length) (hes : es = ((h.g r.1.2.2.1).drop a).take es.length)
    (hpr : pr = trm (h.g r.1.2.2.1) a) (hcm : 0 ≤ lcm ∧ lcm ≤ ((h.g r.1.2.2.1).length : Int)) (hcom : ComOk N h r.1.2.2.1 lcm (h.g r.1.2.2.1)) (hq : takeR r (a : Int) pr lcm es = some q) (hok : okR (r.1, q.1, q.2, [])) :
    ∃ h', Stp i c c h h' ∧ Inv N c h' ∧ RN N c h' i (r.1, q.1, q.2, []) ∧ a + es.length ≤ h'.a i r.1.2.2.1 ∧ h'.g = h.g := by
  obtain ⟨t1, t2, t3, t4, s, t5, t6, t7⟩ := takeR_spec hq
  have hgood := hr.good
  have hown := hr.own
  have hnow := hr.now
  have hfut := hr.fut
  have hrc := hr.com
  have hlat := hr.nd.later
  have hrcm := hr.ok.com
  generalize hT : r.1.2.2.1 = T at *
  generalize hL : r.2.2.1 = L at *
  generalize hG : h.g T = G at *
  have gG : Good h.g G := by rw [← hG]; exact hi.good T
  have hL0 : L.take a = G.take a := hgood.same gG t1 (by omega) (by rw [t2, hpr])
  have hesG : ∀ k, k < es.length → es.getD k (0, []) = G.getD (a + k) (0, []) := fun k hk => by
    rw [hes, List.getD_eq_getElem?_getD, List.getElem?_take, if_pos hk, List.getElem?_drop, ← List.getD_eq_getElem?_getD]
  have hsL : a + s ≤ L.length := by
    cases s with
    | zero => omega
    | succ s => have := (t6 s (by omega)).1; omega
  have hLs : L.take (a + s) = G.take (a + s) := by
    cases s with
    | zero => exact hL0
    | succ s =>
      refine hgood.same gG hsL (by omega) ?_
      rw [← Nat.add_assoc, trm_getD, trm_getD, (t6 s (by omega)).2, hesG s (by omega)]
  have hq2 : (s = es.length ∧ q.2 = L) ∨ (q.2 = G.take (a + es.length) ∧ (a + s = L.length ∨ (r.2.1 ≤ ((a + s : Nat) : Int) ∧ s < es.length ∧ trm L (a + s + 1) ≠ trm G (a + s + 1)))) := by
    rcases t7 with t7 | ⟨_, u2, u3⟩
    · exact .inl t7
    · right
      refine ⟨?_, ?_⟩
      · rw [u2, hLs]
        have e1 : es.drop s = (G.drop (a + s)).take (es.length - s) := by
          conv => lhs; rw [hes]
          rw [List.drop_take, List.drop_drop]
        rw [e1, ← List.take_add, show a + s + (es.length - s) = a + es.length by omega]
      · rcases u3 with u3 | ⟨u3, u4, u5⟩
        · exact .inl u3
        · right
          refine ⟨u3, u4, ?_⟩
          rw [trm_getD, trm_getD, ← hesG s u4]
          exact u5
  have hGL : G.take (a + es.length) <+: q.2 := by
    rcases hq2 with ⟨u1, u2⟩ | ⟨u1, _⟩
    · rw [u2, ← u1, ← hLs]; exact List.take_prefix _ _
    · rw [u1]; exact List.prefix_refl _
  have hgq : Good h.g q.2 := by
    rcases hq2 with ⟨_, u2⟩ | ⟨u1, _⟩
    · rw [u2]; exact hgood
    · rw [u1]; exact gG.sub (List.take_prefix _ _)
  have hkeep : ∀ P : Lg, P <+: L → P <+: q.2 ∨ ¬ (P <+: G) := by
    intro P hP
    rcases hq2 with ⟨_, u2⟩ | ⟨u1, u2⟩
    · left; rw [u2]; exact hP
    · by_cases hl : P.length ≤ a + s
      · left
        have h1 : P <+: L.take (a + s) := List.prefix_of_prefix_length_le hP (List.take_prefix _ _) (by rw [List.length_take]; omega)
        rw [hLs] at h1
        rw [u1]
        exact h1.trans (take_le_pre G (by omega))
      · rcases u2 with u2 | ⟨_, u3, u4⟩
        · have := hP.length_le; omega
        · right
          intro hPG
          have e1 := trm_pre hP (k := a + s + 1) (by omega)
          have e2 := trm_pre hPG (k := a + s + 1) (by omega)
          rw [e1, e2] at u4
          exact u4 rfl
  let h' : Gh := { h with a := fun m t => if m = i ∧ t = T then max (h.a m t) (a + es.length) else h.a m t }
  have e4 : h'.a i T = max (h.a i T) (a + es.length) := if_pos ⟨rfl, rfl⟩
  have n4 : ∀ m t, ¬ (m = i ∧ t = T) → h'.a m t = h.a m t := fun m t ht => if_neg ht
  have n1 : h'.el = h.el := rfl
  have n2 : h'.ld = h.ld := rfl
  have n3 : h'.g = h.g := rfl
  have n5 : h'.d = h.d := rfl
  clear_value h'
  have gr : Gr c h h' := by
    refine ⟨fun t ht => ⟨by rw [n1]; exact ht, by rw [n2], [], by rw [n3]; simp, by simp⟩, fun m t => ?_, fun _ _ _ => by rw [n5]⟩
    by_cases e : m = i ∧ t = T
    · rw [e.1, e.2, e4]; omega
    · rw [n4 m t e]; exact Nat.le_refl _
  have ha : ∀ m t', c m t' ≠ -1 → ∀ t, t < t' → h'.a m t = h.a m t := fun m t' hm t ht => by
    refine n4 m t fun e => ?_
    rw [e.1] at hm
    rw [e.2] at ht
    exact hm (hlat t' ht)
  have st : Stp i c c h h' := ⟨Ext.refl c, fun _ _ _ => rfl, gr, fun m hm t => n4 m t fun e => hm e.1, fun _ _ _ => by rw [n5], fun t _ => by rw [n1, n2, n3]; exact ⟨rfl, rfl, rfl⟩⟩
  have hinv : Inv N c h' := by
    refine ⟨fun t => gr.good hi (by rw [n3]; exact hi.good t), fun t => by rw [n3]; exact hi.rng t, fun t => by rw [n3]; exact hi.asc t, fun t ht => by rw [n1] at ht; rw [n3]; exact hi.none t ht, fun m t => ?_, fun t ht => by rw [n1] at ht; rw [n2]; exact hi.won t ht, fun n t => by rw [n5]; exact gr.good hi (hi.dg n t), hi.slf, hi.vot' gr ha, fun t' ht' => by rw [n1] at ht'; exact hi.chose' gr ha (gr.pre hi t') (hi.chose t' ht')⟩
    by_cases e : m = i ∧ t = T
    · rw [e.1, e.2, e4, n3, hG]
      have := hi.ack i T
      rw [hG] at this
      omega
    · rw [n4 m t e, n3]; exact hi.ack m t
  refine ⟨h', st, hinv, ⟨hr.nd, hok, gr.good hi hgq, fun e => by dsimp only at e; omega, fun e => by dsimp only at e; omega, ?_, ?_, fun t ht => ?_, ?_⟩, by rw [e4]; omega, n3⟩
  · dsimp only
    rw [hT, n3]
    intro t ht k k1 k2 k3
    by_cases e : t = T
    · subst e
      left
      rw [hG] at k3 ⊢
      by_cases hk : k ≤ a + es.length
      · exact (take_le_pre G hk).trans hGL
      · rw [e4] at k2
        rcases hkeep (G.take k) ((take_le_pre G (by omega)).trans hnow) with h1 | h1
        · exact h1
        · exact absurd (List.take_prefix _ _) h1
    · rw [n4 i t (fun x => e x.2)] at k2
      have hk := hi.ack i t
      rcases hown t ht k k1 k2 k3 with o | ⟨u, o1, o2⟩
      · rcases hkeep _ o with h1 | h1
        · exact .inl h1
        · exact .inr ⟨T, Int.le_refl _, gr.bad hi (by omega) ⟨by omega, hel, by rw [hG]; exact h1⟩⟩
      · exact .inr ⟨u, o1, gr.bad hi (by omega) o2⟩
  · dsimp only
    rw [hT, n3, hG, e4]
    by_cases hk : h.a i T ≤ a + es.length
    · rw [Nat.max_eq_right hk]; exact hGL
    · rw [Nat.max_eq_left (by omega)]
      rcases hkeep _ hnow with h1 | h1
      · exact h1
      · exact absurd (List.take_prefix _ _) h1
  · dsimp only at ht
    rw [hT] at ht
    rw [n4 i t (fun x => by omega)]; exact hfut t ht
  · dsimp only
    rw [hT]
    by_cases hc1 : min lcm ((a : Int) + (es.length : Int)) ≤ r.2.1
    · have hqc : q.1 = r.2.1 := by omega
      rw [hqc]
      rcases hrc.gr gr hi (Int.le_refl _) with h2 | ⟨t, k, b1, b2, b3, b4⟩
      · exact .inl h2
      · refine .inr ⟨t, k, b1, b2, b3, ?_⟩
        have : q.2.take r.2.1.toNat = L.take r.2.1.toNat := by
          rcases hq2 with ⟨_, u2⟩ | ⟨u1, u2⟩
          · rw [u2]
          · have hle : r.2.1.toNat ≤ a + s := by rcases u2 with u2 | ⟨u2, _⟩ <;> omega
            rw [u1, List.take_take, Nat.min_eq_left (by omega)]
            have := congrArg (List.take r.2.1.toNat) hLs
            rw [List.take_take, List.take_take, Nat.min_eq_left hle] at this
            exact this.symm
        rw [this]; exact b4
    · have hqc : q.1 = min lcm ((a : Int) + (es.length : Int)) := by omega
      rcases hcom.gr gr hi (Int.le_refl _) with h2 | ⟨t, k, b1, b2, b3, b4⟩
      · omega
      · refine .inr ⟨t, k, b1, b2, by omega, ?_⟩
        have e1 : q.2.take q.1.toNat = G.take q.1.toNat := by
          have := take_pre hGL (k := q.1.toNat) (by rw [List.length_take]; omega)
          rw [this, List.take_take, Nat.min_eq_left (by omega)]
        rw [e1]
        exact (take_le_pre G (by omega)).trans b4
/-- A vote. -/
theorem vote_inv (hi : Inv N c h) {r : Rep} (hr : RN N c h i r) {f : Int} (hf0 : 0 ≤ f) (hfi : f ≠ (i : Int)) (hcf : c f.toNat r.1.2.2.1 = f) (hv : c i r.1.2.2.1 = -1 ∨ c i r.1.2.2.1 = f) (hup : upTo (h.d f.toNat r.1.2.2.1) r.2.2.1) :
    Inv N (upC c i r.1.2.2.1 f) h ∧ Stp i c (upC c i r.1.2.2.1 f) h h := by
  have he := upC_ext hv
  have hown := hr.own
  generalize hT : r.1.2.2.1 = T at *
  have hne : f.toNat ≠ i := by omega
  have hat : upC c i T f i T = f := upC_at
  have hnat : ∀ m t, ¬ (m = i ∧ t = T) → upC c i T f m t = c m t := fun m t ht => by unfold upC; rw [if_neg ht]
  generalize hc' : upC c i T f = c' at *
  refine ⟨⟨hi.good, hi.rng, hi.asc, hi.none, hi.ack, fun t ht => ?_, hi.dg, fun m t hm => ?_, fun m t' hm => ?_, fun t' ht' => ?_⟩, ⟨he, fun m hm t => hnat m t (fun x => hm x.1), Gr.refl c h, fun _ _ _ => rfl, fun _ _ _ => rfl, fun _ _ => ⟨rfl, rfl, rfl⟩⟩⟩
  · obtain ⟨a1, a2, a3⟩ := hi.won t ht
    exact ⟨a1, a2.ext he, by rw [he _ _ (by rw [a3]; have := a2.1; omega)]; exact a3⟩
  · by_cases e : m = i ∧ t = T
    · rw [e.1, e.2, hat]
      exact ⟨hf0, by rw [hnat _ _ (fun x => hne x.1)]; exact hcf⟩
    · rw [hnat m t e] at hm ⊢
      obtain ⟨a1, a2⟩ := hi.slf m t hm
      exact ⟨a1, by rw [he _ _ (by rw [a2]; omega)]; exact a2⟩
  · by_cases e : m = i ∧ t' = T
    · rw [e.1, e.2, hat]
      intro t ht k k1 k2 k3
      rcases hv with hv | hv
      · rcases hown t (by omega) k k1 k2 k3 with o | ⟨u, o1, o2⟩
        · exact .inl ⟨r.2.2.1, hr.good, o, hup⟩
        · exact .inr ⟨u, o1, o2⟩
      · have := hi.vot i T (by rw [hv]; omega) t ht k k1 k2 k3
        rw [hv] at this
        exact this
    · rw [hnat m t' e] at hm ⊢
      exact hi.vot m t' hm
  · obtain ⟨Q, hQ, hq⟩ := hi.chose t' ht'
    exact ⟨Q, hQ, fun m hm => ⟨by rw [he m t' (hq m hm).1]; exact (hq m hm).1, (hq m hm).2⟩⟩
/-- A campaign begins: the node's own vote, and what its log is then. -/
theorem camp_inv (hi : Inv N c h) {r : Rep} (hr : RN N c h i r) :
    ∃ h', h'.el = h.el ∧ h'.ld = h.ld ∧ h'.g = h.g ∧ h'.a = h.a ∧ h'.d i (r.1.2.2.1 + 1) = r.2.2.1 ∧ Inv N (upC c i (r.1.2.2.1 + 1) (i : Int)) h' ∧ Stp i c (upC c i (r.1.2.2.1 + 1) (i : Int)) h h' ∧ (h.el (r.1.2.2.1 + 1) = true → h.ld (r.1.2.2.1 + 1) ≠ (i : Int)) := by
  have hown := hr.own
  have hlat := hr.nd.later (r.1.2.2.1 + 1) (by omega)
  have he := upC_ext (t := r.1.2.2.1 + 1) (n := (i : Int)) (.inl hlat)
  have hno : ∀ m, c m (r.1.2.2.1 + 1) ≠ (i : Int) := fun m hm => by
    have := (hi.slf m (r.1.2.2.1 + 1) (by rw [hm]; omega)).2
    rw [hm, Int.toNat_natCast, hlat] at this
    omega
  have hcon : h.el (r.1.2.2.1 + 1) = true → h.ld (r.1.2.2.1 + 1) ≠ (i : Int) := fun h1 h2 => by
    have := (hi.won _ h1).2.2
    rw [h2, Int.toNat_natCast, hlat] at this
    omega
  generalize hT : r.1.2.2.1 + 1 = T at *
  have hat : upC c i T (i : Int) i T = (i : Int) := upC_at
  have hnat : ∀ m t, ¬ (m = i ∧ t = T) → upC c i T (i : Int) m t = c m t := fun m t ht => by unfold upC; rw [if_neg ht]
  generalize hc' : upC c i T (i : Int) = c' at *
  let h' : Gh := { h with d := fun n t => if n = i ∧ t = T then r.2.2.1 else h.d n t }
  have e5 : h'.d i T = r.2.2.1 := if_pos ⟨rfl, rfl⟩
  have n5 : ∀ n t, ¬ (n = i ∧ t = T) → h'.d n t = h.d n t := fun n t ht => if_neg ht
  have n1 : h'.el = h.el := rfl
  have n2 : h'.ld = h.ld := rfl
  have n3 : h'.g = h.g := rfl
  have n4 : h'.a = h.a := rfl
  clear_value h'
  have gr : Gr c h h' := ⟨fun t ht => ⟨by rw [n1]; exact ht, by rw [n2], [], by rw [n3]; simp, by simp⟩, fun m t => by rw [n4]; exact Nat.le_refl _, fun n t hn => n5 n t fun e => by rw [e.1, e.2] at hn; exact hn hlat⟩
  have hbad : ∀ {t : Int} {k : Nat} {u : Int}, Bad h t k u → Bad h' t k u := fun ⟨b1, b2, b3⟩ => ⟨b1, by rw [n1]; exact b2, by rw [n3]; exact b3⟩
  refine ⟨h', n1, n2, n3, n4, e5, ⟨fun t => by rw [n3]; exact hi.good t, fun t => by rw [n3]; exact hi.rng t, fun t => by rw [n3]; exact hi.asc t, fun t ht => by rw [n1] at ht; rw [n3]; exact hi.none t ht, fun m t => by rw [n4, n3]; exact hi.ack m t, fun t ht => ?_, fun n t => ?_, fun m t hm => ?_, fun m t' hm => ?_, fun t' ht' => ?_⟩, ⟨he, fun m hm t => hnat m t (fun x => hm x.1), gr, fun _ _ _ => by rw [n4], fun m hm t => n5 m t (fun x => hm x.1), fun t _ => by rw [n1, n2, n3]; exact ⟨rfl, rfl, rfl⟩⟩, hcon⟩
  · rw [n1] at ht
    rw [n2]
    obtain ⟨a1, a2, a3⟩ := hi.won t ht
    exact ⟨a1, a2.ext he, by rw [he _ _ (by rw [a3]; have := a2.1; omega)]; exact a3⟩
  · rw [n3]
    by_cases e : n = i ∧ t = T
    · rw [e.1, e.2, e5]; exact hr.good
    · rw [n5 n t e]; exact hi.dg n t
  · by_cases e : m = i ∧ t = T
    · rw [e.1, e.2, hat, Int.toNat_natCast]
      exact ⟨by omega, hat⟩
    · rw [hnat m t e] at hm ⊢
      obtain ⟨a1, a2⟩ := hi.slf m t hm
      exact ⟨a1, by rw [he _ _ (by rw [a2]; omega)]; exact a2⟩
  · rw [n3, n4]
    by_cases e : m = i ∧ t' = T
    · rw [e.1, e.2, hat, Int.toNat_natCast, e5]
      intro t ht k k1 k2 k3
      rcases hown t (by omega) k k1 k2 k3 with o | ⟨u, o1, o2⟩
      · exact .inl ⟨r.2.2.1, hr.good, o, .inr ⟨rfl, Nat.le_refl _⟩⟩
      · exact .inr ⟨u, by omega, hbad o2⟩
    · rw [hnat m t' e] at hm ⊢
      intro t ht k k1 k2 k3
      have hd : h'.d (c m t').toNat t' = h.d (c m t').toNat t' := n5 _ _ fun x => by
        obtain ⟨x1, x2⟩ := x
        have h0 := (hi.slf m t' hm).1
        refine hno m ?_
        rw [← x2]
        omega
      rw [hd]
      rcases hi.vot m t' hm t ht k k1 k2 k3 with o | ⟨u, o1, o2⟩
      · exact .inl o
      · exact .inr ⟨u, o1, hbad o2⟩
  · rw [n1] at ht'
    rw [n3, n4]
    obtain ⟨Q, hQ, hq⟩ := hi.chose t' ht'
    refine ⟨Q, hQ, fun m hm => ⟨by rw [he m t' (hq m hm).1]; exact (hq m hm).1, fun t ht k k1 k2 k3 => ?_⟩⟩
    rcases (hq m hm).2 t ht k k1 k2 k3 with o | ⟨u, o1, o2⟩
    · exact .inl o
    · exact .inr ⟨u, o1, hbad o2⟩
end
end Go.Proofs.Ytfadalgikdffeaa.EVT
/- Replicated logs: each call is a step that keeps what holds. -/
set_option linter.unusedVariables false
set_option linter.unusedSimpArgs false
namespace Go.Proofs.Ytfadalgikdffeaa.EVT
open Go Go.EV

/-- A node did something, and sent letters. -/
def Did (N i : Nat) (c : Cast) (h : Gh) (r : Rep) (ls : List Let) : Prop :=
  ∃ c' h', Stp i c c' h h' ∧ Inv N c' h' ∧ RN N c' h' i r ∧ (∀ l ∈ ls, LOK N c' h' l) ∧ ∀ M, (∀ t, (h.g t).length ≤ M) → ∀ t, (h'.g t).length ≤ M
section
variable {N : Nat} {c : Cast} {h : Gh} {i : Nat}
theorem Did.same (hi : Inv N c h) {r : Rep} (hr : RN N c h i r) {ls : List Let} (hl : ∀ l ∈ ls, LOK N c h l) : Did N i c h r ls := ⟨c, h, Stp.refl i c h, hi, hr, hl, fun _ hM => hM⟩
theorem Good.bound {L : Lg} (hg : Good h.g L) {M : Nat} (hM : ∀ t, (h.g t).length ≤ M) : L.length ≤ M := by
  by_cases e : L = []
  · subst e; simp
  · exact Nat.le_trans (hg.last e).1 (hM _)
theorem okR.nomt {r : Rep} (h : okR r) (hr : r.1.2.2.2.1 ≠ 2) : r.2.2.2 = [] := by
  have := h.mlen
  unfold wantM at this
  rw [if_neg hr] at this
  exact List.length_eq_zero_iff.1 (by omega)
theorem withB_self {r : Rep} (h : okR r) : withB r r.1 = r := by
  unfold withB
  split
  · rfl
  · rename_i e; rw [← h.nomt e]
theorem RN.rst (hi : Inv N c h) {r : Rep} (hr : RN N c h i r) : RN N c h i (rstR r) := by
  have h1 := hr.ok.rst
  exact ⟨hr.nd.follow h1.bal, h1, hr.good, fun e => by simp [rstR] at e, fun e => by simp [rstR] at e, hr.own, hr.now, hr.fut, .inl rfl⟩
theorem RN.obs (hi : Inv N c h) {r : Rep} (hr : RN N c h i r) (te : Int) : RN N c h i (withB r (EVT.obs r.1 te)) := by
  have hk := obs_keeps hr.ok.bal te
  have hn := hr.nd.obs te
  by_cases e : te ≤ r.1.2.2.1 ∨ te > Max
  · have : EVT.obs r.1 te = r.1 := if_pos e
    rw [this, withB_self hr.ok]; exact hr
  · have : EVT.obs r.1 te = (r.1.1, r.1.2.1, te, 0, -1, -1, []) := if_neg e
    rw [this] at hk hn ⊢
    exact hr.up hi hn (hr.ok.bal' hk.1 hk.2.2.2.1 (show (0 : Int) ≠ 2 by decide)) hk.2.2.2.1 rfl
theorem beatN_mem {r : Rep} : ∀ (k j : Nat), ∀ l ∈ beatN r k j, ∃ n, j ≤ n ∧ n < j + k ∧ (n : Int) ≠ r.1.1 ∧ l = beatL r n
  | 0, _, l, hl => by simp [beatN] at hl
  | k + 1, j, l, hl => by
    unfold beatN at hl
    split at hl
    · obtain ⟨n, h1, h2, h3⟩ := beatN_mem k (j + 1) l hl
      exact ⟨n, by omega, by omega, h3⟩
    · rename_i e
      rcases List.mem_cons.1 hl with rfl | hl
      · exact ⟨j, Nat.le_refl _, by omega, e, rfl⟩
      · obtain ⟨n, h1, h2, h3⟩ := beatN_mem k (j + 1) l hl
        exact ⟨n, by omega, by omega, h3⟩
theorem beat_ok {r : Rep} (hr : RN N c h i r) : ∀ l ∈ beatR r, LOK N c h l := by
  intro l hl
  unfold beatR at hl
  split at hl
  · rename_i hrole
    obtain ⟨n, _, n1, n2, rfl⟩ := beatN_mem _ _ l hl
    obtain ⟨l1, l2, l3, l4⟩ := hr.led hrole
    have hns := hr.nd.ns
    have hm := getD_rng (n := n) hr.ok.mrng (by omega)
    have hcm := hr.ok.com
    refine ⟨⟨by show (0 : Int) ≤ (n : Int); omega, by show (n : Int) < (N : Int); omega, fun e => by simp [beatL] at e⟩, fun e => by simp [beatL] at e, fun _ => ?_, fun e => by simp [beatL] at e⟩
    unfold beatL
    dsimp only
    generalize r.2.2.2.getD n 0 = x at *
    rw [l3]
    refine ⟨l1, x.toNat, by omega, by rw [List.length_take, List.length_drop]; omega, ?_, rfl, hcm, by have := hr.com; exact this⟩
    rw [List.length_take, ← List.take_eq_take_min]
  · simp at hl
theorem askL_all (nd tm ix pr : Int) : ∀ k j, ∀ x ∈ askL nd tm ix pr k j, ∃ n : Nat, j ≤ n ∧ n < j + k ∧ x = (1, nd, (n : Int), tm, ix, pr, 0, false, [])
  | 0, _, x, h => by simp [askL] at h
  | k + 1, j, x, h => by
    simp only [askL] at h
    split at h
    · obtain ⟨n, h1, h2, h3⟩ := askL_all nd tm ix pr k (j + 1) x h
      exact ⟨n, by omega, by omega, h3⟩
    · rcases List.mem_cons.1 h with rfl | h
      · exact ⟨j, Nat.le_refl _, by omega, rfl⟩
      · obtain ⟨n, h1, h2, h3⟩ := askL_all nd tm ix pr k (j + 1) x h
        exact ⟨n, by omega, by omega, h3⟩
theorem tmo_did (hi : Inv N c h) (hN : N ≤ 7) {r : Rep} (hr : RN N c h i r) : Did N i c h (tmoR r).1 (tmoR r).2 := by
  have hok := hr.ok.tmo
  unfold tmoR at hok ⊢
  by_cases h1 : r.1.2.2.2.1 = 2
  · rw [if_pos h1]; exact Did.same hi hr (by simp)
  rw [if_neg h1] at hok ⊢
  dsimp only at hok ⊢
  by_cases h2 : r.1.2.2.1 ≥ Max
  · have e1 : EVT.camp r.1 = r.1 := by unfold EVT.camp; rw [if_pos h2]
    have e2 : campL r.1 r.2.2.1.length (trm r.2.2.1 r.2.2.1.length) = [] := by unfold campL; rw [if_pos h2]
    rw [e1, e2, if_neg h1]; exact Did.same hi hr (by simp)
  obtain ⟨h', n1, n2, n3, n4, n5, hv, st, hc⟩ := camp_inv hi hr
  have hnd := hr.nd.camp h2
  have htm : (EVT.camp r.1).2.2.1 = r.1.2.2.1 + 1 := by
    unfold EVT.camp; rw [if_neg h2]; split <;> rfl
  have own1 := own_gr (T' := r.1.2.2.1 + 1) st.gr hi (by omega) (fun t => by rw [n4]) hr.fut hr.own
  have hgood : Good h'.g r.2.2.1 := by rw [n3]; exact hr.good
  have hfut : ∀ t, r.1.2.2.1 + 1 < t → h'.a i t = 0 := fun t ht => by rw [n4]; exact hr.fut t (by omega)
  have hcom := hr.com.gr (T' := r.1.2.2.1 + 1) st.gr hi (by omega)
  have hself : upC c i (r.1.2.2.1 + 1) (i : Int) i (r.1.2.2.1 + 1) = (i : Int) := upC_at
  have hbnd : ∀ M, (∀ t, (h.g t).length ≤ M) → ∀ t, (h'.g t).length ≤ M := fun M hM t => by rw [n3]; exact hM t
  by_cases h3 : (EVT.camp r.1).2.2.2.1 = 2
  · rw [if_pos h3] at hok ⊢
    have hL : campL r.1 r.2.2.1.length (trm r.2.2.1 r.2.2.1.length) = [] := by
      unfold EVT.camp at h3
      rw [if_neg h2] at h3
      unfold campL
      rw [if_neg h2]
      split at h3
      · rename_i e; rw [if_pos e]
      · simp at h3
    rw [hL]
    obtain ⟨h'', s1, s2, s3, s4⟩ := elect hv hN hnd h3 hgood (by rw [htm]; exact n5) (by rw [htm, n1, n2]; exact hc) (by rw [htm]; exact own1) (by rw [htm]; exact hfut) (by rw [htm]; exact hcom) hok (by rw [htm]; exact hself)
    exact ⟨_, h'', st.trans s1, s2, s3, by simp, fun M hM t => by
      rcases s4 t with e | e
      · rw [e]; exact hbnd M hM t
      · rw [e]; exact hr.good.bound hM⟩
  · rw [if_neg h3] at hok ⊢
    refine ⟨_, h', st, hv, ⟨hnd, hok, hgood, fun e => absurd e h3, fun e => ?_, ?_, ?_, fun t ht => hfut t (by rw [← htm]; exact ht), ?_⟩, fun l hl => ?_, hbnd⟩
    · dsimp only; rw [htm, n1, n2]; exact ⟨hc, n5⟩
    · dsimp only; rw [htm]; exact own1
    · dsimp only; rw [htm, n4, hr.fut _ (by omega), List.take_zero]; exact List.nil_prefix
    · dsimp only; rw [htm]; exact hcom
    · unfold campL at hl
      rw [if_neg h2] at hl
      split at hl
      · simp at hl
      · obtain ⟨n, _, m1, rfl⟩ := askL_all _ _ _ _ _ _ l hl
        have hns := hr.nd.ns
        have hid := hr.nd.nd
        refine ⟨⟨by dsimp only; omega, by dsimp only; omega, fun e => by simp at e⟩, fun _ => ?_, fun e => by simp at e, fun e => by simp at e⟩
        dsimp only
        rw [hid, Int.toNat_natCast, n5]
        exact ⟨by omega, hself, rfl, rfl⟩
theorem obs_role {b : Bal} {te : Int} (h : (EVT.obs b te).2.2.2.1 ≠ 0) : EVT.obs b te = b := by
  unfold EVT.obs at h ⊢
  split
  · rfl
  · rename_i e; rw [if_neg e] at h; exact absurd rfl h
/-- An answer to a letter that asks for a vote. -/
theorem ans_did (hi : Inv N c h) {r : Rep} (hr : RN N c h i r) {l : Let} (hl : LOK N c h l) (hk : l.1 = 1) (hc : con r.1.1 r.1.2.1 l.2.1 l.2.2.1 l.2.2.2.1 = true) (hok : okR (withB r (ans r.1 l.1 l.2.1 l.2.2.1 l.2.2.2.1 l.2.2.2.2.1 l.2.2.2.2.2.1 r.2.2.1.length (trm r.2.2.1 r.2.2.1.length)).1)) :
    Did N i c h (withB r (ans r.1 l.1 l.2.1 l.2.2.1 l.2.2.2.1 l.2.2.2.2.1 l.2.2.2.2.2.1 r.2.2.1.length (trm r.2.2.1 r.2.2.1.length)).1) [(ans r.1 l.1 l.2.1 l.2.2.1 l.2.2.2.1 l.2.2.2.2.1 l.2.2.2.2.2.1 r.2.2.1.length (trm r.2.2.1 r.2.2.1.length)).2] := by
  obtain ⟨c1, c2, c3, c4, c5, c6⟩ := con_iff.1 hc
  have hns := hr.nd.ns
  have hid := hr.nd.nd
  have hro := hr.obs hi l.2.2.2.1
  have hok0 := hr.ok.nodes
  unfold okN at hok0
  unfold ans at hok ⊢
  have hcond : ¬ (l.1 ≠ 1 ∨ con r.1.1 r.1.2.1 l.2.1 l.2.2.1 l.2.2.2.1 = false) := by rintro (e | e); exact e hk; rw [hc] at e; cases e
  rw [if_neg hcond] at hok ⊢
  dsimp only at hok ⊢
  have hob := (obs_keeps hr.ok.bal l.2.2.2.1).1
  have hon := hr.nd.obs l.2.2.2.1
  generalize ho : EVT.obs r.1 l.2.2.2.1 = o at *
  by_cases hy : yesA o.2.2.1 o.2.2.2.2.1 l.2.1 l.2.2.2.1 l.2.2.2.2.2.1 l.2.2.2.2.1 (trm r.2.2.1 r.2.2.1.length) r.2.2.1.length = true
  · rw [if_pos hy] at hok ⊢
    unfold yesA newer at hy
    simp only [Bool.and_eq_true, Bool.or_eq_true, beq_iff_eq, decide_eq_true_eq] at hy
    obtain ⟨⟨y1, y2⟩, y3⟩ := hy
    obtain ⟨a1, a2, a3, a4⟩ := hl.ask hk
    -- it follows
    have hr0 : o.2.2.2.1 = 0 := by
      obtain ⟨_, _, q3, _, _, q6⟩ := chk_iff.1 hob
      have hnn := hon.nd
      rcases q3 with q | q | q
      · exact q
      · exfalso
        rw [q] at q6
        simp [cons] at q6
        have hvn := q6.2.1.1.1
        have hok1 := hr.ok.nodes
        unfold okN at hok1
        rcases y2 with y2 | y2
        · omega
        · omega
      · exfalso
        rw [q] at q6
        simp [cons] at q6
        have hvn := q6.2.1.1
        have hok1 := hr.ok.nodes
        unfold okN at hok1
        rcases y2 with y2 | y2
        · omega
        · omega
    have hw1 : withB r o = (o, r.2.1, r.2.2.1, []) := by unfold EVT.withB; rw [if_neg (by omega)]
    have hw2 : withB r (vote1 o l.2.1) = (vote1 o l.2.1, r.2.1, r.2.2.1, []) := by unfold EVT.withB vote1; dsimp only; rw [if_neg (by omega)]
    rw [hw1] at hro
    rw [hw2] at hok ⊢
    have hv : c i o.2.2.1 = -1 ∨ c i o.2.2.1 = l.2.1 := by rw [hon.now]; exact y2
    obtain ⟨he, hnv⟩ := hon.votes y2 hok.bal
    obtain ⟨v1, v2⟩ := vote_inv hi hro (f := l.2.1) a1 (by omega) (by dsimp only; rw [← y1]; exact a2) hv (by
      dsimp only
      unfold upTo
      rw [← y1]
      omega)
    refine ⟨_, h, v2, v1, ⟨hnv, hok, hro.good, fun e => ?_, fun e => ?_, hro.own, hro.now, hro.fut, hro.com⟩, fun x hx => ?_, fun _ hM => hM⟩
    · exact absurd (show o.2.2.2.1 = 2 from e) (by omega)
    · exact absurd (show o.2.2.2.1 = 1 from e) (by omega)
    · simp only [List.mem_singleton] at hx
      subst hx
      refine ⟨⟨c3, by dsimp only; omega, fun _ _ => ⟨by dsimp only; omega, by dsimp only; omega, ?_⟩⟩, fun e => by simp at e, fun e => by simp at e, fun e => by simp at e⟩
      dsimp only
      rw [hid, Int.toNat_natCast]
      exact upC_at
  · rw [if_neg hy] at hok ⊢
    refine Did.same hi hro fun x hx => ?_
    simp only [List.mem_singleton] at hx
    subst hx
    exact ⟨⟨c3, by dsimp only; omega, fun _ e => by simp at e⟩, fun e => by simp at e, fun e => by simp at e, fun e => by simp at e⟩
/-- A vote is counted. -/
theorem cnt_did (hi : Inv N c h) (hN : N ≤ 7) {r : Rep} (hr : RN N c h i r) {l : Let} (hl : LOK N c h l) (hk : l.1 = 2) (hc : con r.1.1 r.1.2.1 l.2.1 l.2.2.1 l.2.2.2.1 = true) (hok : okR (rcvR r l).1) : Did N i c h (rcvR r l).1 (rcvR r l).2 := by
  have hro := hr.obs hi l.2.2.2.1
  have hnc := hr.nd.cnt hl.base
  have e0 : rcvR r l = if r.1.2.2.2.1 ≠ 2 ∧ (cnt r.1 l.1 l.2.1 l.2.2.1 l.2.2.2.1 l.2.2.2.2.2.2.2.1).2.2.2.1 = 2 then (beginR (withB r (cnt r.1 l.1 l.2.1 l.2.2.1 l.2.2.2.1 l.2.2.2.2.2.2.2.1)), beatR (beginR (withB r (cnt r.1 l.1 l.2.1 l.2.2.1 l.2.2.2.1 l.2.2.2.2.2.2.2.1)))) else (withB r (cnt r.1 l.1 l.2.1 l.2.2.1 l.2.2.2.1 l.2.2.2.2.2.2.2.1), []) := by
    unfold rcvR
    rw [if_neg (by rw [hc]; decide), if_neg (by omega), if_pos hk]
  rw [e0] at hok ⊢
  have hcond : ¬ (l.1 ≠ 2 ∨ con r.1.1 r.1.2.1 l.2.1 l.2.2.1 l.2.2.2.1 = false) := by rintro (e | e); exact e hk; rw [hc] at e; cases e
  by_cases h1 : l.2.2.2.1 ≠ (EVT.obs r.1 l.2.2.2.1).2.2.1 ∨ (EVT.obs r.1 l.2.2.2.1).2.2.2.1 ≠ 1 ∨ l.2.2.2.2.2.2.2.1 = false
  · have e1 : cnt r.1 l.1 l.2.1 l.2.2.1 l.2.2.2.1 l.2.2.2.2.2.2.2.1 = EVT.obs r.1 l.2.2.2.1 := by
      unfold cnt; rw [if_neg hcond]; dsimp only; rw [if_pos h1]
    rw [e1] at hok ⊢
    have h2 : ¬ (r.1.2.2.2.1 ≠ 2 ∧ (EVT.obs r.1 l.2.2.2.1).2.2.2.1 = 2) := fun ⟨a, b⟩ => by
      rw [obs_role (by omega)] at b; exact a b
    rw [if_neg h2]
    exact Did.same hi hro (by simp)
  · have hor : (EVT.obs r.1 l.2.2.2.1).2.2.2.1 = 1 := by
      by_cases e : (EVT.obs r.1 l.2.2.2.1).2.2.2.1 = 1
      · exact e
      · exact absurd (.inr (.inl e)) h1
    have hob := obs_role (b := r.1) (te := l.2.2.2.1) (by omega)
    rw [hob] at hor h1
    have e1 : cnt r.1 l.1 l.2.1 l.2.2.1 l.2.2.2.1 l.2.2.2.2.2.2.2.1 = if quo (cntVs l.2.1 r.1.2.2.2.2.2.2).length r.1.2.1 then (r.1.1, r.1.2.1, r.1.2.2.1, 2, r.1.2.2.2.2.1, r.1.1, []) else (r.1.1, r.1.2.1, r.1.2.2.1, r.1.2.2.2.1, r.1.2.2.2.2.1, r.1.2.2.2.2.2.1, cntVs l.2.1 r.1.2.2.2.2.2.2) := by
      unfold cnt; rw [if_neg hcond]; dsimp only; rw [hob, if_neg h1]
    obtain ⟨d1, d2⟩ := hr.cand hor
    have hmt := hr.ok.nomt (by omega)
    by_cases hq : quo (cntVs l.2.1 r.1.2.2.2.2.2.2).length r.1.2.1 = true
    · rw [if_pos hq] at e1
      rw [e1] at hok hnc ⊢
      have h2 : r.1.2.2.2.1 ≠ 2 ∧ ((r.1.1, r.1.2.1, r.1.2.2.1, 2, r.1.2.2.2.2.1, r.1.1, []) : Bal).2.2.2.1 = 2 := ⟨by omega, rfl⟩
      rw [if_pos h2] at hok ⊢
      have hself : c i r.1.2.2.1 = (i : Int) := by
        obtain ⟨_, _, _, _, _, q6⟩ := chk_iff.1 hr.ok.bal
        rw [hor] at q6
        simp [cons] at q6
        rw [hr.nd.now, q6.2.1.1.1]; exact hr.nd.nd
      have hb : withB r (r.1.1, r.1.2.1, r.1.2.2.1, 2, r.1.2.2.2.2.1, r.1.1, []) = ((r.1.1, r.1.2.1, r.1.2.2.1, 2, r.1.2.2.2.2.1, r.1.1, []), r.2.1, r.2.2.1, r.2.2.2) := rfl
      rw [hb] at hok ⊢
      obtain ⟨h'', s1, s2, s3, s4⟩ := elect hi hN hnc rfl hr.good d2 d1 hr.own hr.fut hr.com hok hself
      exact ⟨c, h'', s1, s2, s3, beat_ok s3, fun M hM t => by
        rcases s4 t with e | e
        · rw [e]; exact hM t
        · rw [e]; exact hr.good.bound hM⟩
    · rw [if_neg hq] at e1
      rw [e1] at hok hnc ⊢
      have h2 : ¬ (r.1.2.2.2.1 ≠ 2 ∧ ((r.1.1, r.1.2.1, r.1.2.2.1, r.1.2.2.2.1, r.1.2.2.2.2.1, r.1.2.2.2.2.2.1, cntVs l.2.1 r.1.2.2.2.2.2.2) : Bal).2.2.2.1 = 2) := fun ⟨a, b⟩ => a b
      rw [if_neg h2] at hok ⊢
      have hb : withB r (r.1.1, r.1.2.1, r.1.2.2.1, r.1.2.2.2.1, r.1.2.2.2.2.1, r.1.2.2.2.2.2.1, cntVs l.2.1 r.1.2.2.2.2.2.2) = ((r.1.1, r.1.2.1, r.1.2.2.1, r.1.2.2.2.1, r.1.2.2.2.2.1, r.1.2.2.2.2.2.1, cntVs l.2.1 r.1.2.2.2.2.2.2), r.2.1, r.2.2.1, []) := by
        unfold EVT.withB; dsimp only; rw [if_neg (by omega)]
      rw [hb] at hok ⊢
      exact Did.same hi ⟨hnc, hok, hr.good, fun e => absurd (show r.1.2.2.2.1 = 2 from e) (by omega), fun _ => ⟨d1, d2⟩, hr.own, hr.now, hr.fut, hr.com⟩ (by simp)
/-- Entries arrive. -/
theorem app_did (hi : Inv N c h) {r : Rep} (hr : RN N c h i r) {l : Let} (hl : LOK N c h l) (hk : l.1 = 3) (hc : con r.1.1 r.1.2.1 l.2.1 l.2.2.1 l.2.2.2.1 = true) (hok : okR (appR r l.2.1 l.2.2.2.1 l.2.2.2.2.1 l.2.2.2.2.2.1 l.2.2.2.2.2.2.1 l.2.2.2.2.2.2.2.2).1) :
    Did N i c h (appR r l.2.1 l.2.2.2.1 l.2.2.2.2.1 l.2.2.2.2.2.1 l.2.2.2.2.2.2.1 l.2.2.2.2.2.2.2.2).1 (appR r l.2.1 l.2.2.2.1 l.2.2.2.2.1 l.2.2.2.2.2.1 l.2.2.2.2.2.2.1 l.2.2.2.2.2.2.2.2).2 := by
  obtain ⟨c1, c2, c3, c4, c5, c6⟩ := con_iff.1 hc
  have hns := hr.nd.ns
  have hid := hr.nd.nd
  have hok0 := hr.ok.nodes
  unfold okN at hok0
  obtain ⟨a1, a, a2, a3, a4, a5, a6, a7⟩ := hl.app hk
  rw [a2] at hok ⊢
  have hans : ∀ (c' : Cast) (h' : Gh) (te ix : Int) (ye : Bool), (ye = true → ix ≤ (h'.a i te : Int)) → LOK N c' h' (4, r.1.1, l.2.1, te, ix, 0, 0, ye, []) := fun c' h' te ix ye hy =>
    ⟨⟨c3, by dsimp only; omega, fun e => by simp at e⟩, fun e => by simp at e, fun e => by simp at e, fun _ e => ⟨by dsimp only; omega, by dsimp only at e ⊢; rw [hid, Int.toNat_natCast]; exact hy e⟩⟩
  unfold appR at hok ⊢
  by_cases h1 : l.2.2.2.1 < r.1.2.2.1
  · rw [if_pos h1]
    exact Did.same hi hr fun x hx => by
      simp only [List.mem_singleton] at hx
      subst hx
      exact hans _ _ _ _ _ (fun e => by cases e)
  rw [if_neg h1] at hok ⊢
  by_cases h2 : l.2.2.2.1 = r.1.2.2.1 ∧ r.1.2.2.2.1 = 2
  · rw [if_pos h2]; exact Did.same hi hr (by simp)
  rw [if_neg h2] at hok ⊢
  obtain ⟨b1, b2⟩ := hr.ok.folB (fr := l.2.1) (te := l.2.2.2.1) (by omega) ⟨c5, c6⟩ ⟨c3, c4, c2⟩
  have hno := hr.nd.obs l.2.2.2.1
  have hr1 : RN N c h i (folB r.1 l.2.2.2.1 l.2.1, r.2.1, r.2.2.1, []) := hr.up hi (Node.follow hno b1) (hr.ok.bal' b1 (by omega) (show (0 : Int) ≠ 2 by decide)) (by omega) rfl
  cases hq : takeR r (a : Int) l.2.2.2.2.2.1 l.2.2.2.2.2.2.1 l.2.2.2.2.2.2.2.2 with
  | none =>
    exact Did.same hi hr1 fun x hx => by
      simp only [List.mem_singleton] at hx
      subst hx
      exact hans _ _ _ _ _ (fun e => by cases e)
  | some q =>
    rw [hq] at hok
    dsimp only at hok ⊢
    obtain ⟨h', s1, s2, s3, s4, s5⟩ := accept hi hr1 rfl (by dsimp only; rw [b2]; exact a1) (by dsimp only; rw [b2]; exact a3) (by dsimp only; rw [b2]; exact a4) (by dsimp only; rw [b2]; exact a5) (by dsimp only; rw [b2]; exact a6) (by dsimp only; rw [b2]; exact a7) hq hok
    refine ⟨c, h', s1, s2, s3, fun x hx => ?_, fun M hM t => by rw [s5]; exact hM t⟩
    simp only [List.mem_singleton] at hx
    subst hx
    refine hans _ _ _ _ _ (fun _ => ?_)
    dsimp only at s4
    omega
/-- An answer about entries arrives. -/
theorem apd_did (hi : Inv N c h) {r : Rep} (hr : RN N c h i r) {l : Let} (hl : LOK N c h l) (hk : l.1 = 4) (hc : con r.1.1 r.1.2.1 l.2.1 l.2.2.1 l.2.2.2.1 = true) (hok : okR (apdR r l.2.1 l.2.2.2.1 l.2.2.2.2.1 l.2.2.2.2.2.2.2.1)) : RN N c h i (apdR r l.2.1 l.2.2.2.1 l.2.2.2.2.1 l.2.2.2.2.2.2.2.1) := by
  obtain ⟨c1, c2, c3, c4, c5, c6⟩ := con_iff.1 hc
  have hns := hr.nd.ns
  have hid := hr.nd.nd
  have hok0 := hr.ok.nodes
  unfold okN at hok0
  unfold apdR at hok ⊢
  by_cases h1 : l.2.2.2.1 > r.1.2.2.1
  · rw [if_pos h1]; exact hr.obs hi _
  rw [if_neg h1] at hok ⊢
  by_cases h2 : l.2.2.2.1 < r.1.2.2.1 ∨ r.1.2.2.2.1 ≠ 2 ∨ l.2.2.2.2.2.2.2.1 = false ∨ l.2.2.2.2.1 < 0 ∨ l.2.2.2.2.1 > (r.2.2.1.length : Int) ∨ l.2.2.2.2.1 ≤ r.2.2.2.getD l.2.1.toNat 0
  · rw [if_pos h2]; exact hr
  rw [if_neg h2] at hok ⊢
  have hrole : r.1.2.2.2.1 = 2 := by
    by_cases e : r.1.2.2.2.1 = 2
    · exact e
    · exact absurd (.inr (.inl e)) h2
  have hye : l.2.2.2.2.2.2.2.1 = true := by
    cases e : l.2.2.2.2.2.2.2.1 with
    | true => rfl
    | false => exact absurd (.inr (.inr (.inl e))) h2
  have hte : l.2.2.2.1 = r.1.2.2.1 := by omega
  obtain ⟨a1, a2⟩ := hl.ack hk hye
  rw [hte] at a2
  obtain ⟨l1, l2, l3, l4⟩ := hr.led hrole
  have hml := hr.ok.mlen
  unfold wantM at hml
  rw [if_pos hrole] at hml
  refine RN.commits (r := (r.1, r.2.1, r.2.2.1, r.2.2.2.set l.2.1.toNat l.2.2.2.2.1)) ⟨hr.nd, ⟨hr.ok.bal, hr.ok.len, hr.ok.rng, hr.ok.asc, hr.ok.com, hok.mlen, hok.mrng, hok.own⟩, hr.good, fun _ => ⟨l1, l2, l3, fun m hm => ?_⟩, fun e => absurd (show r.1.2.2.2.1 = 1 from e) (by omega), hr.own, hr.now, hr.fut, hr.com⟩ hrole
  dsimp only
  by_cases e : m = l.2.1.toNat
  · rw [e, getD_at _ (by rw [List.length_set]; omega), List.getElem_set_self]
    exact a2
  · rw [getD_at _ (by rw [List.length_set]; omega), List.getElem_set_ne (by omega), ← getD_at 0]
    exact l4 m hm
theorem rcv_did (hi : Inv N c h) (hN : N ≤ 7) {r : Rep} (hr : RN N c h i r) {l : Let} (hl : LOK N c h l) : Did N i c h (rcvR r l).1 (rcvR r l).2 := by
  have hok := hr.ok.rcv l
  by_cases h2 : con r.1.1 r.1.2.1 l.2.1 l.2.2.1 l.2.2.2.1 = true ∧ l.1 = 2
  · exact cnt_did hi hN hr hl h2.2 h2.1 hok
  unfold rcvR at hok ⊢
  cases hc : con r.1.1 r.1.2.1 l.2.1 l.2.2.1 l.2.2.2.1 with
  | false => rw [if_pos rfl]; exact Did.same hi hr (by simp)
  | true =>
    rw [hc, if_neg (by decide)] at hok
    rw [if_neg (by decide)]
    by_cases h1 : l.1 = 1
    · rw [if_pos h1] at hok ⊢
      exact ans_did hi hr hl h1 hc hok
    rw [if_neg h1, if_neg (fun e => h2 ⟨hc, e⟩)] at hok ⊢
    by_cases h3 : l.1 = 3
    · rw [if_pos h3] at hok ⊢
      by_cases hs : soundR l.2.2.2.1 l.2.2.2.2.1 l.2.2.2.2.2.1 l.2.2.2.2.2.2.1 l.2.2.2.2.2.2.2.2 = true
      · rw [if_pos hs] at hok ⊢
        exact app_did hi hr hl h3 hc hok
      · rw [if_neg hs]; exact Did.same hi hr (by simp)
    rw [if_neg h3] at hok ⊢
    by_cases h4 : l.1 = 4
    · rw [if_pos h4] at hok ⊢
      exact Did.same hi (apd_did hi hr hl h4 hc hok) (by simp)
    rw [if_neg h4]; exact Did.same hi hr (by simp)
end
end Go.Proofs.Ytfadalgikdffeaa.EVT

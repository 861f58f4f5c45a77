/- Elections: what holds of all ballots and letters. -/
import Derived.Test.YtfadalgikdffeaaGreatSA
import Derived.Test.YtfadalgikdffeaaGreatUE
set_option linter.unusedVariables false
set_option linter.unusedSimpArgs false
namespace Go.Proofs.YtfadalgikdffeaaGreat.EVT
open Go Go.EV

abbrev Cast := Nat → Int → Int
def Won (N : Nat) (c : Cast) (t n : Int) : Prop := 0 ≤ n ∧ ∃ Q, Quor N Q ∧ ∀ m, Q m = true → c m t = n
def Lok (N : Nat) (c : Cast) (l : Let) : Prop := 0 ≤ l.2.2.1 ∧ l.2.2.1 < (N : Int) ∧ (l.1 = 2 → l.2.2.2.2.2.2.2.1 = true → 0 ≤ l.2.1 ∧ l.2.1 < (N : Int) ∧ c l.2.1.toNat l.2.2.2.1 = l.2.2.1)
def Ext (c c' : Cast) : Prop := ∀ m t, c m t ≠ -1 → c' m t = c m t
theorem Ext.refl (c : Cast) : Ext c c := fun _ _ _ => rfl
theorem Won.ext {N : Nat} {c c' : Cast} (h : Ext c c') {t n : Int} (w : Won N c t n) : Won N c' t n := by
  obtain ⟨h0, Q, hQ, hc⟩ := w
  exact ⟨h0, Q, hQ, fun m hm => by rw [h m t (by rw [hc m hm]; omega)]; exact hc m hm⟩
theorem Lok.ext {N : Nat} {c c' : Cast} (h : Ext c c') {l : Let} (w : Lok N c l) : Lok N c' l := by
  obtain ⟨h0, h1, h2⟩ := w
  refine ⟨h0, h1, fun a b => ?_⟩
  obtain ⟨g1, g2, g3⟩ := h2 a b
  exact ⟨g1, g2, by rw [h _ _ (by rw [g3]; omega)]; exact g3⟩
theorem Won.one {N : Nat} (hN : N ≤ 7) {c : Cast} {t n m : Int} (h1 : Won N c t n) (h2 : Won N c t m) : n = m := by
  obtain ⟨_, Q, hQ, hc⟩ := h1
  obtain ⟨_, R, hR, hd⟩ := h2
  obtain ⟨k, k1, k2⟩ := quor_meet hN hQ hR
  rw [← hc k k1, hd k k2]
structure Node (N : Nat) (c : Cast) (i : Nat) (b : Bal) : Prop where
  ok : okB b
  nd : b.1 = (i : Int)
  ns : b.2.1 = (N : Int)
  now : c i b.2.2.1 = b.2.2.2.2.1
  later : ∀ t, b.2.2.1 < t → c i t = -1
  cand : b.2.2.2.1 = 1 → ∀ v ∈ b.2.2.2.2.2.2, c v.toNat b.2.2.1 = (i : Int)
  led : b.2.2.2.1 = 2 → Won N c b.2.2.1 (i : Int)
theorem Node.obs {N : Nat} {c : Cast} {i : Nat} {b : Bal} (h : Node N c i b) (t : Int) : Node N c i (EVT.obs b t) := by
  have hk := obs_keeps h.ok t
  unfold EVT.obs at hk ⊢
  split at hk
  · rename_i hc
    rw [if_pos hc]; exact h
  · rename_i hc
    rw [if_neg hc]
    have ht : b.2.2.1 < t := by omega
    exact ⟨hk.1, h.nd, h.ns, h.later t ht, fun s hs => h.later s (by simp only at hs; omega), fun hr => by simp at hr, fun hr => by simp at hr⟩
theorem Node.ext {N : Nat} {c c' : Cast} {i j : Nat} (he : Ext c c') (hne : ∀ m, m ≠ i → ∀ t, c' m t = c m t) (hj : j ≠ i) {b : Bal} (h : Node N c j b) : Node N c' j b :=
  ⟨h.ok, h.nd, h.ns, by rw [hne j hj]; exact h.now, fun t ht => by rw [hne j hj]; exact h.later t ht, fun hr v hv => by
    have := h.cand hr v hv
    rw [he _ _ (by rw [this]; omega)]; exact this, fun hr => (h.led hr).ext he⟩
structure Sys (N : Nat) (c : Cast) (B : List Bal) (W : List Let) (Ld : List (Int × Int)) : Prop where
  n0 : 1 ≤ N
  n7 : N ≤ 7
  len : B.length = N
  node : ∀ i, i < N → Node N c i (B.getD i (0, 0, 0, 0, 0, 0, []))
  lets : ∀ l ∈ W, Lok N c l
  lds : ∀ p ∈ Ld, Won N c p.1 p.2
theorem getD_set {B : List Bal} {i j : Nat} {x d : Bal} (hi : i < B.length) : (B.set i x).getD j d = if i = j then x else B.getD j d := by
  simp only [List.getD_eq_getElem?_getD, List.getElem?_set]
  by_cases e : i = j
  · subst e; simp [hi]
  · simp [e]
theorem Sys.set {N : Nat} {c c' : Cast} {B : List Bal} {W W' : List Let} {Ld : List (Int × Int)} (h : Sys N c B W Ld) {i : Nat} (hi : i < N) (he : Ext c c') (hne : ∀ m, m ≠ i → ∀ t, c' m t = c m t) {b : Bal} (hb : Node N c' i b) (hW : ∀ l ∈ W', Lok N c' l ∨ l ∈ W) : Sys N c' (B.set i b) W' Ld :=
  ⟨h.n0, h.n7, by rw [List.length_set]; exact h.len, fun j hj => by
    rw [getD_set (by rw [h.len]; exact hi)]
    split
    · rename_i e; subst e; exact hb
    · rename_i e
      exact (h.node j hj).ext he hne (Ne.symm e), fun l hl => by
    rcases hW l hl with h1 | h1
    · exact h1
    · exact (h.lets l h1).ext he, fun p hp => (h.lds p hp).ext he⟩
def upC (c : Cast) (i : Nat) (t n : Int) : Cast := fun m s => if m = i ∧ s = t then n else c m s
theorem upC_ext {c : Cast} {i : Nat} {t n : Int} (h : c i t = -1 ∨ c i t = n) : Ext c (upC c i t n) := by
  intro m s hm
  unfold upC
  split
  · rename_i e
    obtain ⟨rfl, rfl⟩ := e
    rcases h with h | h
    · exact absurd h hm
    · exact h.symm
  · rfl
theorem upC_ne {c : Cast} {i : Nat} {t n : Int} : ∀ m, m ≠ i → ∀ s, upC c i t n m s = c m s := by
  intro m hm s
  unfold upC
  rw [if_neg (fun e => hm e.1)]
theorem upC_at {c : Cast} {i : Nat} {t n : Int} : upC c i t n i t = n := by unfold upC; rw [if_pos ⟨rfl, rfl⟩]
theorem camp_sys {N : Nat} {c : Cast} {B : List Bal} {W : List Let} {Ld : List (Int × Int)} (h : Sys N c B W Ld) {i : Nat} (hi : i < N) (ix pr : Int) : ∃ c', Sys N c' (B.set i (camp (B.getD i (0, 0, 0, 0, 0, 0, [])))) (W ++ campL (B.getD i (0, 0, 0, 0, 0, 0, [])) ix pr) Ld := by
  have hn := h.node i hi
  have hk := camp_keeps hn.ok
  generalize hb : B.getD i (0, 0, 0, 0, 0, 0, []) = b at *
  by_cases hm : b.2.2.1 ≥ Max
  · have e1 : camp b = b := by unfold camp; rw [if_pos hm]
    have e2 : campL b ix pr = [] := by unfold campL; rw [if_pos hm]
    rw [e1, e2]
    exact ⟨c, h.set hi (Ext.refl c) (fun _ _ _ => rfl) hn (fun l hl => .inr (by simpa using hl))⟩
  · have hl := hn.later (b.2.2.1 + 1) (by omega)
    refine ⟨upC c i (b.2.2.1 + 1) (i : Int), h.set hi (upC_ext (.inl hl)) upC_ne ?_ ?_⟩
    · have hok := hk.1
      have hlt : ∀ t, b.2.2.1 + 1 < t → upC c i (b.2.2.1 + 1) (i : Int) i t = -1 := fun t ht => by
        unfold upC
        rw [if_neg (fun e => by omega)]
        exact hn.later t (by omega)
      unfold camp at hok ⊢
      rw [if_neg hm] at hok ⊢
      by_cases h1 : b.2.1 = 1
      · rw [if_pos h1] at hok ⊢
        have hN : N = 1 := by have := hn.ns; omega
        have hi0 : i = 0 := by omega
        refine ⟨hok, hn.nd, hn.ns, ?_, hlt, fun hr => by simp at hr, fun _ => ⟨by omega, _, by rw [hN]; exact quor_one hi0, fun m hq => ?_⟩⟩
        · simp only [upC_at]; exact hn.nd.symm
        · have : m = i := by simpa using hq
          subst this
          exact upC_at
      · rw [if_neg h1] at hok ⊢
        refine ⟨hok, hn.nd, hn.ns, ?_, hlt, fun _ v hv => ?_, fun hr => by simp at hr⟩
        · simp only [upC_at]; exact hn.nd.symm
        · simp only [List.mem_singleton] at hv
          rw [hv, hn.nd, Int.toNat_natCast]
          exact upC_at
    · intro l hl
      rcases List.mem_append.1 hl with hl | hl
      · exact .inr hl
      · left
        unfold campL at hl
        rw [if_neg hm] at hl
        split at hl
        · simp at hl
        · have := askL_mem _ _ _ _ _ _ l hl
          have h2 := hn.ns
          exact ⟨by omega, by omega, fun e => by omega⟩
theorem cntVs_len (fr : Int) (vs : List Int) : (cntVs fr vs).length = cntf (markF fr vs) := by simp [cntVs, selI, cntf]
theorem cnt_sys {N : Nat} {c : Cast} {B : List Bal} {W : List Let} {Ld : List (Int × Int)} (h : Sys N c B W Ld) {i : Nat} (hi : i < N) {l : Let} (hl : Lok N c l) :
    Sys N c (B.set i (cnt (B.getD i (0, 0, 0, 0, 0, 0, [])) l.1 l.2.1 l.2.2.1 l.2.2.2.1 l.2.2.2.2.2.2.2.1)) W Ld := by
  have hn := h.node i hi
  have hk := cnt_keeps hn.ok l.1 l.2.1 l.2.2.1 l.2.2.2.1 l.2.2.2.2.2.2.2.1
  generalize hb : B.getD i (0, 0, 0, 0, 0, 0, []) = b at *
  refine h.set hi (Ext.refl c) (fun _ _ _ => rfl) ?_ (fun l hl => .inr hl)
  have hok := hk.1
  unfold cnt at hok ⊢
  split at hok
  · rename_i h1; rw [if_pos h1]; exact hn
  · rename_i h1
    rw [if_neg h1]
    have hkd : l.1 = 2 := by
      by_cases e : l.1 = 2
      · exact e
      · exact absurd (.inl e) h1
    have hcon : con b.1 b.2.1 l.2.1 l.2.2.1 l.2.2.2.1 = true := by
      cases e : con b.1 b.2.1 l.2.1 l.2.2.1 l.2.2.2.1 with
      | true => rfl
      | false => exact absurd (.inr e) h1
    obtain ⟨k1, k2, k3, k4, k5, k6⟩ := con_iff.1 hcon
    have ho := hn.obs l.2.2.2.1
    simp only at hok ⊢
    generalize EVT.obs b l.2.2.2.1 = o at *
    split at hok
    · rename_i h2; rw [if_pos h2]; exact ho
    · rename_i h2
      rw [if_neg h2]
      have hte : l.2.2.2.1 = o.2.2.1 := by
        by_cases e : l.2.2.2.1 = o.2.2.1
        · exact e
        · exact absurd (.inl e) h2
      have hrl : o.2.2.2.1 = 1 := by
        by_cases e : o.2.2.2.1 = 1
        · exact e
        · exact absurd (.inr (.inl e)) h2
      have hye : l.2.2.2.2.2.2.2.1 = true := by
        cases e : l.2.2.2.2.2.2.2.1 with
        | true => rfl
        | false => exact absurd (.inr (.inr e)) h2
      obtain ⟨g1, g2, g3⟩ := hl.2.2 hkd hye
      have hto : l.2.2.1 = (i : Int) := by rw [k1]; exact hn.nd
      rw [hte, hto] at g3
      have hmark : ∀ n, markF l.2.1 o.2.2.2.2.2.2 n = true → c n o.2.2.1 = (i : Int) := by
        intro n hn'
        unfold markF at hn'
        simp only [Bool.or_eq_true, List.any_eq_true, beq_iff_eq] at hn'
        rcases hn' with ⟨v, hv, rfl⟩ | rfl
        · exact ho.cand hrl v hv
        · exact g3
      obtain ⟨q1, q2, q3, q4, q5, _⟩ := chk_iff.1 (show EVT.chk o.1 o.2.1 o.2.2.1 o.2.2.2.1 o.2.2.2.2.1 o.2.2.2.2.2.1 o.2.2.2.2.2.2 = 0 from ho.ok)
      obtain ⟨w1, w2, w3⟩ := vchk_of q5
      have hlt : ∀ n, markF l.2.1 o.2.2.2.2.2.2 n = true → n < N := by
        intro n hn'
        unfold markF at hn'
        simp only [Bool.or_eq_true, List.any_eq_true, beq_iff_eq] at hn'
        have hns := ho.ns
        rcases hn' with ⟨v, hv, rfl⟩ | rfl
        · have := w1 v hv; omega
        · omega
      split at hok
      · rename_i h3
        rw [if_pos h3]
        unfold quo at h3
        simp only [Bool.and_eq_true, decide_eq_true_eq, cntVs_len] at h3
        have hns := ho.ns
        refine ⟨hok, ho.nd, ho.ns, ho.now, ho.later, fun hr => by simp at hr, fun _ => ⟨by omega, markF l.2.1 o.2.2.2.2.2.2, ⟨hlt, by omega⟩, hmark⟩⟩
      · rename_i h3
        rw [if_neg h3]
        refine ⟨hok, ho.nd, ho.ns, ho.now, ho.later, fun _ v hv => ?_, fun hr => by rw [hrl] at hr; omega⟩
        obtain ⟨n, n1, n2, rfl⟩ := cntVs_mem.1 hv
        rw [Int.toNat_natCast]
        exact hmark n n2
theorem ans_sys {N : Nat} {c : Cast} {B : List Bal} {W : List Let} {Ld : List (Int × Int)} (h : Sys N c B W Ld) {i : Nat} (hi : i < N) (l : Let) (ix pr : Int) :
    ∃ c', Sys N c' (B.set i (ans (B.getD i (0, 0, 0, 0, 0, 0, [])) l.1 l.2.1 l.2.2.1 l.2.2.2.1 l.2.2.2.2.1 l.2.2.2.2.2.1 ix pr).1) (W ++ [(ans (B.getD i (0, 0, 0, 0, 0, 0, [])) l.1 l.2.1 l.2.2.1 l.2.2.2.1 l.2.2.2.2.1 l.2.2.2.2.2.1 ix pr).2]) Ld := by
  have hn := h.node i hi
  have hk := (ans_keeps hn.ok l.1 l.2.1 l.2.2.1 l.2.2.2.1 l.2.2.2.2.1 l.2.2.2.2.2.1 ix pr).1
  have h0 := h.n0
  generalize hb : B.getD i (0, 0, 0, 0, 0, 0, []) = b at *
  have hok := hk.1
  unfold ans at hok ⊢
  split at hok
  · rename_i h1
    rw [if_pos h1]
    refine ⟨c, h.set hi (Ext.refl c) (fun _ _ _ => rfl) hn (fun x hx => ?_)⟩
    rcases List.mem_append.1 hx with hx | hx
    · exact .inr hx
    · simp only [List.mem_singleton] at hx
      subst hx
      exact .inl ⟨by simp, by simp only; omega, fun e => by simp at e⟩
  · rename_i h1
    rw [if_neg h1]
    have hcon : con b.1 b.2.1 l.2.1 l.2.2.1 l.2.2.2.1 = true := by
      cases e : con b.1 b.2.1 l.2.1 l.2.2.1 l.2.2.2.1 with
      | true => rfl
      | false => exact absurd (.inr e) h1
    obtain ⟨k1, k2, k3, k4, k5, k6⟩ := con_iff.1 hcon
    have hns := hn.ns
    have ho := hn.obs l.2.2.2.1
    simp only at hok ⊢
    generalize EVT.obs b l.2.2.2.1 = o at *
    split at hok
    · rename_i h2
      rw [if_pos h2]
      unfold yesA at h2
      simp only [Bool.and_eq_true, Bool.or_eq_true, beq_iff_eq] at h2
      have hv : c i o.2.2.1 = -1 ∨ c i o.2.2.1 = l.2.1 := by rw [ho.now]; exact h2.1.2
      have he := upC_ext (t := o.2.2.1) (n := l.2.1) hv
      refine ⟨upC c i o.2.2.1 l.2.1, h.set hi he upC_ne ?_ (fun x hx => ?_)⟩
      · refine ⟨hok, ho.nd, ho.ns, upC_at, fun t ht => ?_, fun hr v hv => ?_, fun hr => (ho.led hr).ext he⟩
        · have := ho.later t ht
          unfold upC
          rw [if_neg (fun e => by have : o.2.2.1 < t := ht; omega)]
          exact this
        · have := ho.cand hr v hv
          have e2 := he v.toNat o.2.2.1 (by rw [this]; omega)
          show upC c i o.2.2.1 l.2.1 v.toNat o.2.2.1 = _
          rw [e2]; exact this
      · rcases List.mem_append.1 hx with hx | hx
        · exact .inr hx
        · simp only [List.mem_singleton] at hx
          subst hx
          refine .inl ⟨k3, by simp only; omega, fun _ _ => ⟨by have := hn.nd; simp only; omega, by have := hn.nd; simp only; omega, ?_⟩⟩
          simp only
          rw [hn.nd, Int.toNat_natCast]
          exact upC_at
    · rename_i h2
      rw [if_neg h2]
      refine ⟨c, h.set hi (Ext.refl c) (fun _ _ _ => rfl) ho (fun x hx => ?_)⟩
      rcases List.mem_append.1 hx with hx | hx
      · exact .inr hx
      · simp only [List.mem_singleton] at hx
        subst hx
        exact .inl ⟨k3, by simp only; omega, fun _ e => by simp at e⟩
theorem Sys.sub {N : Nat} {c : Cast} {B : List Bal} {W W' : List Let} {Ld : List (Int × Int)} (h : Sys N c B W Ld) (hW : ∀ l ∈ W', l ∈ W) : Sys N c B W' Ld :=
  { h with lets := fun l hl => h.lets l (hW l hl) }
end Go.Proofs.YtfadalgikdffeaaGreat.EVT
/- Replicated logs: what the leaders' logs, the acknowledged beginnings and the votes have in common. -/
set_option linter.unusedVariables false
set_option linter.unusedSimpArgs false
namespace Go.Proofs.YtfadalgikdffeaaGreat.EVT
open Go Go.EV

abbrev Cmd := Int × List UInt8
abbrev Lg := List Cmd
/-- The term at an index of a log. -/
def trm (L : Lg) (k : Nat) : Int := if k = 0 then 0 else (L.getD (k - 1) (0, [])).1
theorem trm_take {L : Lg} {k n : Nat} (h : k ≤ n) : trm (L.take n) k = trm L k := by
  unfold trm
  split
  · rfl
  · simp only [List.getD_eq_getElem?_getD, List.getElem?_take]
    rw [if_pos (by omega)]
theorem trm_pre {L M : Lg} (h : L <+: M) {k : Nat} (hk : k ≤ L.length) : trm M k = trm L k := by
  obtain ⟨E, rfl⟩ := h
  unfold trm
  split
  · rfl
  · simp only [List.getD_eq_getElem?_getD]
    rw [List.getElem?_append_left (by omega)]
theorem trm_mem {L : Lg} {k : Nat} (h1 : 1 ≤ k) (hk : k ≤ L.length) : ∃ e ∈ L, e.1 = trm L k := by
  refine ⟨L[k - 1], List.getElem_mem _, ?_⟩
  unfold trm
  rw [if_neg (by omega), getD_at _ (by omega)]
theorem take_pre {L M : Lg} (h : L <+: M) {k : Nat} (hk : k ≤ L.length) : M.take k = L.take k := by
  obtain ⟨E, rfl⟩ := h
  rw [List.take_append_of_le_length hk]
/-- Every beginning of the log is one of the log of the leader of its last term. -/
def Good (g : Int → Lg) (L : Lg) : Prop := ∀ k, 1 ≤ k → k ≤ L.length → k ≤ (g (trm L k)).length ∧ L.take k = (g (trm L k)).take k
theorem Good.nil (g : Int → Lg) : Good g [] := fun k h1 h2 => by simp at h2; omega
theorem Good.sub {g : Int → Lg} {L M : Lg} (h : Good g M) (hp : L <+: M) : Good g L := by
  intro k h1 h2
  have hl := hp.length_le
  have := h k h1 (by omega)
  rw [trm_pre hp h2, take_pre hp h2] at this
  exact this
theorem Good.last {g : Int → Lg} {L : Lg} (h : Good g L) (h0 : L ≠ []) : L.length ≤ (g (trm L L.length)).length ∧ L = (g (trm L L.length)).take L.length := by
  have h1 : 1 ≤ L.length := by
    cases L with
    | nil => exact absurd rfl h0
    | cons => simp
  have := h L.length h1 (Nat.le_refl _)
  rw [List.take_length] at this
  exact this
/-- Two logs with the same term at an index agree up to it. -/
theorem Good.same {g : Int → Lg} {L M : Lg} (h1 : Good g L) (h2 : Good g M) {k : Nat} (hL : k ≤ L.length) (hM : k ≤ M.length) (ht : trm L k = trm M k) : L.take k = M.take k := by
  by_cases h0 : k = 0
  · subst h0; simp
  · rw [(h1 k (by omega) hL).2, (h2 k (by omega) hM).2, ht]
structure Gh where
  el : Int → Bool
  ld : Int → Int
  g : Int → Lg
  a : Nat → Int → Nat
  d : Nat → Int → Lg
def Bad (h : Gh) (t : Int) (k : Nat) (u : Int) : Prop := t < u ∧ h.el u = true ∧ ¬ ((h.g t).take k <+: h.g u)
/-- As new as. -/
def upTo (D L : Lg) : Prop := trm D D.length > trm L L.length ∨ trm D D.length = trm L L.length ∧ L.length ≤ D.length
structure Inv (N : Nat) (c : Cast) (h : Gh) : Prop where
  good : ∀ t, Good h.g (h.g t)
  rng : ∀ t, ∀ e ∈ h.g t, 1 ≤ e.1 ∧ e.1 ≤ t
  asc : ∀ t, (h.g t).Pairwise (fun x y => x.1 ≤ y.1)
  none : ∀ t, h.el t = false → h.g t = []
  ack : ∀ m t, h.a m t ≤ (h.g t).length
  won : ∀ t, h.el t = true → 1 ≤ t ∧ Won N c t (h.ld t) ∧ c (h.ld t).toNat t = h.ld t
  dg : ∀ n t, Good h.g (h.d n t)
  slf : ∀ m t, c m t ≠ -1 → 0 ≤ c m t ∧ c (c m t).toNat t = c m t
  vot : ∀ m t', c m t' ≠ -1 → ∀ t, t < t' → ∀ k, 1 ≤ k → k ≤ h.a m t → trm (h.g t) k = t → (∃ L, Good h.g L ∧ (h.g t).take k <+: L ∧ upTo (h.d (c m t').toNat t') L) ∨ ∃ u, u ≤ t' ∧ Bad h t k u
  chose : ∀ t', h.el t' = true → ∃ Q, Quor N Q ∧ ∀ m, Q m = true → c m t' ≠ -1 ∧ ∀ t, t < t' → ∀ k, 1 ≤ k → k ≤ h.a m t → trm (h.g t) k = t → (h.g t).take k <+: h.g t' ∨ ∃ u, u < t' ∧ Bad h t k u
/-- Acknowledged by a quorum in its own term. -/
def Cmt (N : Nat) (h : Gh) (t : Int) (k : Nat) : Prop := h.el t = true ∧ 1 ≤ k ∧ k ≤ (h.g t).length ∧ trm (h.g t) k = t ∧ ∃ Q, Quor N Q ∧ ∀ m, Q m = true → k ≤ h.a m t
/-- Each later leader has it. -/
theorem Cmt.later {N : Nat} (hN : N ≤ 7) {c : Cast} {h : Gh} (hi : Inv N c h) {t : Int} {k : Nat} (hc : Cmt N h t k) : ∀ n : Nat, ∀ u : Int, u = t + (n : Int) → h.el u = true → (h.g t).take k <+: h.g u := by
  intro n
  induction n using Nat.strongRecOn with
  | _ n ih =>
    intro u hu he
    by_cases h0 : n = 0
    · have : u = t := by omega
      subst this
      exact List.take_prefix _ _
    · obtain ⟨_, h1, h2, h3, Q, hQ, hq⟩ := hc
      obtain ⟨R, hR, hr⟩ := hi.chose u he
      obtain ⟨m, m1, m2⟩ := quor_meet hN hQ hR
      rcases (hr m m2).2 t (by omega) k h1 (hq m m1) h3 with h4 | ⟨v, v1, v2, v3, v4⟩
      · exact h4
      · exact absurd (ih (v - t).toNat (by omega) v (by omega) v3) v4
theorem Cmt.le {N : Nat} (hN : N ≤ 7) {c : Cast} {h : Gh} (hi : Inv N c h) {t u : Int} {k : Nat} (hc : Cmt N h t k) (hu : t ≤ u) (he : h.el u = true) : (h.g t).take k <+: h.g u :=
  hc.later hN hi (u - t).toNat u (by omega) he
/-- Two beginnings of committed ones: one is a beginning of the other. -/
theorem cmt_cmp {N : Nat} (hN : N ≤ 7) {c : Cast} {h : Gh} (hi : Inv N c h) {t u : Int} {k j : Nat} (h1 : Cmt N h t k) (h2 : Cmt N h u j) {L M : Lg} (hL : L <+: (h.g t).take k) (hM : M <+: (h.g u).take j) : L <+: M ∨ M <+: L := by
  have key : ∃ G, L <+: G ∧ M <+: G := by
    by_cases hu : t ≤ u
    · exact ⟨h.g u, hL.trans (h1.le hN hi hu h2.1), hM.trans (List.take_prefix _ _)⟩
    · exact ⟨h.g t, hL.trans (List.take_prefix _ _), hM.trans (h2.le hN hi (by omega) h1.1)⟩
  obtain ⟨G, g1, g2⟩ := key
  by_cases hl : L.length ≤ M.length
  · exact .inl (List.prefix_of_prefix_length_le g1 g2 hl)
  · exact .inr (List.prefix_of_prefix_length_le g2 g1 (by omega))
/-! ### the ghosts grow -/
structure Gr (c : Cast) (h h' : Gh) : Prop where
  el : ∀ t, h.el t = true → h'.el t = true ∧ h'.ld t = h.ld t ∧ ∃ E : Lg, h'.g t = h.g t ++ E ∧ ∀ e ∈ E, e.1 = t
  a : ∀ m t, h.a m t ≤ h'.a m t
  d : ∀ n t, c n t ≠ -1 → h'.d n t = h.d n t
theorem Gr.refl (c : Cast) (h : Gh) : Gr c h h := ⟨fun t ht => ⟨ht, rfl, [], by simp, by simp⟩, fun _ _ => Nat.le_refl _, fun _ _ _ => rfl⟩
section
variable {N : Nat} {c : Cast} {h h' : Gh}
theorem Gr.pre (hg : Gr c h h') (hi : Inv N c h) (t : Int) : h.g t <+: h'.g t := by
  cases he : h.el t with
  | false => rw [hi.none t he]; exact List.nil_prefix
  | true =>
    obtain ⟨_, _, E, hE, _⟩ := hg.el t he
    rw [hE]; exact List.prefix_append _ _
theorem Gr.good (hg : Gr c h h') (hi : Inv N c h) {L : Lg} (hL : Good h.g L) : Good h'.g L := by
  intro k h1 h2
  obtain ⟨a1, a2⟩ := hL k h1 h2
  have hp := hg.pre hi (trm L k)
  have := hp.length_le
  exact ⟨by omega, by rw [take_pre hp a1]; exact a2⟩
theorem Gr.bad (hg : Gr c h h') (hi : Inv N c h) {t u : Int} {k : Nat} (hk : k ≤ (h.g t).length) (hb : Bad h t k u) : Bad h' t k u := by
  obtain ⟨b1, b2, b3⟩ := hb
  obtain ⟨e1, _, E, e2, e3⟩ := hg.el u b2
  refine ⟨b1, e1, fun hp => b3 ?_⟩
  rw [take_pre (hg.pre hi t) hk, e2] at hp
  by_cases hl : k ≤ (h.g u).length
  · exact List.prefix_of_prefix_length_le hp (List.prefix_append _ _) (by rw [List.length_take]; omega)
  · exfalso
    have hlen := hp.length_le
    rw [List.length_take, List.length_append] at hlen
    have h1 : trm ((h.g t).take k) ((h.g u).length + 1) = trm (h.g u ++ E) ((h.g u).length + 1) := (trm_pre hp (by rw [List.length_take]; omega)).symm
    rw [trm_take (by omega)] at h1
    have h2 : trm (h.g u ++ E) ((h.g u).length + 1) = u := by
      unfold trm
      rw [if_neg (by omega), Nat.add_sub_cancel, List.getD_eq_getElem?_getD, List.getElem?_append_right (Nat.le_refl _), Nat.sub_self]
      cases E with
      | nil => simp at hlen; omega
      | cons e E => simpa using e3 e (by simp)
    obtain ⟨e, he, ht⟩ := trm_mem (L := h.g t) (k := (h.g u).length + 1) (by omega) (by omega)
    have := (hi.rng t e he).2
    omega
theorem Gr.cmt (hg : Gr c h h') (hi : Inv N c h) {t : Int} {k : Nat} (hc : Cmt N h t k) : Cmt N h' t k := by
  obtain ⟨c1, c2, c3, c4, Q, hQ, hq⟩ := hc
  have hp := hg.pre hi t
  have := hp.length_le
  exact ⟨(hg.el t c1).1, c2, by omega, by rw [trm_pre hp c3]; exact c4, Q, hQ, fun m hm => Nat.le_trans (hq m hm) (hg.a m t)⟩
end
theorem trm_mono {G : Lg} (h : G.Pairwise (fun x y => x.1 ≤ y.1)) {k n : Nat} (h1 : 1 ≤ k) (h2 : k ≤ n) (h3 : n ≤ G.length) : trm G k ≤ trm G n := by
  unfold trm
  rw [if_neg (by omega), if_neg (by omega), getD_at _ (by omega), getD_at _ (by omega)]
  by_cases e : k = n
  · subst e; exact Int.le_refl _
  · exact List.pairwise_iff_getElem.1 h (k - 1) (n - 1) (by omega) (by omega) (by omega)
/-- A commit mark that has to be so. -/
def ComOk (N : Nat) (h : Gh) (T : Int) (cm : Int) (L : Lg) : Prop := cm = 0 ∨ ∃ t k, t ≤ T ∧ Cmt N h t k ∧ cm ≤ (k : Int) ∧ L.take cm.toNat <+: (h.g t).take k
end Go.Proofs.YtfadalgikdffeaaGreat.EVT
/- Replicated logs: the ballots' steps, one node at a time. -/
set_option linter.unusedVariables false
set_option linter.unusedSimpArgs false
namespace Go.Proofs.YtfadalgikdffeaaGreat.EVT
open Go Go.EV

section
variable {N : Nat} {c : Cast} {i : Nat} {b : Bal}
theorem Node.camp (hn : Node N c i b) (hm : ¬ b.2.2.1 ≥ Max) : Node N (upC c i (b.2.2.1 + 1) (i : Int)) i (EVT.camp b) := by
  have hk := camp_keeps hn.ok
  have hok := hk.1
  have hlt : ∀ t, b.2.2.1 + 1 < t → upC c i (b.2.2.1 + 1) (i : Int) i t = -1 := fun t ht => by
    unfold upC
    rw [if_neg (fun e => by omega)]
    exact hn.later t (by omega)
  unfold EVT.camp at hok ⊢
  rw [if_neg hm] at hok ⊢
  by_cases h1 : b.2.1 = 1
  · rw [if_pos h1] at hok ⊢
    have hN : N = 1 := by have := hn.ns; omega
    obtain ⟨q1, _⟩ := chk_iff.1 hn.ok
    unfold okN at q1
    have hi0 : i = 0 := by have := hn.nd; omega
    refine ⟨hok, hn.nd, hn.ns, ?_, hlt, fun hr => by simp at hr, fun _ => ⟨by omega, _, by rw [hN]; exact quor_one hi0, fun m hq => ?_⟩⟩
    · simp only [upC_at]; exact hn.nd.symm
    · have : m = i := by simpa using hq
      subst this
      exact upC_at
  · rw [if_neg h1] at hok ⊢
    refine ⟨hok, hn.nd, hn.ns, ?_, hlt, fun _ v hv => ?_, fun hr => by simp at hr⟩
    · simp only [upC_at]; exact hn.nd.symm
    · simp only [List.mem_singleton] at hv
      rw [hv, hn.nd, Int.toNat_natCast]
      exact upC_at
theorem Node.cnt (hn : Node N c i b) {l : Let} (hl : Lok N c l) : Node N c i (EVT.cnt b l.1 l.2.1 l.2.2.1 l.2.2.2.1 l.2.2.2.2.2.2.2.1) := by
  have hk := cnt_keeps hn.ok l.1 l.2.1 l.2.2.1 l.2.2.2.1 l.2.2.2.2.2.2.2.1
  have hok := hk.1
  unfold EVT.cnt at hok ⊢
  split at hok
  · rename_i h1; rw [if_pos h1]; exact hn
  · rename_i h1
    rw [if_neg h1]
    have hkd : l.1 = 2 := by
      by_cases e : l.1 = 2
      · exact e
      · exact absurd (.inl e) h1
    have hcon : con b.1 b.2.1 l.2.1 l.2.2.1 l.2.2.2.1 = true := by
      cases e : con b.1 b.2.1 l.2.1 l.2.2.1 l.2.2.2.1 with
      | true => rfl
      | false => exact absurd (.inr e) h1
    obtain ⟨k1, k2, k3, k4, k5, k6⟩ := con_iff.1 hcon
    have ho := hn.obs l.2.2.2.1
    simp only at hok ⊢
    generalize EVT.obs b l.2.2.2.1 = o at *
    split at hok
    · rename_i h2; rw [if_pos h2]; exact ho
    · rename_i h2
      rw [if_neg h2]
      have hte : l.2.2.2.1 = o.2.2.1 := by
        by_cases e : l.2.2.2.1 = o.2.2.1
        · exact e
        · exact absurd (.inl e) h2
      have hrl : o.2.2.2.1 = 1 := by
        by_cases e : o.2.2.2.1 = 1
        · exact e
        · exact absurd (.inr (.inl e)) h2
      have hye : l.2.2.2.2.2.2.2.1 = true := by
        cases e : l.2.2.2.2.2.2.2.1 with
        | true => rfl
        | false => exact absurd (.inr (.inr e)) h2
      obtain ⟨g1, g2, g3⟩ := hl.2.2 hkd hye
      have hto : l.2.2.1 = (i : Int) := by rw [k1]; exact hn.nd
      rw [hte, hto] at g3
      have hmark : ∀ n, markF l.2.1 o.2.2.2.2.2.2 n = true → c n o.2.2.1 = (i : Int) := by
        intro n hn'
        unfold markF at hn'
        simp only [Bool.or_eq_true, List.any_eq_true, beq_iff_eq] at hn'
        rcases hn' with ⟨v, hv, rfl⟩ | rfl
        · exact ho.cand hrl v hv
        · exact g3
      obtain ⟨q1, q2, q3, q4, q5, _⟩ := chk_iff.1 (show EVT.chk o.1 o.2.1 o.2.2.1 o.2.2.2.1 o.2.2.2.2.1 o.2.2.2.2.2.1 o.2.2.2.2.2.2 = 0 from ho.ok)
      obtain ⟨w1, w2, w3⟩ := vchk_of q5
      have hlt : ∀ n, markF l.2.1 o.2.2.2.2.2.2 n = true → n < N := by
        intro n hn'
        unfold markF at hn'
        simp only [Bool.or_eq_true, List.any_eq_true, beq_iff_eq] at hn'
        have hns := ho.ns
        rcases hn' with ⟨v, hv, rfl⟩ | rfl
        · have := w1 v hv; omega
        · omega
      split at hok
      · rename_i h3
        rw [if_pos h3]
        unfold quo at h3
        simp only [Bool.and_eq_true, decide_eq_true_eq, cntVs_len] at h3
        have hns := ho.ns
        refine ⟨hok, ho.nd, ho.ns, ho.now, ho.later, fun hr => by simp at hr, fun _ => ⟨by omega, markF l.2.1 o.2.2.2.2.2.2, ⟨hlt, by omega⟩, hmark⟩⟩
      · rename_i h3
        rw [if_neg h3]
        refine ⟨hok, ho.nd, ho.ns, ho.now, ho.later, fun _ v hv => ?_, fun hr => by rw [hrl] at hr; omega⟩
        obtain ⟨n, n1, n2, rfl⟩ := cntVs_mem.1 hv
        rw [Int.toNat_natCast]
        exact hmark n n2
/-- A vote that is cast. -/
theorem Node.votes (ho : Node N c i b) {f : Int} (hv : b.2.2.2.2.1 = -1 ∨ b.2.2.2.2.1 = f) (hok : okB (vote1 b f)) : Ext c (upC c i b.2.2.1 f) ∧ Node N (upC c i b.2.2.1 f) i (vote1 b f) := by
  have hv' : c i b.2.2.1 = -1 ∨ c i b.2.2.1 = f := by rw [ho.now]; exact hv
  have he := upC_ext (t := b.2.2.1) (n := f) hv'
  refine ⟨he, hok, ho.nd, ho.ns, upC_at, fun t ht => ?_, fun hr v hv => ?_, fun hr => (ho.led hr).ext he⟩
  · have := ho.later t ht
    unfold upC
    rw [if_neg (fun e => by have : b.2.2.1 < t := ht; omega)]
    exact this
  · have := ho.cand hr v hv
    have e2 := he v.toNat b.2.2.1 (by rw [this]; omega)
    show upC c i b.2.2.1 f v.toNat b.2.2.1 = _
    rw [e2]; exact this
/-- A node of any role that follows from now on. -/
theorem Node.follow (hn : Node N c i b) {ld : Int} (hok : okB (b.1, b.2.1, b.2.2.1, 0, b.2.2.2.2.1, ld, [])) : Node N c i (b.1, b.2.1, b.2.2.1, 0, b.2.2.2.2.1, ld, []) :=
  ⟨hok, hn.nd, hn.ns, hn.now, hn.later, fun hr => by simp at hr, fun hr => by simp at hr⟩
end
end Go.Proofs.YtfadalgikdffeaaGreat.EVT
/- Replicated logs: what the calls compute. -/
set_option linter.unusedVariables false
set_option linter.unusedSimpArgs false
namespace Go.Proofs.YtfadalgikdffeaaGreat.EVT
open Go Go.EV

abbrev Rep := Bal × Int × Lg × List Int
/-- How many have an index. -/
def hasN (mt : List Int) (k : Int) : Nat := (mt.filter (fun m => decide (k ≤ m))).length
theorem hasN_le (mt : List Int) (k : Int) : hasN mt k ≤ mt.length := List.length_filter_le _ _
/-- The commit mark, searched from an index down. -/
def comN (b : Bal) (L : Lg) (mt : List Int) (cm : Int) : Nat → Int
  | 0 => cm
  | k + 1 => if ((k + 1 : Nat) : Int) > cm then (if trm L (k + 1) = b.2.2.1 ∧ quo (hasN mt ((k + 1 : Nat) : Int)) b.2.1 = true then ((k + 1 : Nat) : Int) else comN b L mt cm k) else cm
def commitR (r : Rep) : Rep := (r.1, comN r.1 r.2.2.1 r.2.2.2 r.2.1 r.2.2.1.length, r.2.2.1, r.2.2.2)
def beginR (r : Rep) : Rep := (r.1, r.2.1, r.2.2.1, (List.replicate r.1.2.1.toNat 0).set r.1.1.toNat (r.2.2.1.length : Int))
def withB (r : Rep) (b : Bal) : Rep := (b, r.2.1, r.2.2.1, if b.2.2.2.1 = 2 then r.2.2.2 else [])
def tmoR (r : Rep) : Rep × List Let :=
  if r.1.2.2.2.1 = 2 then (r, [])
  else (if (camp r.1).2.2.2.1 = 2 then beginR (camp r.1, r.2) else (camp r.1, r.2), campL r.1 r.2.2.1.length (trm r.2.2.1 r.2.2.1.length))
def beatL (r : Rep) (n : Nat) : Let := (3, r.1.1, (n : Int), r.1.2.2.1, r.2.2.2.getD n 0, trm r.2.2.1 (r.2.2.2.getD n 0).toNat, r.2.1, false, (r.2.2.1.drop (r.2.2.2.getD n 0).toNat).take 32)
/-- The letters of Beat from the j-th node on, k of them. -/
def beatN (r : Rep) : Nat → Nat → List Let
  | 0, _ => []
  | k + 1, j => if (j : Int) = r.1.1 then beatN r k (j + 1) else beatL r j :: beatN r k (j + 1)
def beatR (r : Rep) : List Let := if r.1.2.2.2.1 = 2 then beatN r r.1.2.1.toNat 0 else []
def propR (r : Rep) (x : List UInt8) : Rep := commitR (r.1, r.2.1, r.2.2.1 ++ [(r.1.2.2.1, x)], r.2.2.2.set r.1.1.toNat ((r.2.2.1.length + 1 : Nat) : Int))
def proE (r : Rep) (x : List UInt8) : Int := if r.1.2.2.2.1 ≠ 2 then 24 else if x.length > 65536 then 5 else if r.2.2.1.length ≥ 4096 then 6 else 0
/-- How many entries are there already, from an index on, and whether the next one is another. -/
def conf (L : Lg) : Nat → Lg → Nat × Bool
  | _, [] => (0, false)
  | a, c :: es => if L.length ≤ a then (0, false) else if (L.getD a (0, [])).1 = c.1 then ((conf L (a + 1) es).1 + 1, (conf L (a + 1) es).2) else (0, true)
theorem conf_le (L : Lg) : ∀ (es : Lg) (a : Nat), (conf L a es).1 ≤ es.length
  | [], _ => by simp [conf]
  | c :: es, a => by
    have := conf_le L es (a + 1)
    unfold conf
    split
    · simp
    · split
      · simp; exact this
      · simp
/-- A following ballot. -/
def folB (b : Bal) (t ld : Int) : Bal := ((obs b t).1, (obs b t).2.1, (obs b t).2.2.1, 0, (obs b t).2.2.2.2.1, ld, [])
def soundE (te : Int) : Int → Lg → Bool
  | _, [] => true
  | p, c :: es => if c.1 < p then false else if c.1 > te then false else if c.2.length > 65536 then false else soundE te c.1 es
def soundR (te ix pr cm : Int) (es : Lg) : Bool :=
  if ix < 0 ∨ ix > 4096 ∨ cm < 0 ∨ es.length > 32 then false else if (ix = 0 ∧ pr ≠ 0) ∨ (ix > 0 ∧ (pr < 1 ∨ pr > te)) then false else soundE te (max pr 1) es
/-- The part of a sound letter that is taken over. -/
def takeR (r : Rep) (ix pr cm : Int) (es : Lg) : Option (Int × Lg) :=
  if ix > (r.2.2.1.length : Int) ∨ trm r.2.2.1 ix.toNat ≠ pr ∨ ix + (es.length : Int) > 4096 then none
  else let q := conf r.2.2.1 ix.toNat es
    if q.2 = true ∧ ix + (q.1 : Int) < r.2.1 then none
    else some (max r.2.1 (min cm (ix + (es.length : Int))), (if q.2 then r.2.2.1.take (ix.toNat + q.1) else r.2.2.1) ++ es.drop q.1)
def appR (r : Rep) (fr te ix pr cm : Int) (es : Lg) : Rep × List Let :=
  if te < r.1.2.2.1 then (r, [(4, r.1.1, fr, r.1.2.2.1, 0, 0, 0, false, [])])
  else if te = r.1.2.2.1 ∧ r.1.2.2.2.1 = 2 then (r, [])
  else match takeR r ix pr cm es with
    | none => ((folB r.1 te fr, r.2.1, r.2.2.1, []), [(4, r.1.1, fr, (folB r.1 te fr).2.2.1, 0, 0, 0, false, [])])
    | some q => ((folB r.1 te fr, q.1, q.2, []), [(4, r.1.1, fr, (folB r.1 te fr).2.2.1, ix + (es.length : Int), 0, 0, true, [])])
def apdR (r : Rep) (fr te ix : Int) (ye : Bool) : Rep :=
  if te > r.1.2.2.1 then withB r (obs r.1 te)
  else if te < r.1.2.2.1 ∨ r.1.2.2.2.1 ≠ 2 ∨ ye = false ∨ ix < 0 ∨ ix > (r.2.2.1.length : Int) ∨ ix ≤ r.2.2.2.getD fr.toNat 0 then r
  else commitR (r.1, r.2.1, r.2.2.1, r.2.2.2.set fr.toNat ix)
def rcvR (r : Rep) (l : Let) : Rep × List Let :=
  if con r.1.1 r.1.2.1 l.2.1 l.2.2.1 l.2.2.2.1 = false then (r, [])
  else if l.1 = 1 then
    (withB r (ans r.1 l.1 l.2.1 l.2.2.1 l.2.2.2.1 l.2.2.2.2.1 l.2.2.2.2.2.1 r.2.2.1.length (trm r.2.2.1 r.2.2.1.length)).1, [(ans r.1 l.1 l.2.1 l.2.2.1 l.2.2.2.1 l.2.2.2.2.1 l.2.2.2.2.2.1 r.2.2.1.length (trm r.2.2.1 r.2.2.1.length)).2])
  else if l.1 = 2 then
    let b := cnt r.1 l.1 l.2.1 l.2.2.1 l.2.2.2.1 l.2.2.2.2.2.2.2.1
    if r.1.2.2.2.1 ≠ 2 ∧ b.2.2.2.1 = 2 then (beginR (withB r b), beatR (beginR (withB r b))) else (withB r b, [])
  else if l.1 = 3 then (if soundR l.2.2.2.1 l.2.2.2.2.1 l.2.2.2.2.2.1 l.2.2.2.2.2.2.1 l.2.2.2.2.2.2.2.2 then appR r l.2.1 l.2.2.2.1 l.2.2.2.2.1 l.2.2.2.2.2.1 l.2.2.2.2.2.2.1 l.2.2.2.2.2.2.2.2 else (r, []))
  else if l.1 = 4 then (apdR r l.2.1 l.2.2.2.1 l.2.2.2.2.1 l.2.2.2.2.2.2.2.1, [])
  else (r, [])
def rstR (r : Rep) : Rep := ((r.1.1, r.1.2.1, r.1.2.2.1, 0, r.1.2.2.2.2.1, -1, []), 0, r.2.2.1, [])
def cmtR (r : Rep) : List (List UInt8) := (r.2.2.1.take r.2.1.toNat).map (·.2)
/-! ### valid replicas -/
/-- The commands, one after the other. -/
def lchk (tm : Int) : Int → Lg → Int
  | _, [] => 0
  | p, c :: L => if c.1 < 1 ∨ c.1 > tm then 1 else if c.1 < p then 22 else if c.2.length > 65536 then 5 else lchk tm c.1 L
def mchk (n : Int) : List Int → Int
  | [] => 0
  | m :: l => if m < 0 ∨ m > n then 1 else mchk n l
def wantM (b : Bal) : Int := if b.2.2.2.1 = 2 then b.2.1 else 0
def chkR (r : Rep) : Int :=
  if chk r.1.1 r.1.2.1 r.1.2.2.1 r.1.2.2.2.1 r.1.2.2.2.2.1 r.1.2.2.2.2.2.1 r.1.2.2.2.2.2.2 ≠ 0 then chk r.1.1 r.1.2.1 r.1.2.2.1 r.1.2.2.2.1 r.1.2.2.2.2.1 r.1.2.2.2.2.2.1 r.1.2.2.2.2.2.2
  else if r.2.2.1.length > 4096 then 5
  else if lchk r.1.2.2.1 0 r.2.2.1 ≠ 0 then lchk r.1.2.2.1 0 r.2.2.1
  else if r.2.1 < 0 ∨ r.2.1 > (r.2.2.1.length : Int) then 1
  else if (r.2.2.2.length : Int) ≠ wantM r.1 then 9
  else if mchk r.2.2.1.length r.2.2.2 ≠ 0 then mchk r.2.2.1.length r.2.2.2
  else if r.1.2.2.2.1 = 2 ∧ r.2.2.2.getD r.1.1.toNat 0 ≠ (r.2.2.1.length : Int) then 9 else 0
structure okR (r : Rep) : Prop where
  bal : okB r.1
  len : r.2.2.1.length ≤ 4096
  rng : ∀ c ∈ r.2.2.1, 1 ≤ c.1 ∧ c.1 ≤ r.1.2.2.1 ∧ c.2.length ≤ 65536
  asc : r.2.2.1.Pairwise (fun x y => x.1 ≤ y.1)
  com : 0 ≤ r.2.1 ∧ r.2.1 ≤ (r.2.2.1.length : Int)
  mlen : (r.2.2.2.length : Int) = wantM r.1
  mrng : ∀ m ∈ r.2.2.2, 0 ≤ m ∧ m ≤ (r.2.2.1.length : Int)
  own : r.1.2.2.2.1 = 2 → r.2.2.2.getD r.1.1.toNat 0 = (r.2.2.1.length : Int)
theorem lchk_iff {tm : Int} : ∀ {L : Lg} {p : Int}, lchk tm p L = 0 ↔ (∀ c ∈ L, 1 ≤ c.1 ∧ c.1 ≤ tm ∧ p ≤ c.1 ∧ c.2.length ≤ 65536) ∧ L.Pairwise (fun x y => x.1 ≤ y.1)
  | [], p => by simp [lchk]
  | c :: L, p => by
    unfold lchk
    split
    · rename_i h
      simp only [List.mem_cons, List.pairwise_cons]
      constructor
      · intro h2; omega
      · rintro ⟨h1, _⟩; have := h1 c (.inl rfl); omega
    · rename_i h
      split
      · rename_i h2
        simp only [List.mem_cons, List.pairwise_cons]
        constructor
        · intro h2; omega
        · rintro ⟨h1, _⟩; have := h1 c (.inl rfl); omega
      · rename_i h2
        split
        · rename_i h3
          simp only [List.mem_cons, List.pairwise_cons]
          constructor
          · intro h2; omega
          · rintro ⟨h1, _⟩; have := h1 c (.inl rfl); omega
        · rename_i h3
          rw [lchk_iff]
          simp only [List.mem_cons, List.pairwise_cons]
          constructor
          · rintro ⟨a1, a2⟩
            refine ⟨fun x hx => ?_, fun x hx => (a1 x hx).2.2.1, a2⟩
            rcases hx with rfl | hx
            · omega
            · have := a1 x hx; omega
          · rintro ⟨a1, a2, a3⟩
            exact ⟨fun x hx => by have := a1 x (.inr hx); have := a2 x hx; omega, a3⟩
theorem mchk_iff {n : Int} : ∀ {l : List Int}, mchk n l = 0 ↔ ∀ m ∈ l, 0 ≤ m ∧ m ≤ n
  | [] => by simp [mchk]
  | m :: l => by
    unfold mchk
    split
    · rename_i h
      constructor
      · intro h2; omega
      · intro h2; have := h2 m (by simp); omega
    · rename_i h
      rw [mchk_iff]
      constructor
      · intro h2 x hx
        rcases List.mem_cons.1 hx with rfl | hx
        · omega
        · exact h2 x hx
      · intro h2 x hx; exact h2 x (by simp [hx])
theorem chkR_iff {r : Rep} : chkR r = 0 ↔ okR r := by
  unfold chkR
  constructor
  · intro h
    split at h
    · rename_i h1; exact absurd h h1
    rename_i h1
    split at h
    · omega
    rename_i h2
    split at h
    · rename_i h3; exact absurd h h3
    rename_i h3
    split at h
    · omega
    rename_i h4
    split at h
    · omega
    rename_i h5
    split at h
    · rename_i h6; exact absurd h h6
    rename_i h6
    split at h
    · omega
    rename_i h7
    simp only [ne_eq, Decidable.not_not] at h1 h3 h5 h6
    have k3 := lchk_iff.1 h3
    exact ⟨h1, by omega, fun c hc => by have := k3.1 c hc; omega, k3.2, by omega, h5, mchk_iff.1 h6, fun hr => by
      by_cases e : r.2.2.2.getD r.1.1.toNat 0 = (r.2.2.1.length : Int)
      · exact e
      · exact absurd ⟨hr, e⟩ h7⟩
  · intro h
    have h1 : chk r.1.1 r.1.2.1 r.1.2.2.1 r.1.2.2.2.1 r.1.2.2.2.2.1 r.1.2.2.2.2.2.1 r.1.2.2.2.2.2.2 = 0 := h.bal
    have h3 : lchk r.1.2.2.1 0 r.2.2.1 = 0 := lchk_iff.2 ⟨fun c hc => by have := h.rng c hc; omega, h.asc⟩
    have h6 : mchk r.2.2.1.length r.2.2.2 = 0 := mchk_iff.2 h.mrng
    have h2 := h.len
    have h4 := h.com
    rw [if_neg (by omega), if_neg (by omega), if_neg (by omega), if_neg (by omega), if_neg (by have := h.mlen; omega), if_neg (by omega), if_neg (fun e => e.2 (h.own e.1))]
end Go.Proofs.YtfadalgikdffeaaGreat.EVT
/- Replicated logs: the program's calls answer as told. -/
set_option linter.unusedVariables false
set_option linter.unusedSimpArgs false
namespace Go.Proofs.YtfadalgikdffeaaGreat.EVT
open Go Go.EV

theorem getD_drop {α : Type} (l : List α) (j i : Nat) (d : α) : (l.drop j).getD i d = l.getD (j + i) d := by
  simp [List.getD_eq_getElem?_getD]
theorem clone_some {α : Type} {l : List α} (h : l.length ≤ 2147483647) : cond (decide (l.length ≤ 2147483647)) (some l) none = some l := by rw [ct (decide_eq_true h)]
theorem mx_eq (b a : Int) : (if true = true then if b > a then b else a else if b < a then b else a) = max b a := by
  rw [if_pos rfl]; split <;> omega
theorem mn_eq (b a : Int) : (if false = true then if b > a then b else a else if b < a then b else a) = min b a := by
  rw [if_neg (by decide)]; split <;> omega
theorem g58_eq {L : Lg} {a : Int} (hL : L.length ≤ 5000) (h0 : 0 ≤ a) (h1 : a ≤ (L.length : Int)) : g58 L a = some (trm L a.toNat) := by
  unfold g58 trm
  by_cases h : a = 0
  · subst h; rfl
  · rw [cf (by (rw [Bool.eq_false_iff]; simp only [ne_eq, Bool.and_eq_true, Bool.or_eq_true, decide_eq_true_eq, beq_iff_eq, bne_iff_ne, Bool.not_eq_true', decide_eq_false_iff_not, and_true, true_and]; omega)), wrap_in (by omega), ct (in_rng (by omega) (by omega)), if_neg (by omega), show (a - 1).toNat = a.toNat - 1 by omega]
theorem g34_eq {L : Lg} (hL : L.length ≤ 5000) : g34 L = some (trm L L.length) := by
  unfold g34
  rw [g58_eq hL (by omega) (by omega)]
  rfl
theorem has_loop (k : Int) (mt : List Int) (hl : mt.length ≤ 1000) : ∀ (d j n acc : Nat), j + d = mt.length → d < n → acc ≤ j →
    loopN st70_0 n ((k, (acc : Int), mt, (mt.length : Int), (j : Int)), ()) = some (.inl (((acc + hasN (mt.drop j) k : Nat) : Int), ()))
  | 0, j, n + 1, acc, hj, hn, h1 => by
    have : mt.drop j = [] := List.drop_eq_nil_of_le (by omega)
    rw [loopN_s]; dsimp only [st70_0]
    rw [cf (by (rw [Bool.eq_false_iff]; simp only [ne_eq, Bool.and_eq_true, Bool.or_eq_true, decide_eq_true_eq, beq_iff_eq, bne_iff_ne, Bool.not_eq_true', decide_eq_false_iff_not, and_true, true_and]; omega)), this]
    simp [hasN]
  | d + 1, j, n + 1, acc, hj, hn, h1 => by
    have ih := fun acc h => has_loop k mt hl d (j + 1) n acc (by omega) (by omega) h
    have hj' : j < mt.length := by omega
    rw [loopN_s]; dsimp only [st70_0]
    rw [ct (by (simp only [ne_eq, Bool.and_eq_true, Bool.or_eq_true, decide_eq_true_eq, beq_iff_eq, bne_iff_ne, Bool.not_eq_true', decide_eq_false_iff_not, and_true, true_and]; omega)), ct (in_rng (by omega) (by omega)), Int.toNat_natCast, getD_at 0 hj', List.drop_eq_getElem_cons hj', wrap_in (n := (j : Int) + 1) (by omega)]
    have e1 : ((j : Int) + 1) = ((j + 1 : Nat) : Int) := by omega
    rw [e1]
    by_cases h : mt[j] ≥ k
    · rw [ct (decide_eq_true h), wrap_in (by omega), show (acc : Int) + 1 = ((acc + 1 : Nat) : Int) by omega, ih (acc + 1) (by omega)]
      have : hasN (mt[j] :: mt.drop (j + 1)) k = hasN (mt.drop (j + 1)) k + 1 := by
        unfold hasN; rw [List.filter_cons_of_pos (by simpa using h)]; simp
      rw [this, show acc + 1 + hasN (mt.drop (j + 1)) k = acc + (hasN (mt.drop (j + 1)) k + 1) by omega]
    · rw [cf (decide_eq_false h), ih acc (by omega)]
      have : hasN (mt[j] :: mt.drop (j + 1)) k = hasN (mt.drop (j + 1)) k := by
        unfold hasN; rw [List.filter_cons_of_neg (by simpa using h)]
      rw [this]
theorem g70_eq {nd ns tm rl vd ld cm : Int} {vs : List Int} {L : Lg} {mt : List Int} (k : Int) (hl : mt.length ≤ 1000) : g70 k nd ns tm rl vd ld vs cm L mt = some (hasN mt k : Int) := by
  unfold g70
  have h : h70_0 ((k, 0, mt, (mt.length : Int), 0), ()) = _ := has_loop k mt hl mt.length 0 fuel 0 (by omega) (by rw [fuel_eq]; omega) (by omega)
  rw [h]
  simp
theorem com_loop {nd ns tm rl vd ld cm : Int} {vs : List Int} {L : Lg} {mt : List Int} (z : Rep) (hl : mt.length ≤ 1000) (hL : L.length ≤ 5000) (hc : 0 ≤ cm) (hns : ns ≤ 7) : ∀ (k n : Nat), k ≤ L.length → k < n →
    loopN st39_0 n ((k : Int), ((nd, ns, tm, rl, vd, ld, vs), cm, L, mt), z) = some (.inl ((), z, (nd, ns, tm, rl, vd, ld, vs), comN (nd, ns, tm, rl, vd, ld, vs) L mt cm k, L, mt))
  | 0, n + 1, hk, hn => by
    obtain ⟨⟨c1, c2, c3, c4, c5, c6, c7⟩, d1, d2, d3⟩ := z
    rw [loopN_s]; dsimp only [st39_0]
    rw [cf (decide_eq_false (by omega))]
    rfl
  | k + 1, n + 1, hk, hn => by
    have ih := com_loop (nd := nd) (ns := ns) (tm := tm) (rl := rl) (vd := vd) (ld := ld) (vs := vs) z hl hL hc hns k n (by omega) (by omega)
    obtain ⟨⟨c1, c2, c3, c4, c5, c6, c7⟩, d1, d2, d3⟩ := z
    rw [loopN_s]; dsimp only [st39_0]
    unfold comN
    by_cases h1 : ((k + 1 : Nat) : Int) > cm
    · rw [ct (decide_eq_true h1), if_pos h1, g58_eq hL (by omega) (by omega), wrap_in (by omega), show ((k + 1 : Nat) : Int) - 1 = (k : Int) by omega, ih, Int.toNat_natCast]
      simp only [Option.bind_some]
      by_cases h2 : trm L (k + 1) = tm
      · rw [ct (by (simp only [ne_eq, Bool.and_eq_true, Bool.or_eq_true, decide_eq_true_eq, beq_iff_eq, bne_iff_ne, Bool.not_eq_true', decide_eq_false_iff_not, and_true, true_and]; omega)), g70_eq _ hl]
        simp only [Option.bind_some]
        rw [g71_eq _ _ (by omega)]
        simp only [Option.bind_some]
        by_cases h3 : quo (hasN mt ((k + 1 : Nat) : Int)) ns = true
        · rw [if_pos ⟨h2, h3⟩, ct h3]
        · rw [if_neg (fun e => h3 e.2), cf (by simpa using h3)]
      · rw [cf (by (rw [Bool.eq_false_iff]; simp only [ne_eq, Bool.and_eq_true, Bool.or_eq_true, decide_eq_true_eq, beq_iff_eq, bne_iff_ne, Bool.not_eq_true', decide_eq_false_iff_not, and_true, true_and]; omega)), if_neg (fun e => h2 e.1)]
    · rw [cf (decide_eq_false h1), if_neg h1]
theorem g39_eq {nd ns tm rl vd ld cm : Int} {vs : List Int} {L : Lg} {mt : List Int} (hl : mt.length ≤ 1000) (hL : L.length ≤ 5000) (hc : 0 ≤ cm) (hns : ns ≤ 7) :
    g39 nd ns tm rl vd ld vs cm L mt = some (commitR ((nd, ns, tm, rl, vd, ld, vs), cm, L, mt)) := by
  unfold g39
  have h := com_loop (nd := nd) (tm := tm) (rl := rl) (vd := vd) (ld := ld) (vs := vs) ((0, 0, 0, 0, 0, 0, []), 0, [], []) hl hL hc hns L.length fuel (by omega) (by rw [fuel_eq]; omega)
  have h' : h39_0 ((L.length : Int), ((nd, ns, tm, rl, vd, ld, vs), cm, L, mt), (0, 0, 0, 0, 0, 0, []), 0, [], []) = _ := h
  rw [h']
  rfl
theorem g31_eq {nd ns tm rl vd ld cm : Int} {vs : List Int} {L : Lg} {mt : List Int} (h1 : vs.length ≤ 2147483647) (h2 : L.length ≤ 2147483647) (h3 : mt.length ≤ 2147483647) :
    g31 nd ns tm rl vd ld vs cm L mt = some ((nd, ns, tm, rl, vd, ld, vs), cm, L, mt) := by
  show Option.bind (cond (decide (vs.length ≤ 2147483647)) (some vs) none) (fun v1 => Option.bind (cond (decide (L.length ≤ 2147483647)) (some L) none) fun v2 => Option.bind (cond (decide (mt.length ≤ 2147483647)) (some mt) none) fun v3 => some ((nd, ns, tm, rl, vd, ld, v1), cm, v2, v3)) = _
  rw [clone_some h1, clone_some h2, clone_some h3]
  rfl
theorem g35_eq {nd ns tm rl vd ld cm : Int} {vs : List Int} {L : Lg} {mt : List Int} (hn : okN nd ns) : g35 nd ns tm rl vd ld vs cm L mt = some (beginR ((nd, ns, tm, rl, vd, ld, vs), cm, L, mt)) := by
  unfold okN at hn
  unfold g35 beginR
  rw [ct (by (simp only [ne_eq, Bool.and_eq_true, Bool.or_eq_true, decide_eq_true_eq, beq_iff_eq, bne_iff_ne, Bool.not_eq_true', decide_eq_false_iff_not, and_true, true_and]; omega)), List.length_replicate, ct (in_rng (by omega) (by omega)), ct (decide_eq_true (by omega))]
theorem g45_eq (nd ns tm rl vd ld cm : Int) (vs : List Int) (L : Lg) (mt : List Int) (b : Bal) :
    g45 nd ns tm rl vd ld vs cm L mt b.1 b.2.1 b.2.2.1 b.2.2.2.1 b.2.2.2.2.1 b.2.2.2.2.2.1 b.2.2.2.2.2.2 = some (withB ((nd, ns, tm, rl, vd, ld, vs), cm, L, mt) b) := by
  unfold g45 g32 withB
  simp only [Option.bind_some]
  by_cases h : b.2.2.2.1 = 2
  · rw [cf (by simp [h]), if_pos h]
  · rw [ct (by simp [h]), if_neg h]
theorem g43_eq (nd ns tm rl vd ld : Int) (vs : List Int) (kd fr tu te ix pr cm : Int) (ye : Bool) (es : List (Int × List UInt8)) : g43 nd ns tm rl vd ld vs kd fr tu te ix pr cm ye es = some (con nd ns fr tu te) := by
  unfold g43 con Max
  cases tu == nd <;> cases fr != nd <;> cases decide (fr ≥ 0) <;> cases decide (fr < ns) <;> cases decide (te ≥ 1) <;> rfl
theorem sound_loop {es : Lg} (hl : es.length ≤ 1000) (l : Let) : ∀ (d j n : Nat) (p : Int), j + d = es.length → d < n →
    loopN st47_0 n ((p, es, (es.length : Int), (j : Int)), l) = some (if soundE l.2.2.2.1 p (es.drop j) then .inl ((), ()) else .inr false)
  | 0, j, n + 1, p, hj, hn => by
    obtain ⟨l1, l2, l3, l4, l5, l6, l7, l8, l9⟩ := l
    have : es.drop j = [] := List.drop_eq_nil_of_le (by omega)
    rw [loopN_s]; dsimp only [st47_0]
    rw [cf (by (rw [Bool.eq_false_iff]; simp only [ne_eq, Bool.and_eq_true, Bool.or_eq_true, decide_eq_true_eq, beq_iff_eq, bne_iff_ne, Bool.not_eq_true', decide_eq_false_iff_not, and_true, true_and]; omega)), this]
    simp [soundE]
  | d + 1, j, n + 1, p, hj, hn => by
    have ih := fun p => sound_loop hl l d (j + 1) n p (by omega) (by omega)
    obtain ⟨l1, l2, l3, l4, l5, l6, l7, l8, l9⟩ := l
    have hj' : j < es.length := by omega
    rw [loopN_s]; dsimp only [st47_0]
    rw [ct (by (simp only [ne_eq, Bool.and_eq_true, Bool.or_eq_true, decide_eq_true_eq, beq_iff_eq, bne_iff_ne, Bool.not_eq_true', decide_eq_false_iff_not, and_true, true_and]; omega)), ct (in_rng (by omega) (by omega)), Int.toNat_natCast, getD_at _ hj', List.drop_eq_getElem_cons hj', wrap_in (by omega), show ((j : Int) + 1) = ((j + 1 : Nat) : Int) by omega, ih]
    have e0 : soundE l4 p (es[j] :: es.drop (j + 1)) = if es[j].1 < p then false else if es[j].1 > l4 then false else if es[j].2.length > 65536 then false else soundE l4 es[j].1 (es.drop (j + 1)) := rfl
    simp only [e0]
    by_cases h1 : es[j].1 < p
    · rw [ct (decide_eq_true h1)]; simp [h1]
    · rw [cf (decide_eq_false h1), if_neg h1]
      by_cases h2 : es[j].1 > l4
      · rw [ct (decide_eq_true h2)]; simp [h2]
      · rw [cf (decide_eq_false h2), if_neg h2]
        by_cases h3 : es[j].2.length > 65536
        · rw [ct (by (simp only [ne_eq, Bool.and_eq_true, Bool.or_eq_true, decide_eq_true_eq, beq_iff_eq, bne_iff_ne, Bool.not_eq_true', decide_eq_false_iff_not, and_true, true_and]; omega))]; simp [h3]
        · rw [cf (by (rw [Bool.eq_false_iff]; simp only [ne_eq, Bool.and_eq_true, Bool.or_eq_true, decide_eq_true_eq, beq_iff_eq, bne_iff_ne, Bool.not_eq_true', decide_eq_false_iff_not, and_true, true_and]; omega)), if_neg h3]
theorem g47_eq (kd fr tu te ix pr cm : Int) (ye : Bool) (es : Lg) : g47 kd fr tu te ix pr cm ye es = some (soundR te ix pr cm es) := by
  unfold g47 soundR
  rw [mx_eq 1 pr, Int.max_comm 1 pr]
  by_cases h1 : ix < 0
  · rw [ct (decide_eq_true h1), if_pos (by omega)]
  rw [cf (decide_eq_false h1)]
  by_cases h2 : ix > 4096
  · rw [ct (decide_eq_true h2), if_pos (by omega)]
  rw [cf (decide_eq_false h2)]
  by_cases h3 : cm < 0
  · rw [ct (decide_eq_true h3), if_pos (by omega)]
  rw [cf (decide_eq_false h3)]
  by_cases h4 : (es.length : Int) > 32
  · rw [ct (decide_eq_true h4), if_pos (by omega)]
  rw [cf (decide_eq_false h4), if_neg (by omega)]
  have hl := sound_loop (es := es) (by omega) (kd, fr, tu, te, ix, pr, cm, ye, es) es.length 0 fuel (max pr 1) (by omega) (by rw [fuel_eq]; omega)
  have hl' : h47_0 ((max pr 1, es, (es.length : Int), 0), kd, fr, tu, te, ix, pr, cm, ye, es) = _ := hl
  rw [hl', List.drop_zero]
  by_cases h5 : ix = 0
  · rw [ct (by (simp only [ne_eq, Bool.and_eq_true, Bool.or_eq_true, decide_eq_true_eq, beq_iff_eq, bne_iff_ne, Bool.not_eq_true', decide_eq_false_iff_not, and_true, true_and]; omega))]
    by_cases h6 : pr = 0
    · have e : (if ix = 0 ∧ pr ≠ 0 ∨ ix > 0 ∧ (pr < 1 ∨ pr > te) then false else soundE te (max pr 1) es) = soundE te (max pr 1) es := if_neg (by omega)
      rw [cf (by (rw [Bool.eq_false_iff]; simp only [ne_eq, Bool.and_eq_true, Bool.or_eq_true, decide_eq_true_eq, beq_iff_eq, bne_iff_ne, Bool.not_eq_true', decide_eq_false_iff_not, and_true, true_and]; omega)), cf (by (rw [Bool.eq_false_iff]; simp only [ne_eq, Bool.and_eq_true, Bool.or_eq_true, decide_eq_true_eq, beq_iff_eq, bne_iff_ne, Bool.not_eq_true', decide_eq_false_iff_not, and_true, true_and]; omega)), e]
      cases soundE te (max pr 1) es <;> rfl
    · rw [ct (by (simp only [ne_eq, Bool.and_eq_true, Bool.or_eq_true, decide_eq_true_eq, beq_iff_eq, bne_iff_ne, Bool.not_eq_true', decide_eq_false_iff_not, and_true, true_and]; omega)), if_pos (by omega)]
  · rw [cf (by (rw [Bool.eq_false_iff]; simp only [ne_eq, Bool.and_eq_true, Bool.or_eq_true, decide_eq_true_eq, beq_iff_eq, bne_iff_ne, Bool.not_eq_true', decide_eq_false_iff_not, and_true, true_and]; omega)), ct (by (simp only [ne_eq, Bool.and_eq_true, Bool.or_eq_true, decide_eq_true_eq, beq_iff_eq, bne_iff_ne, Bool.not_eq_true', decide_eq_false_iff_not, and_true, true_and]; omega))]
    by_cases h6 : pr < 1
    · rw [ct (by (simp only [ne_eq, Bool.and_eq_true, Bool.or_eq_true, decide_eq_true_eq, beq_iff_eq, bne_iff_ne, Bool.not_eq_true', decide_eq_false_iff_not, and_true, true_and]; omega)), if_pos (by omega)]
    · rw [cf (by (rw [Bool.eq_false_iff]; simp only [ne_eq, Bool.and_eq_true, Bool.or_eq_true, decide_eq_true_eq, beq_iff_eq, bne_iff_ne, Bool.not_eq_true', decide_eq_false_iff_not, and_true, true_and]; omega))]
      by_cases h7 : pr > te
      · rw [ct (by (simp only [ne_eq, Bool.and_eq_true, Bool.or_eq_true, decide_eq_true_eq, beq_iff_eq, bne_iff_ne, Bool.not_eq_true', decide_eq_false_iff_not, and_true, true_and]; omega)), if_pos (by omega)]
      · have e : (if ix = 0 ∧ pr ≠ 0 ∨ ix > 0 ∧ (pr < 1 ∨ pr > te) then false else soundE te (max pr 1) es) = soundE te (max pr 1) es := if_neg (by omega)
        rw [cf (by (rw [Bool.eq_false_iff]; simp only [ne_eq, Bool.and_eq_true, Bool.or_eq_true, decide_eq_true_eq, beq_iff_eq, bne_iff_ne, Bool.not_eq_true', decide_eq_false_iff_not, and_true, true_and]; omega)), e]
        cases soundE te (max pr 1) es <;> rfl
theorem conf_loop {L es : Lg} (hl : es.length ≤ 1000) (hL : L.length ≤ 5000) (l : Let) {a : Nat} (ha : a ≤ 5000) (hla : l.2.2.2.2.1 = (a : Int)) : ∀ (d j n : Nat), j + d = es.length → d < n →
    loopN st75_0 n ((L, es, (es.length : Int), (j : Int)), l) = some (if (conf L (a + j) (es.drop j)).2 = false ∧ (conf L (a + j) (es.drop j)).1 = d then .inl ((), l) else .inr (((j + (conf L (a + j) (es.drop j)).1 : Nat) : Int), (conf L (a + j) (es.drop j)).2)) ∨
    (loopN st75_0 n ((L, es, (es.length : Int), (j : Int)), l) = some (.inr (((j + (conf L (a + j) (es.drop j)).1 : Nat) : Int), (conf L (a + j) (es.drop j)).2)))
  | 0, j, n + 1, hj, hn => by
    obtain ⟨l1, l2, l3, l4, l5, l6, l7, l8, l9⟩ := l
    have : es.drop j = [] := List.drop_eq_nil_of_le (by omega)
    left
    rw [loopN_s]; dsimp only [st75_0]
    rw [cf (by (rw [Bool.eq_false_iff]; simp only [ne_eq, Bool.and_eq_true, Bool.or_eq_true, decide_eq_true_eq, beq_iff_eq, bne_iff_ne, Bool.not_eq_true', decide_eq_false_iff_not, and_true, true_and]; omega)), this]
    simp [conf]
  | d + 1, j, n + 1, hj, hn => by
    have ih := conf_loop hl hL l ha hla d (j + 1) n (by omega) (by omega)
    obtain ⟨l1, l2, l3, l4, l5, l6, l7, l8, l9⟩ := l
    simp only at hla
    subst hla
    have hj' : j < es.length := by omega
    rw [loopN_s]; dsimp only [st75_0]
    rw [ct (by (simp only [ne_eq, Bool.and_eq_true, Bool.or_eq_true, decide_eq_true_eq, beq_iff_eq, bne_iff_ne, Bool.not_eq_true', decide_eq_false_iff_not, and_true, true_and]; omega)), ct (in_rng (by omega) (by omega)), Int.toNat_natCast, getD_at _ hj', List.drop_eq_getElem_cons hj', wrap_in (n := (j : Int) + 1) (by omega), show ((j : Int) + 1) = ((j + 1 : Nat) : Int) by omega, wrap_in (by omega), show ((a : Int) + (j : Int)) = ((a + j : Nat) : Int) by omega, Int.toNat_natCast]
    rw [show a + (j + 1) = a + j + 1 by omega] at ih
    unfold conf
    by_cases h1 : L.length ≤ a + j
    · rw [ct (by (simp only [ne_eq, Bool.and_eq_true, Bool.or_eq_true, decide_eq_true_eq, beq_iff_eq, bne_iff_ne, Bool.not_eq_true', decide_eq_false_iff_not, and_true, true_and]; omega)), if_pos h1]
      right
      simp
    · rw [cf (by (rw [Bool.eq_false_iff]; simp only [ne_eq, Bool.and_eq_true, Bool.or_eq_true, decide_eq_true_eq, beq_iff_eq, bne_iff_ne, Bool.not_eq_true', decide_eq_false_iff_not, and_true, true_and]; omega)), if_neg h1, ct (in_rng (by omega) (by omega))]
      by_cases h2 : (L.getD (a + j) (0, [])).1 = es[j].1
      · rw [cf (by (rw [Bool.eq_false_iff]; simp only [ne_eq, Bool.and_eq_true, Bool.or_eq_true, decide_eq_true_eq, beq_iff_eq, bne_iff_ne, Bool.not_eq_true', decide_eq_false_iff_not, and_true, true_and]; omega)), if_pos h2]
        generalize conf L (a + j + 1) (es.drop (j + 1)) = q at *
        rcases ih with ih | ih
        · left
          rw [ih]
          simp only
          by_cases hq : q.2 = false ∧ q.1 = d
          · rw [if_pos hq, if_pos ⟨hq.1, by omega⟩]
          · rw [if_neg hq, if_neg (fun e => hq ⟨e.1, by omega⟩), show j + 1 + q.1 = j + (q.1 + 1) by omega]
        · right
          rw [ih, show j + 1 + q.1 = j + (q.1 + 1) by omega]
      · rw [ct (by (simp only [ne_eq, Bool.and_eq_true, Bool.or_eq_true, decide_eq_true_eq, beq_iff_eq, bne_iff_ne, Bool.not_eq_true', decide_eq_false_iff_not, and_true, true_and]; omega)), if_neg h2]
        right
        simp
theorem g75_eq {L : Lg} {kd fr tu te pr cm : Int} {a : Nat} {ye : Bool} {es : Lg} (hl : es.length ≤ 1000) (hL : L.length ≤ 5000) (ha : a ≤ 5000) : g75 L kd fr tu te (a : Int) pr cm ye es = some ((((conf L a es).1 : Nat) : Int), (conf L a es).2) := by
  unfold g75
  have h := conf_loop (es := es) hl hL (kd, fr, tu, te, (a : Int), pr, cm, ye, es) ha rfl es.length 0 fuel (by omega) (by rw [fuel_eq]; omega)
  rw [List.drop_zero, Nat.add_zero, Nat.zero_add] at h
  generalize conf L a es = q at *
  rcases h with h | h
  · have h' : h75_0 ((L, es, (es.length : Int), 0), kd, fr, tu, te, (a : Int), pr, cm, ye, es) = _ := h
    rw [h']
    by_cases hq : q.2 = false ∧ q.1 = es.length
    · rw [if_pos hq, hq.1, hq.2]; rfl
    · rw [if_neg hq]; rfl
  · have h' : h75_0 ((L, es, (es.length : Int), 0), kd, fr, tu, te, (a : Int), pr, cm, ye, es) = _ := h
    rw [h']; rfl
end Go.Proofs.YtfadalgikdffeaaGreat.EVT
/- Replicated logs: the program's greater calls answer as told. -/
set_option linter.unusedVariables false
set_option linter.unusedSimpArgs false
namespace Go.Proofs.YtfadalgikdffeaaGreat.EVT
open Go Go.EV

theorem mx2 (b a : Int) : (if b > a then b else a) = max b a := by split <;> omega
theorem mn2 (b a : Int) : (if b < a then b else a) = min b a := by split <;> omega
theorem conf_at (L : Lg) : ∀ (es : Lg) (a : Nat), (conf L a es).2 = true → a + (conf L a es).1 < L.length
  | [], a, h => by simp [conf] at h
  | c :: es, a, h => by
    have ih := conf_at L es (a + 1)
    unfold conf at h ⊢
    split
    · rename_i h1; rw [if_pos h1] at h; cases h
    · rename_i h1
      rw [if_neg h1] at h
      split
      · rename_i h2
        rw [if_pos h2] at h
        have := ih h
        simp only
        omega
      · simp only; omega
theorem g48_eq {nd ns tm rl vd ld cm : Int} {vs : List Int} {L : Lg} {mt : List Int} (kd fr tu te pr lcm : Int) {a : Nat} (ye : Bool) {es : Lg} (hv : vs.length ≤ 7) (hL : L.length ≤ 4096) (ha : a ≤ 4096) (hes : es.length ≤ 32) (hc : 0 ≤ cm) :
    g48 nd ns tm rl vd ld vs cm L mt kd fr tu te (a : Int) pr lcm ye es = some (appR ((nd, ns, tm, rl, vd, ld, vs), cm, L, mt) fr te (a : Int) pr lcm es) := by
  unfold g48 appR takeR folB
  dsimp only
  simp only [mx2, mn2]
  by_cases h1 : te < tm
  · rw [ct (decide_eq_true h1), if_pos h1]
  rw [cf (decide_eq_false h1), if_neg h1]
  have w1 : IntKind.i64.wrap ((a : Int) + (es.length : Int)) = (a : Int) + (es.length : Int) := wrap_in (by omega)
  generalize ho : EVT.obs (nd, ns, tm, rl, vd, ld, vs) te = o
  by_cases h2 : te = tm
  · rw [ct (by (simp only [ne_eq, Bool.and_eq_true, Bool.or_eq_true, decide_eq_true_eq, beq_iff_eq, bne_iff_ne, Bool.not_eq_true', decide_eq_false_iff_not, and_true, true_and]; omega))]
    unfold g32
    simp only [Option.bind_some]
    by_cases h3 : rl = 2
    · rw [ct (by (simp only [ne_eq, Bool.and_eq_true, Bool.or_eq_true, decide_eq_true_eq, beq_iff_eq, bne_iff_ne, Bool.not_eq_true', decide_eq_false_iff_not, and_true, true_and]; omega)), if_pos (show te = tm ∧ rl = 2 from ⟨h2, h3⟩)]
    · rw [cf (by (rw [Bool.eq_false_iff]; simp only [ne_eq, Bool.and_eq_true, Bool.or_eq_true, decide_eq_true_eq, beq_iff_eq, bne_iff_ne, Bool.not_eq_true', decide_eq_false_iff_not, and_true, true_and]; omega)), if_neg (show ¬ (te = tm ∧ rl = 2) from fun e => h3 e.2)]
      have o1 : EVT.obs (nd, ns, tm, rl, vd, ld, vs) te = (o.1, o.2.1, o.2.2.1, o.2.2.2.1, o.2.2.2.2.1, o.2.2.2.2.2.1, o.2.2.2.2.2.2) := ho
      rw [g74_eq te hv, ho]
      simp only [Option.bind_some]
      have w0 := g45_eq nd ns tm rl vd ld cm vs L mt (o.1, o.2.1, o.2.2.1, 0, o.2.2.2.2.1, fr, [])
      dsimp only at w0
      rw [w0]
      simp only [Option.bind_some]
      rw [show withB ((nd, ns, tm, rl, vd, ld, vs), cm, L, mt) (o.1, o.2.1, o.2.2.1, 0, o.2.2.2.2.1, fr, []) = ((o.1, o.2.1, o.2.2.1, 0, o.2.2.2.2.1, fr, []), cm, L, []) from rfl]
      dsimp only
      rw [Int.toNat_natCast]
      by_cases t1 : (a : Int) > (L.length : Int)
      · rw [ct (decide_eq_true t1)]
        rw [if_pos (show (a : Int) > (L.length : Int) ∨ trm L a ≠ pr ∨ (a : Int) + (es.length : Int) > 4096 from .inl t1)]
      rw [cf (decide_eq_false t1), g58_eq (by omega) (by omega) (by omega)]
      simp only [Option.bind_some, Int.toNat_natCast]
      by_cases t2 : trm L a = pr
      rotate_left
      · rw [ct (by (simp only [ne_eq, Bool.and_eq_true, Bool.or_eq_true, decide_eq_true_eq, beq_iff_eq, bne_iff_ne, Bool.not_eq_true', decide_eq_false_iff_not, and_true, true_and]; omega)), if_pos (show (a : Int) > (L.length : Int) ∨ trm L a ≠ pr ∨ (a : Int) + (es.length : Int) > 4096 from .inr (.inl t2))]
      rw [cf (by (rw [Bool.eq_false_iff]; simp only [ne_eq, Bool.and_eq_true, Bool.or_eq_true, decide_eq_true_eq, beq_iff_eq, bne_iff_ne, Bool.not_eq_true', decide_eq_false_iff_not, and_true, true_and]; omega)), w1]
      by_cases t3 : (a : Int) + (es.length : Int) > 4096
      · rw [ct (decide_eq_true t3), if_pos (show (a : Int) > (L.length : Int) ∨ trm L a ≠ pr ∨ (a : Int) + (es.length : Int) > 4096 from .inr (.inr t3))]
      rw [cf (decide_eq_false t3), if_neg (show ¬ ((a : Int) > (L.length : Int) ∨ trm L a ≠ pr ∨ (a : Int) + (es.length : Int) > 4096) by rintro (e | e | e); exact t1 e; exact e t2; exact t3 e)]
      rw [g75_eq (by omega) (by omega) (by omega)]
      simp only [Option.bind_some]
      have hq := conf_le L es a
      have hq2 := conf_at L es a
      generalize conf L a es = q at hq hq2 ⊢
      obtain ⟨s, cu⟩ := q
      dsimp only at hq hq2 ⊢
      have w2 : IntKind.i64.wrap ((a : Int) + (s : Int)) = (a : Int) + (s : Int) := wrap_in (by omega)
      rw [w2, show ((a : Int) + (s : Int)).toNat = a + s by omega, Int.toNat_natCast, List.take_length, List.drop_zero, Nat.sub_zero, Int.min_comm, Int.max_comm]
      cases cu with
      | true =>
        have hs := hq2 rfl
        rw [ct rfl]
        by_cases t4 : (a : Int) + (s : Int) < cm
        · rw [ct (decide_eq_true t4), if_pos (show true = true ∧ (a : Int) + (s : Int) < cm from ⟨rfl, t4⟩)]
        · rw [cf (decide_eq_false t4), if_neg (show ¬ (true = true ∧ (a : Int) + (s : Int) < cm) from fun e => t4 e.2), ct rfl, ct (in_rng2 (by omega) (by omega)), ct (in_rng2 (by omega) (by omega)), ct (decide_eq_true (by rw [List.length_drop]; omega))]
          rfl
      | false =>
        rw [cf rfl, cf rfl, if_neg (show ¬ (false = true ∧ (a : Int) + (s : Int) < cm) from fun e => by cases e.1), ct (in_rng2 (by omega) (by omega)), ct (decide_eq_true (by rw [List.length_drop]; omega))]
        rfl
  · rw [cf (by (rw [Bool.eq_false_iff]; simp only [ne_eq, Bool.and_eq_true, Bool.or_eq_true, decide_eq_true_eq, beq_iff_eq, bne_iff_ne, Bool.not_eq_true', decide_eq_false_iff_not, and_true, true_and]; omega)), if_neg (show ¬ (te = tm ∧ rl = 2) from fun e => h2 e.1)]
    have o1 : EVT.obs (nd, ns, tm, rl, vd, ld, vs) te = (o.1, o.2.1, o.2.2.1, o.2.2.2.1, o.2.2.2.2.1, o.2.2.2.2.2.1, o.2.2.2.2.2.2) := ho
    rw [g74_eq te hv, ho]
    simp only [Option.bind_some]
    have w0 := g45_eq nd ns tm rl vd ld cm vs L mt (o.1, o.2.1, o.2.2.1, 0, o.2.2.2.2.1, fr, [])
    dsimp only at w0
    rw [w0]
    simp only [Option.bind_some]
    rw [show withB ((nd, ns, tm, rl, vd, ld, vs), cm, L, mt) (o.1, o.2.1, o.2.2.1, 0, o.2.2.2.2.1, fr, []) = ((o.1, o.2.1, o.2.2.1, 0, o.2.2.2.2.1, fr, []), cm, L, []) from rfl]
    dsimp only
    rw [Int.toNat_natCast]
    by_cases t1 : (a : Int) > (L.length : Int)
    · rw [ct (decide_eq_true t1)]
      rw [if_pos (show (a : Int) > (L.length : Int) ∨ trm L a ≠ pr ∨ (a : Int) + (es.length : Int) > 4096 from .inl t1)]
    rw [cf (decide_eq_false t1), g58_eq (by omega) (by omega) (by omega)]
    simp only [Option.bind_some, Int.toNat_natCast]
    by_cases t2 : trm L a = pr
    rotate_left
    · rw [ct (by (simp only [ne_eq, Bool.and_eq_true, Bool.or_eq_true, decide_eq_true_eq, beq_iff_eq, bne_iff_ne, Bool.not_eq_true', decide_eq_false_iff_not, and_true, true_and]; omega)), if_pos (show (a : Int) > (L.length : Int) ∨ trm L a ≠ pr ∨ (a : Int) + (es.length : Int) > 4096 from .inr (.inl t2))]
    rw [cf (by (rw [Bool.eq_false_iff]; simp only [ne_eq, Bool.and_eq_true, Bool.or_eq_true, decide_eq_true_eq, beq_iff_eq, bne_iff_ne, Bool.not_eq_true', decide_eq_false_iff_not, and_true, true_and]; omega)), w1]
    by_cases t3 : (a : Int) + (es.length : Int) > 4096
    · rw [ct (decide_eq_true t3), if_pos (show (a : Int) > (L.length : Int) ∨ trm L a ≠ pr ∨ (a : Int) + (es.length : Int) > 4096 from .inr (.inr t3))]
    rw [cf (decide_eq_false t3), if_neg (show ¬ ((a : Int) > (L.length : Int) ∨ trm L a ≠ pr ∨ (a : Int) + (es.length : Int) > 4096) by rintro (e | e | e); exact t1 e; exact e t2; exact t3 e)]
    rw [g75_eq (by omega) (by omega) (by omega)]
    simp only [Option.bind_some]
    have hq := conf_le L es a
    have hq2 := conf_at L es a
    generalize conf L a es = q at hq hq2 ⊢
    obtain ⟨s, cu⟩ := q
    dsimp only at hq hq2 ⊢
    have w2 : IntKind.i64.wrap ((a : Int) + (s : Int)) = (a : Int) + (s : Int) := wrap_in (by omega)
    rw [w2, show ((a : Int) + (s : Int)).toNat = a + s by omega, Int.toNat_natCast, List.take_length, List.drop_zero, Nat.sub_zero, Int.min_comm, Int.max_comm]
    cases cu with
    | true =>
      have hs := hq2 rfl
      rw [ct rfl]
      by_cases t4 : (a : Int) + (s : Int) < cm
      · rw [ct (decide_eq_true t4), if_pos (show true = true ∧ (a : Int) + (s : Int) < cm from ⟨rfl, t4⟩)]
      · rw [cf (decide_eq_false t4), if_neg (show ¬ (true = true ∧ (a : Int) + (s : Int) < cm) from fun e => t4 e.2), ct rfl, ct (in_rng2 (by omega) (by omega)), ct (in_rng2 (by omega) (by omega)), ct (decide_eq_true (by rw [List.length_drop]; omega))]
        rfl
    | false =>
      rw [cf rfl, cf rfl, if_neg (show ¬ (false = true ∧ (a : Int) + (s : Int) < cm) from fun e => by cases e.1), ct (in_rng2 (by omega) (by omega)), ct (decide_eq_true (by rw [List.length_drop]; omega))]
      rfl
end Go.Proofs.YtfadalgikdffeaaGreat.EVT
/- Replicated logs: what Receive, Timeout, Beat, Propose, Restart and Committed answer. -/
set_option linter.unusedVariables false
set_option linter.unusedSimpArgs false
namespace Go.Proofs.YtfadalgikdffeaaGreat.EVT
open Go Go.EV

theorem getD_rng {l : List Int} {n : Nat} {a b : Int} (h : ∀ m ∈ l, a ≤ m ∧ m ≤ b) (h0 : a ≤ 0 ∧ 0 ≤ b) : a ≤ l.getD n 0 ∧ l.getD n 0 ≤ b := by
  by_cases hn : n < l.length
  · rw [getD_at 0 hn]; exact h _ (List.getElem_mem hn)
  · rw [List.getD_eq_getElem?_getD, List.getElem?_eq_none (by omega)]; exact h0
theorem okR.mlen7 {r : Rep} (h : okR r) : r.2.2.2.length ≤ 7 := by
  have h1 := h.mlen
  obtain ⟨h2, _⟩ := chk_iff.1 h.bal
  unfold okN at h2
  unfold wantM at h1
  split at h1 <;> omega
theorem okR.nodes {r : Rep} (h : okR r) : okN r.1.1 r.1.2.1 := (chk_iff.1 h.bal).1
theorem g49_eq {nd ns tm rl vd ld cm : Int} {vs : List Int} {L : Lg} {mt : List Int} (kd tu te ix pr lcm : Int) {fr : Int} (ye : Bool) (es : Lg) (h : okR ((nd, ns, tm, rl, vd, ld, vs), cm, L, mt)) (hf : 0 ≤ fr ∧ fr < ns) :
    g49 nd ns tm rl vd ld vs cm L mt kd fr tu te ix pr lcm ye es = some (apdR ((nd, ns, tm, rl, vd, ld, vs), cm, L, mt) fr te ix ye) := by
  have hv : vs.length ≤ 7 := okB_len h.bal
  have hm7 : mt.length ≤ 7 := h.mlen7
  have hL : L.length ≤ 4096 := h.len
  have hcm : 0 ≤ cm := h.com.1
  have hn : okN nd ns := h.nodes
  have hml : (mt.length : Int) = wantM (nd, ns, tm, rl, vd, ld, vs) := h.mlen
  unfold okN at hn
  unfold g49 apdR g32
  dsimp only
  by_cases h1 : te > tm
  · rw [ct (decide_eq_true h1), if_pos h1, g74_eq te hv]
    simp only [Option.bind_some]
    rw [g45_eq nd ns tm rl vd ld cm vs L mt (obs (nd, ns, tm, rl, vd, ld, vs) te)]
    rfl
  rw [cf (decide_eq_false h1), if_neg h1]
  by_cases h2 : te < tm
  · rw [ct (decide_eq_true h2), if_pos (.inl h2)]
  rw [cf (decide_eq_false h2)]
  simp only [Option.bind_some]
  by_cases h3 : rl = 2
  rotate_left
  · rw [ct (by simpa using h3), if_pos (.inr (.inl h3))]
  rw [cf (by simpa using h3)]
  have hml2 : (mt.length : Int) = ns := by rw [hml]; unfold wantM; rw [if_pos h3]
  cases ye with
  | false => rw [ct (b := !false) rfl, if_pos (.inr (.inr (.inl rfl)))]
  | true =>
    rw [cf (b := !true) rfl]
    by_cases h4 : ix < 0
    · rw [ct (decide_eq_true h4), if_pos (.inr (.inr (.inr (.inl h4))))]
    rw [cf (decide_eq_false h4)]
    by_cases h5 : ix > (L.length : Int)
    · rw [ct (decide_eq_true h5), if_pos (.inr (.inr (.inr (.inr (.inl h5)))))]
    rw [cf (decide_eq_false h5), ct (in_rng (by omega) (by omega)), ct (decide_eq_true (by omega))]
    by_cases h6 : ix ≤ mt.getD fr.toNat 0
    · rw [ct (decide_eq_true h6), if_pos (.inr (.inr (.inr (.inr (.inr h6)))))]
    rw [cf (decide_eq_false h6), ct (in_rng (by omega) (by omega)), ct (decide_eq_true (by omega)), if_neg (by rintro (e | e | e | e | e | e) <;> first | omega | exact absurd h3 e | cases e), g39_eq (by rw [List.length_set]; omega) (by omega) hcm (by omega)]
    rfl
theorem g8_eq {nd ns tm rl vd ld cm : Int} {vs : List Int} {L : Lg} {mt : List Int} (h : okR ((nd, ns, tm, rl, vd, ld, vs), cm, L, mt)) :
    g8 nd ns tm rl vd ld vs cm L mt = some (tmoR ((nd, ns, tm, rl, vd, ld, vs), cm, L, mt)) := by
  have hv : vs.length ≤ 7 := okB_len h.bal
  have hm7 : mt.length ≤ 7 := h.mlen7
  have hL : L.length ≤ 4096 := h.len
  unfold g8 tmoR
  rw [g31_eq (by omega) (by omega) (by omega)]
  unfold g32
  simp only [Option.bind_some]
  by_cases h3 : rl = 2
  · rw [ct (by simpa using h3), if_pos h3]
  rw [cf (by simpa using h3), if_neg h3, g34_eq (by omega)]
  simp only [Option.bind_some]
  rw [g33_eqL _ _ h.bal]
  simp only [Option.bind_some]
  have hk := (camp_keeps h.bal).1
  have hn := (chk_iff.1 hk).1
  generalize camp (nd, ns, tm, rl, vd, ld, vs) = b at *
  by_cases h4 : b.2.2.2.1 = 2
  · rw [ct (by simpa using h4), if_pos h4, g35_eq hn]
    rfl
  · rw [cf (by simpa using h4), if_neg h4]
theorem beat_loop {r : Rep} (h : okR r) (hl : r.1.2.2.2.1 = 2) : ∀ (k j n : Nat) (W : List Let), (k : Int) + j = r.1.2.1 → k < n → W.length ≤ j →
    loopN st18_0 n ((r.1.2.1, (j : Int)), W, r) = some (.inl ((), W ++ beatN r k j))
  | 0, j, n + 1, W, hk, hn, hw => by
    obtain ⟨⟨c1, c2, c3, c4, c5, c6, c7⟩, d1, d2, d3⟩ := r
    rw [loopN_s]; dsimp only [st18_0]
    dsimp only at hk
    rw [cf (decide_eq_false (by omega))]
    simp [beatN]
  | k + 1, j, n + 1, W, hk, hn, hw => by
    have ih := fun W hw => beat_loop h hl k (j + 1) n W (by omega) (by omega) hw
    obtain ⟨⟨c1, c2, c3, c4, c5, c6, c7⟩, d1, d2, d3⟩ := r
    have hL : d2.length ≤ 4096 := h.len
    have hn' : okN c1 c2 := h.nodes
    have hml : (d3.length : Int) = wantM (c1, c2, c3, c4, c5, c6, c7) := h.mlen
    have hml2 : (d3.length : Int) = c2 := by rw [hml]; unfold wantM; rw [if_pos hl]
    unfold okN at hn'
    have hm := getD_rng (n := j) h.mrng (by dsimp only; omega)
    dsimp only at hk hl hm ih
    rw [loopN_s]; generalize hLL : loopN st18_0 n = LL at ih ⊢; dsimp only [st18_0]
    rw [ct (decide_eq_true (by omega)), wrap_in (n := (j : Int) + 1) (by omega), show ((j : Int) + 1) = ((j + 1 : Nat) : Int) by omega]
    unfold beatN
    dsimp only
    by_cases h1 : (j : Int) = c1
    · rw [ct (by simpa using h1), if_pos h1]
      exact ih W (by omega)
    · rw [cf (by simpa using h1), if_neg h1, ct (in_rng (by omega) (by omega)), Int.toNat_natCast, g58_eq (by omega) hm.1 hm.2]
      generalize hx : d3.getD j 0 = x at *
      simp only [Option.bind_some]
      rw [wrap_in (by omega)]
      rw [mn_eq (d2.length : Int) (x + 32)]
      have e1 : min (d2.length : Int) (x + 32) ≤ d2.length := by omega
      have e2 : x ≤ min (d2.length : Int) (x + 32) := by omega
      rw [ct (by simp only [Bool.and_eq_true, decide_eq_true_eq, and_true]; omega)]
      have e3 : (List.drop x.toNat (List.take (min (d2.length : Int) (x + 32)).toNat d2)) = (d2.drop x.toNat).take 32 := by
        rw [List.drop_take]
        by_cases hh : (d2.length : Int) ≤ x + 32
        · rw [show (min (d2.length : Int) (x + 32)).toNat - x.toNat = (d2.drop x.toNat).length by rw [List.length_drop]; omega, List.take_length, List.take_of_length_le (by rw [List.length_drop]; omega)]
        · rw [show (min (d2.length : Int) (x + 32)).toNat - x.toNat = 32 by omega]
      show Option.bind (cond (decide ((List.drop x.toNat (List.take (min (d2.length : Int) (x + 32)).toNat d2)).length ≤ 2147483647)) (some (List.drop x.toNat (List.take (min (d2.length : Int) (x + 32)).toNat d2))) none) (fun v2 : Lg => cond (decide (W.length + 1 ≤ 2147483647)) (LL ((c2, ((j + 1 : Nat) : Int)), W ++ [(3, c1, (j : Int), c3, x, trm d2 x.toNat, d1, false, v2)], (c1, c2, c3, c4, c5, c6, c7), d1, d2, d3)) none) = _
      rw [e3, clone_some (by rw [List.length_take]; omega)]
      simp only [Option.bind_some]
      rw [ct (decide_eq_true (by omega)), ih (W ++ [_]) (by simp; omega)]
      rw [List.append_assoc, List.singleton_append]
      unfold beatL
      dsimp only
      rw [hx]
theorem g18_eq {nd ns tm rl vd ld cm : Int} {vs : List Int} {L : Lg} {mt : List Int} (h : okR ((nd, ns, tm, rl, vd, ld, vs), cm, L, mt)) :
    g18 nd ns tm rl vd ld vs cm L mt = some (beatR ((nd, ns, tm, rl, vd, ld, vs), cm, L, mt)) := by
  have hn : okN nd ns := h.nodes
  unfold okN at hn
  unfold g18 g32 beatR
  simp only [Option.bind_some]
  by_cases h3 : rl = 2
  · rw [cf (by simpa using h3), if_pos h3]
    have hb := beat_loop h h3 ns.toNat 0 fuel [] (by dsimp only; omega) (by rw [fuel_eq]; omega) (by simp)
    have hb' : h18_0 ((ns, 0), [], (nd, ns, tm, rl, vd, ld, vs), cm, L, mt) = _ := hb
    rw [hb']
    rfl
  · rw [ct (by simpa using h3), if_neg h3]
theorem g15_eq {nd ns tm rl vd ld cm : Int} {vs : List Int} {L : Lg} {mt : List Int} (hL : L.length ≤ 4096) :
    g15 nd ns tm rl vd ld vs cm L mt = some (rstR ((nd, ns, tm, rl, vd, ld, vs), cm, L, mt)) := by
  show Option.bind (cond (decide (L.length ≤ 2147483647)) (some L) none) (fun v1 => some ((nd, ns, tm, 0, vd, -1, []), 0, v1, [])) = _
  rw [clone_some (by omega)]
  rfl
theorem cmt_loop (A : Lg) (hA : A.length ≤ 5000) : ∀ (d j n : Nat), j + d = A.length → d < n →
    loopN st21_0 n ((A, (A.length : Int), (j : Int)), (A.take j).map (·.2)) = some (.inl ((), A.map (·.2)))
  | 0, j, n + 1, hj, hn => by
    rw [loopN_s]; dsimp only [st21_0]
    rw [cf (decide_eq_false (by omega)), List.take_of_length_le (by omega)]
  | d + 1, j, n + 1, hj, hn => by
    have ih := cmt_loop A hA d (j + 1) n (by omega) (by omega)
    have hj' : j < A.length := by omega
    rw [loopN_s]; generalize loopN st21_0 n = LL at ih ⊢; dsimp only [st21_0]
    rw [ct (decide_eq_true (by omega)), ct (in_rng (by omega) (by omega)), ct (decide_eq_true (by rw [List.length_map, List.length_take]; omega)), wrap_in (by omega), show ((j : Int) + 1) = ((j + 1 : Nat) : Int) by omega, Int.toNat_natCast, getD_at _ hj']
    rw [List.take_add_one, List.getElem?_eq_getElem hj', List.map_append] at ih
    exact ih
theorem g21_eq {nd ns tm rl vd ld cm : Int} {vs : List Int} {L : Lg} {mt : List Int} (hL : L.length ≤ 4096) (hc : 0 ≤ cm ∧ cm ≤ (L.length : Int)) :
    g21 nd ns tm rl vd ld vs cm L mt = some (cmtR ((nd, ns, tm, rl, vd, ld, vs), cm, L, mt)) := by
  unfold g21 cmtR
  rw [ct (in_rng2 hc.1 hc.2), List.drop_zero]
  have hl := cmt_loop (L.take cm.toNat) (by rw [List.length_take]; omega) (L.take cm.toNat).length 0 fuel (by omega) (by rw [fuel_eq, List.length_take]; omega)
  rw [List.take_zero, List.map_nil] at hl
  have hl' : h21_0 ((L.take cm.toNat, ((L.take cm.toNat).length : Int), 0), []) = _ := hl
  rw [hl']
  rfl
theorem g10_eq {nd ns tm rl vd ld cm : Int} {vs : List Int} {L : Lg} {mt : List Int} (x : List UInt8) (h : okR ((nd, ns, tm, rl, vd, ld, vs), cm, L, mt)) :
    g10 nd ns tm rl vd ld vs cm L mt x = some (if proE ((nd, ns, tm, rl, vd, ld, vs), cm, L, mt) x = 0 then (propR ((nd, ns, tm, rl, vd, ld, vs), cm, L, mt) x, ((L.length + 1 : Nat) : Int), 0) else (((0, 0, 0, 0, 0, 0, []), 0, [], []), 0, proE ((nd, ns, tm, rl, vd, ld, vs), cm, L, mt) x)) := by
  have hv : vs.length ≤ 7 := okB_len h.bal
  have hm7 : mt.length ≤ 7 := h.mlen7
  have hL : L.length ≤ 4096 := h.len
  have hcm : 0 ≤ cm := h.com.1
  have hn : okN nd ns := h.nodes
  have hml : (mt.length : Int) = wantM (nd, ns, tm, rl, vd, ld, vs) := h.mlen
  unfold okN at hn
  unfold g10 g32
  simp only [Option.bind_some]
  by_cases h1 : rl = 2
  rotate_left
  · have e : proE ((nd, ns, tm, rl, vd, ld, vs), cm, L, mt) x = 24 := by unfold proE; rw [if_pos h1]
    rw [ct (by simpa using h1), e, if_neg (by decide)]
  have hml2 : (mt.length : Int) = ns := by rw [hml]; unfold wantM; rw [if_pos h1]
  rw [cf (by simpa using h1)]
  by_cases h2 : (x.length : Int) > 65536
  · have e : proE ((nd, ns, tm, rl, vd, ld, vs), cm, L, mt) x = 5 := by unfold proE; rw [if_neg (by simpa using h1), if_pos (by omega)]
    rw [ct (decide_eq_true h2), e, if_neg (by decide)]
  rw [cf (decide_eq_false h2)]
  by_cases h3 : (L.length : Int) ≥ 4096
  · have e : proE ((nd, ns, tm, rl, vd, ld, vs), cm, L, mt) x = 6 := by unfold proE; rw [if_neg (by simpa using h1), if_neg (by omega), if_pos (by dsimp only; omega)]
    rw [ct (decide_eq_true h3), e, if_neg (by decide)]
  have e : proE ((nd, ns, tm, rl, vd, ld, vs), cm, L, mt) x = 0 := by unfold proE; rw [if_neg (by simpa using h1), if_neg (by omega), if_neg (by dsimp only; omega)]
  rw [cf (decide_eq_false h3), g31_eq (by omega) (by omega) (by omega), e, if_pos rfl]
  simp only [Option.bind_some]
  rw [ct (decide_eq_true (by omega)), ct (in_rng (by omega) (by omega)), ct (decide_eq_true (by omega))]
  rw [g39_eq (by rw [List.length_set]; omega) (by simp; omega) hcm (by omega)]
  simp only [Option.bind_some, List.length_append, List.length_singleton]
  rfl
theorem soundR_iff {te ix pr cm : Int} {es : Lg} (h : soundR te ix pr cm es = true) : (0 ≤ ix ∧ ix ≤ 4096) ∧ 0 ≤ cm ∧ es.length ≤ 32 ∧ (ix = 0 → pr = 0) ∧ (ix > 0 → 1 ≤ pr ∧ pr ≤ te) ∧ soundE te (max pr 1) es = true := by
  unfold soundR at h
  split at h
  · cases h
  · rename_i h1
    split at h
    · cases h
    · rename_i h2
      exact ⟨by omega, by omega, by omega, by omega, by omega, h⟩
/-! ### valid replicas stay valid -/
theorem camp_tm {b : Bal} : b.2.2.1 ≤ (camp b).2.2.1 := by
  unfold camp
  split
  · exact Int.le_refl _
  · split <;> (dsimp only; omega)
theorem okR.bal' {r : Rep} (h : okR r) {b : Bal} (hb : okB b) (ht : r.1.2.2.1 ≤ b.2.2.1) (hr : b.2.2.2.1 ≠ 2) : okR (b, r.2.1, r.2.2.1, []) :=
  ⟨hb, h.len, fun c hc => by have := h.rng c hc; dsimp only; omega, h.asc, h.com, by unfold wantM; rw [if_neg hr]; rfl, by simp, fun e => absurd e hr⟩
theorem okR.begins {r : Rep} (h : okR r) {b : Bal} (hb : okB b) (ht : r.1.2.2.1 ≤ b.2.2.1) (hr : b.2.2.2.1 = 2) (mt : List Int) : okR (beginR (b, r.2.1, r.2.2.1, mt)) := by
  have hn := (chk_iff.1 hb).1
  unfold okN at hn
  have hlt : b.1.toNat < b.2.1.toNat := by omega
  refine ⟨hb, h.len, fun c hc => by have := h.rng c hc; show _ ∧ _ ≤ b.2.2.1 ∧ _; omega, h.asc, h.com, ?_, fun m hm => ?_, fun _ => ?_⟩
  · unfold beginR wantM; dsimp only; rw [if_pos hr, List.length_set, List.length_replicate]; omega
  · unfold beginR at hm ⊢
    dsimp only at hm ⊢
    rcases List.mem_or_eq_of_mem_set hm with hm | hm
    · have := List.eq_of_mem_replicate hm; omega
    · omega
  · unfold beginR
    dsimp only
    rw [getD_at _ (by rw [List.length_set, List.length_replicate]; omega), List.getElem_set_self]
theorem comN_le {b : Bal} {L : Lg} {mt : List Int} {cm : Int} : ∀ (k : Nat), cm ≤ comN b L mt cm k ∧ (comN b L mt cm k = cm ∨ ∃ j, 1 ≤ j ∧ j ≤ k ∧ comN b L mt cm k = (j : Int) ∧ trm L j = b.2.2.1 ∧ quo (hasN mt (j : Int)) b.2.1 = true)
  | 0 => ⟨Int.le_refl _, .inl rfl⟩
  | k + 1 => by
    obtain ⟨h1, h2⟩ := comN_le (b := b) (L := L) (mt := mt) (cm := cm) k
    unfold comN
    split
    · rename_i h3
      split
      · rename_i h4
        exact ⟨by omega, .inr ⟨k + 1, by omega, Nat.le_refl _, rfl, h4.1, h4.2⟩⟩
      · refine ⟨h1, ?_⟩
        rcases h2 with h2 | ⟨j, a1, a2, a3⟩
        · exact .inl h2
        · exact .inr ⟨j, a1, by omega, a3⟩
    · exact ⟨Int.le_refl _, .inl rfl⟩
theorem okR.commits {r : Rep} (h : okR r) : okR (commitR r) := by
  have hc := h.com
  obtain ⟨h1, h2⟩ := comN_le (b := r.1) (L := r.2.2.1) (mt := r.2.2.2) (cm := r.2.1) r.2.2.1.length
  refine ⟨h.bal, h.len, h.rng, h.asc, ?_, h.mlen, h.mrng, h.own⟩
  unfold commitR
  dsimp only
  rcases h2 with h2 | ⟨j, a1, a2, a3, _⟩ <;> omega
theorem okR.tmo {r : Rep} (h : okR r) : okR (tmoR r).1 := by
  have hk := (camp_keeps h.bal).1
  have ht := camp_tm (b := r.1)
  unfold tmoR
  split
  · exact h
  · rename_i h1
    dsimp only
    split
    · rename_i h2; exact h.begins hk ht h2 _
    · rename_i h2
      have hm : r.2.2.2 = [] := by
        have := h.mlen
        unfold wantM at this
        rw [if_neg h1] at this
        exact List.length_eq_zero_iff.1 (by omega)
      have := h.bal' hk ht h2
      rw [← hm] at this
      exact this
theorem okR.withB {r : Rep} (h : okR r) {b : Bal} (hb : okB b) (ht : r.1.2.2.1 ≤ b.2.2.1) (hr : b.2.2.2.1 = 2 → b.1 = r.1.1 ∧ b.2.1 = r.1.2.1 ∧ r.1.2.2.2.1 = 2) : okR (withB r b) := by
  unfold EVT.withB
  by_cases h2 : b.2.2.2.1 = 2
  · obtain ⟨a1, a2, a3⟩ := hr h2
    rw [if_pos h2]
    exact ⟨hb, h.len, fun c hc => by have := h.rng c hc; dsimp only; omega, h.asc, h.com, by
      have := h.mlen
      unfold wantM at this ⊢
      dsimp only
      rw [if_pos h2, a2]
      rw [if_pos a3] at this
      exact this, h.mrng, fun _ => by dsimp only; rw [a1]; exact h.own a3⟩
  · rw [if_neg h2]
    exact h.bal' hb ht h2
theorem okR.rst {r : Rep} (h : okR r) : okR (rstR r) := by
  obtain ⟨h1, h2, h3, h4, h5, h6⟩ := chk_iff.1 h.bal
  have hn := h1
  unfold okN at hn
  have hb : okB (r.1.1, r.1.2.1, r.1.2.2.1, 0, r.1.2.2.2.2.1, -1, []) := by
    by_cases ht : r.1.2.2.1 = 0
    · have hv : r.1.2.2.2.2.1 = -1 := by
        rw [ht] at h6
        simp [cons] at h6
        by_cases e : r.1.2.2.2.2.1 = -1
        · exact e
        · simp [e] at h6
      refine chk_iff.2 ⟨h1, h2, .inl rfl, by dsimp only; omega, rfl, ?_⟩
      have e2 : ((-1 : Int) != r.1.1) = true := by simp; omega
      simp [cons, hv, e2]
    · exact chk_follow (nd := r.1.1) (ns := r.1.2.1) (t := r.1.2.2.1) h1 (by omega) r.1.2.2.2.2.1 (by omega)
  exact ⟨hb, h.len, h.rng, h.asc, ⟨Int.le_refl _, by show (0 : Int) ≤ (r.2.2.1.length : Int); omega⟩, rfl, by simp [rstR], fun e => by simp [rstR] at e⟩
end Go.Proofs.YtfadalgikdffeaaGreat.EVT
/- Replicated logs: Receive; what is valid stays valid. -/
set_option linter.unusedVariables false
set_option linter.unusedSimpArgs false
namespace Go.Proofs.YtfadalgikdffeaaGreat.EVT
open Go Go.EV

theorem g13_eq {nd ns tm rl vd ld cm : Int} {vs : List Int} {L : Lg} {mt : List Int} (l : Let) (h : okR ((nd, ns, tm, rl, vd, ld, vs), cm, L, mt)) :
    g13 nd ns tm rl vd ld vs cm L mt l.1 l.2.1 l.2.2.1 l.2.2.2.1 l.2.2.2.2.1 l.2.2.2.2.2.1 l.2.2.2.2.2.2.1 l.2.2.2.2.2.2.2.1 l.2.2.2.2.2.2.2.2 = some (rcvR ((nd, ns, tm, rl, vd, ld, vs), cm, L, mt) l) := by
  obtain ⟨kd, fr, tu, te, ix, pr, lcm, ye, es⟩ := l
  have hv : vs.length ≤ 7 := okB_len h.bal
  have hm7 : mt.length ≤ 7 := h.mlen7
  have hL : L.length ≤ 4096 := h.len
  unfold g13 rcvR
  rw [g31_eq (by omega) (by omega) (by omega), g43_eq]
  simp only [Option.bind_some]
  cases hc : con nd ns fr tu te with
  | false => rw [ct (b := !false) rfl, if_pos rfl]
  | true =>
    rw [cf (b := !true) rfl, if_neg (by decide)]
    obtain ⟨c1, c2, c3, c4, c5, c6⟩ := con_iff.1 hc
    by_cases h1 : kd = 1
    · rw [ct (by (simp only [ne_eq, Bool.and_eq_true, Bool.or_eq_true, decide_eq_true_eq, beq_iff_eq, bne_iff_ne, Bool.not_eq_true', decide_eq_false_iff_not, and_true, true_and]; omega)), if_pos h1, g34_eq (by omega)]
      simp only [Option.bind_some]
      rw [g44_eq kd fr tu te ix pr lcm ye es _ _ hv]
      simp only [Option.bind_some]
      rw [g45_eq nd ns tm rl vd ld cm vs L mt _]
      rfl
    rw [cf (by (rw [Bool.eq_false_iff]; simp only [ne_eq, Bool.and_eq_true, Bool.or_eq_true, decide_eq_true_eq, beq_iff_eq, bne_iff_ne, Bool.not_eq_true', decide_eq_false_iff_not, and_true, true_and]; omega)), if_neg h1]
    by_cases h2 : kd = 2
    · rw [ct (by (simp only [ne_eq, Bool.and_eq_true, Bool.or_eq_true, decide_eq_true_eq, beq_iff_eq, bne_iff_ne, Bool.not_eq_true', decide_eq_false_iff_not, and_true, true_and]; omega)), if_pos h2]
      have h16 := g46_eq (b := (nd, ns, tm, rl, vd, ld, vs)) kd fr tu te ix pr lcm ye es h.bal
      have h16' : g46 nd ns tm rl vd ld vs kd fr tu te ix pr lcm ye es = _ := h16
      rw [h16']
      have hk := (cnt_keeps h.bal kd fr tu te ye).1
      have hk2 := cnt_keeps h.bal kd fr tu te ye
      generalize hb : cnt (nd, ns, tm, rl, vd, ld, vs) kd fr tu te ye = b at *
      simp only [Option.bind_some]
      rw [g45_eq nd ns tm rl vd ld cm vs L mt b]
      unfold g32
      simp only [Option.bind_some]
      by_cases h3 : rl = 2
      · rw [cf (by simpa using h3), if_neg (fun e => e.1 h3)]
      · rw [ct (by simpa using h3)]
        have e1 : (withB ((nd, ns, tm, rl, vd, ld, vs), cm, L, mt) b).1 = b := rfl
        by_cases h4 : b.2.2.2.1 = 2
        · rw [ct (by rw [e1]; simpa using h4), if_pos ⟨h3, h4⟩]
          have hn := (chk_iff.1 hk).1
          have hbg := g35_eq (tm := b.2.2.1) (rl := b.2.2.2.1) (vd := b.2.2.2.2.1) (ld := b.2.2.2.2.2.1) (vs := b.2.2.2.2.2.2) (cm := cm) (L := L) (mt := if b.2.2.2.1 = 2 then mt else []) hn
          have hbg' : g35 (withB ((nd, ns, tm, rl, vd, ld, vs), cm, L, mt) b).1.1 (withB ((nd, ns, tm, rl, vd, ld, vs), cm, L, mt) b).1.2.1 (withB ((nd, ns, tm, rl, vd, ld, vs), cm, L, mt) b).1.2.2.1 (withB ((nd, ns, tm, rl, vd, ld, vs), cm, L, mt) b).1.2.2.2.1 (withB ((nd, ns, tm, rl, vd, ld, vs), cm, L, mt) b).1.2.2.2.2.1 (withB ((nd, ns, tm, rl, vd, ld, vs), cm, L, mt) b).1.2.2.2.2.2.1 (withB ((nd, ns, tm, rl, vd, ld, vs), cm, L, mt) b).1.2.2.2.2.2.2 (withB ((nd, ns, tm, rl, vd, ld, vs), cm, L, mt) b).2.1 (withB ((nd, ns, tm, rl, vd, ld, vs), cm, L, mt) b).2.2.1 (withB ((nd, ns, tm, rl, vd, ld, vs), cm, L, mt) b).2.2.2 = some (beginR (withB ((nd, ns, tm, rl, vd, ld, vs), cm, L, mt) b)) := hbg
          rw [hbg']
          simp only [Option.bind_some]
          have hok : okR (beginR (withB ((nd, ns, tm, rl, vd, ld, vs), cm, L, mt) b)) := h.begins hk hk2.2.2.2.1 h4 _
          generalize beginR (withB ((nd, ns, tm, rl, vd, ld, vs), cm, L, mt) b) = q at *
          rw [g18_eq (nd := q.1.1) (ns := q.1.2.1) (tm := q.1.2.2.1) (rl := q.1.2.2.2.1) (vd := q.1.2.2.2.2.1) (ld := q.1.2.2.2.2.2.1) (vs := q.1.2.2.2.2.2.2) (cm := q.2.1) (L := q.2.2.1) (mt := q.2.2.2) hok]
          rfl
        · rw [cf (by rw [e1]; simpa using h4), if_neg (fun e => h4 e.2)]
    rw [cf (by (rw [Bool.eq_false_iff]; simp only [ne_eq, Bool.and_eq_true, Bool.or_eq_true, decide_eq_true_eq, beq_iff_eq, bne_iff_ne, Bool.not_eq_true', decide_eq_false_iff_not, and_true, true_and]; omega)), if_neg h2]
    by_cases h3 : kd = 3
    · rw [ct (by (simp only [ne_eq, Bool.and_eq_true, Bool.or_eq_true, decide_eq_true_eq, beq_iff_eq, bne_iff_ne, Bool.not_eq_true', decide_eq_false_iff_not, and_true, true_and]; omega)), if_pos h3, g47_eq]
      simp only [Option.bind_some]
      cases hs : soundR te ix pr lcm es with
      | false => rw [cf rfl, if_neg (by simp)]
      | true =>
        obtain ⟨s1, s2, s3, _⟩ := soundR_iff hs
        obtain ⟨a, rfl⟩ : ∃ a : Nat, ix = (a : Int) := ⟨ix.toNat, by omega⟩
        rw [ct rfl, if_pos rfl, g48_eq kd fr tu te pr lcm ye hv hL (by omega) s3 h.com.1]
        rfl
    rw [cf (by (rw [Bool.eq_false_iff]; simp only [ne_eq, Bool.and_eq_true, Bool.or_eq_true, decide_eq_true_eq, beq_iff_eq, bne_iff_ne, Bool.not_eq_true', decide_eq_false_iff_not, and_true, true_and]; omega)), if_neg h3]
    by_cases h4 : kd = 4
    · rw [ct (by (simp only [ne_eq, Bool.and_eq_true, Bool.or_eq_true, decide_eq_true_eq, beq_iff_eq, bne_iff_ne, Bool.not_eq_true', decide_eq_false_iff_not, and_true, true_and]; omega)), if_pos h4, g49_eq kd tu te ix pr lcm ye es h ⟨c3, c4⟩]
      rfl
    rw [cf (by (rw [Bool.eq_false_iff]; simp only [ne_eq, Bool.and_eq_true, Bool.or_eq_true, decide_eq_true_eq, beq_iff_eq, bne_iff_ne, Bool.not_eq_true', decide_eq_false_iff_not, and_true, true_and]; omega)), if_neg h4]
theorem soundE_iff {te : Int} : ∀ {es : Lg} {p : Int}, soundE te p es = true ↔ (∀ c ∈ es, p ≤ c.1 ∧ c.1 ≤ te ∧ c.2.length ≤ 65536) ∧ es.Pairwise (fun x y => x.1 ≤ y.1)
  | [], p => by simp [soundE]
  | c :: es, p => by
    have e0 : soundE te p (c :: es) = if c.1 < p then false else if c.1 > te then false else if c.2.length > 65536 then false else soundE te c.1 es := rfl
    rw [e0]
    simp only [List.mem_cons, List.pairwise_cons]
    by_cases h1 : c.1 < p
    · rw [if_pos h1]
      constructor
      · intro h; cases h
      · rintro ⟨h, _⟩; have := h c (.inl rfl); omega
    rw [if_neg h1]
    by_cases h2 : c.1 > te
    · rw [if_pos h2]
      constructor
      · intro h; cases h
      · rintro ⟨h, _⟩; have := h c (.inl rfl); omega
    rw [if_neg h2]
    by_cases h3 : c.2.length > 65536
    · rw [if_pos h3]
      constructor
      · intro h; cases h
      · rintro ⟨h, _⟩; have := h c (.inl rfl); omega
    rw [if_neg h3, soundE_iff]
    constructor
    · rintro ⟨a1, a2⟩
      refine ⟨fun x hx => ?_, fun x hx => (a1 x hx).1, a2⟩
      rcases hx with rfl | hx
      · omega
      · have := a1 x hx; omega
    · rintro ⟨a1, a2, a3⟩
      exact ⟨fun x hx => by have := a1 x (.inr hx); have := a2 x hx; omega, a3⟩
theorem conf_spec (L : Lg) : ∀ (es : Lg) (a : Nat), (∀ i, i < (conf L a es).1 → a + i < L.length ∧ (L.getD (a + i) (0, [])).1 = (es.getD i (0, [])).1) ∧
    ((conf L a es).2 = false → (conf L a es).1 = es.length ∨ L.length ≤ a + (conf L a es).1) ∧ ((conf L a es).2 = true → (conf L a es).1 < es.length ∧ a + (conf L a es).1 < L.length ∧ (L.getD (a + (conf L a es).1) (0, [])).1 ≠ (es.getD (conf L a es).1 (0, [])).1)
  | [], a => by simp [conf]
  | c :: es, a => by
    obtain ⟨i1, i2, i3⟩ := conf_spec L es (a + 1)
    unfold conf
    by_cases h1 : L.length ≤ a
    · rw [if_pos h1]
      exact ⟨fun i hi => absurd hi (by simp), fun _ => .inr (by simpa using h1), fun h => nomatch h⟩
    · rw [if_neg h1]
      by_cases h2 : (L.getD a (0, [])).1 = c.1
      · rw [if_pos h2]
        dsimp only
        refine ⟨fun i hi => ?_, fun hf => ?_, fun ht => ?_⟩
        · cases i with
          | zero => exact ⟨by omega, by simpa using h2⟩
          | succ i =>
            obtain ⟨k1, k2⟩ := i1 i (by omega)
            rw [show a + (i + 1) = a + 1 + i by omega]
            exact ⟨k1, by rw [k2]; simp⟩
        · rcases i2 hf with k | k
          · left; simp [k]
          · right; omega
        · obtain ⟨k1, k2, k3⟩ := i3 ht
          refine ⟨by simp; exact k1, by omega, ?_⟩
          rw [show a + ((conf L (a + 1) es).1 + 1) = a + 1 + (conf L (a + 1) es).1 by omega]
          simpa using k3
      · rw [if_neg h2]
        exact ⟨fun i hi => absurd hi (by simp), fun h => (nomatch h), fun _ => ⟨by simp, by simp; omega, by simpa using h2⟩⟩
/-- What is taken over: nothing new, or a beginning with the rest of the entries behind it. -/
theorem takeR_spec {r : Rep} {a : Nat} {pr cm : Int} {es : Lg} {q : Int × Lg} (h : takeR r (a : Int) pr cm es = some q) :
    a ≤ r.2.2.1.length ∧ trm r.2.2.1 a = pr ∧ a + es.length ≤ 4096 ∧ q.1 = max r.2.1 (min cm ((a : Int) + (es.length : Int))) ∧
    ∃ s, s ≤ es.length ∧ (∀ i, i < s → a + i < r.2.2.1.length ∧ (r.2.2.1.getD (a + i) (0, [])).1 = (es.getD i (0, [])).1) ∧
      ((s = es.length ∧ q.2 = r.2.2.1) ∨ (a + s ≤ r.2.2.1.length ∧ q.2 = r.2.2.1.take (a + s) ++ es.drop s ∧ (a + s = r.2.2.1.length ∨ (r.2.1 ≤ ((a + s : Nat) : Int) ∧ s < es.length ∧ (r.2.2.1.getD (a + s) (0, [])).1 ≠ (es.getD s (0, [])).1)))) := by
  unfold takeR at h
  rw [Int.toNat_natCast] at h
  split at h
  · cases h
  · rename_i h1
    obtain ⟨i1, i2, i3⟩ := conf_spec r.2.2.1 es a
    have i4 := conf_le r.2.2.1 es a
    generalize conf r.2.2.1 a es = u at *
    obtain ⟨s, cu⟩ := u
    dsimp only at *
    split at h
    · cases h
    · rename_i h2
      cases h
      refine ⟨by omega, ?_, by omega, rfl, s, i4, i1, ?_⟩
      · by_cases e : trm r.2.2.1 a = pr
        · exact e
        · exact absurd (.inr (.inl e)) h1
      · cases cu with
        | true =>
          obtain ⟨k1, k2, k3⟩ := i3 rfl
          right
          refine ⟨by omega, by simp, .inr ⟨?_, k1, k3⟩⟩
          by_cases e : (a : Int) + (s : Int) < r.2.1
          · exact absurd ⟨rfl, e⟩ h2
          · omega
        | false =>
          rcases i2 rfl with k | k
          · left; exact ⟨k, by rw [k]; simp⟩
          · right
            have hs : a + s = r.2.2.1.length := by
              cases s with
              | zero => omega
              | succ s => have := (i1 s (by omega)).1; omega
            exact ⟨by omega, by rw [hs, List.take_length]; simp, .inl hs⟩
theorem asc_last {L : Lg} (h : L.Pairwise (fun x y => x.1 ≤ y.1)) {n : Nat} (hn : n ≤ L.length) : ∀ x ∈ L.take n, x.1 ≤ trm L n := by
  intro x hx
  obtain ⟨i, hi, rfl⟩ := List.mem_iff_getElem.1 hx
  rw [List.length_take] at hi
  rw [List.getElem_take]
  unfold trm
  rw [if_neg (by omega), getD_at _ (by omega)]
  by_cases e : i = n - 1
  · subst e; exact Int.le_refl _
  · exact List.pairwise_iff_getElem.1 h i (n - 1) (by omega) (by omega) (by omega)
theorem chk_fol {o : Bal} (h : okB o) (ht : 1 ≤ o.2.2.1) {ld : Int} (h1 : 0 ≤ ld ∧ ld < o.2.1) (h2 : ld ≠ o.1) : okB (o.1, o.2.1, o.2.2.1, 0, o.2.2.2.2.1, ld, []) := by
  obtain ⟨q1, q2, _, q4, _, _⟩ := chk_iff.1 h
  refine chk_iff.2 ⟨q1, q2, .inl rfl, by dsimp only; omega, rfl, ?_⟩
  have e1 : (o.2.2.1 == 0) = false := by simp; omega
  simp [cons, e1, h2]
theorem obs_te {b : Bal} {te : Int} (h : b.2.2.1 ≤ te) (h1 : te ≤ Max) : (obs b te).2.2.1 = te := by
  unfold obs
  split
  · omega
  · rfl
theorem okR.folB {r : Rep} (h : okR r) {fr te : Int} (hc : r.1.2.2.1 ≤ te) (h1 : 1 ≤ te ∧ te ≤ Max) (hf : 0 ≤ fr ∧ fr < r.1.2.1 ∧ fr ≠ r.1.1) : okB (EVT.folB r.1 te fr) ∧ (EVT.folB r.1 te fr).2.2.1 = te := by
  have hk := obs_keeps h.bal te
  have he := obs_te hc h1.2
  exact ⟨chk_fol hk.1 (by omega) (by rw [hk.2.2.1]; omega) (by rw [hk.2.1]; exact hf.2.2), he⟩
theorem okR.app {r : Rep} (h : okR r) {fr te ix pr cm : Int} {es : Lg} (h1 : 1 ≤ te ∧ te ≤ Max) (hf : 0 ≤ fr ∧ fr < r.1.2.1 ∧ fr ≠ r.1.1) (hs : soundR te ix pr cm es = true) : okR (appR r fr te ix pr cm es).1 := by
  obtain ⟨s1, s2, s3, s4, s5, s6⟩ := soundR_iff hs
  obtain ⟨a, rfl⟩ : ∃ a : Nat, ix = (a : Int) := ⟨ix.toNat, by omega⟩
  obtain ⟨s7, s8⟩ := soundE_iff.1 s6
  unfold appR
  split
  · exact h
  · rename_i h2
    split
    · exact h
    · obtain ⟨b1, b2⟩ := h.folB (by omega) h1 hf
      split
      · exact h.bal' b1 (by omega) (show (0 : Int) ≠ 2 by decide)
      · rename_i q hq
        obtain ⟨t1, t2, t3, t4, s, t5, t6, t7⟩ := takeR_spec hq
        have hc := h.com
        have hlen : a + es.length ≤ q.2.length ∧ q.2.length ≤ 4096 ∧ r.2.1 ≤ (q.2.length : Int) := by
          rcases t7 with ⟨u1, u2⟩ | ⟨u1, u2, u3⟩
          · rw [u2]
            have := h.len
            refine ⟨?_, this, hc.2⟩
            cases hn : es.length with
            | zero => omega
            | succ n => have := (t6 n (by omega)).1; omega
          · rw [u2, List.length_append, List.length_take, List.length_drop]
            rcases u3 with u3 | ⟨u3, _⟩ <;> omega
        refine ⟨b1, hlen.2.1, ?_, ?_, ?_, rfl, by simp, fun e => by simp [EVT.folB] at e⟩
        · intro c hc'
          dsimp only at hc' ⊢
          rw [b2]
          rcases t7 with ⟨u1, u2⟩ | ⟨u1, u2, u3⟩
          · rw [u2] at hc'
            have := h.rng c hc'; omega
          · rw [u2] at hc'
            rcases List.mem_append.1 hc' with hc' | hc'
            · have := h.rng c (List.mem_of_mem_take hc'); omega
            · have := s7 c (List.mem_of_mem_drop hc'); omega
        · dsimp only
          rcases t7 with ⟨u1, u2⟩ | ⟨u1, u2, u3⟩
          · rw [u2]; exact h.asc
          · rw [u2, List.pairwise_append]
            refine ⟨h.asc.sublist (List.take_sublist _ _), s8.sublist (List.drop_sublist _ _), fun x hx y hy => ?_⟩
            have k1 := asc_last h.asc u1 x hx
            refine Int.le_trans k1 ?_
            cases s with
            | zero =>
              rw [Nat.add_zero, t2]
              have := s7 y (List.mem_of_mem_drop hy)
              omega
            | succ s =>
              obtain ⟨k2, k3⟩ := t6 s (by omega)
              have k4 : trm r.2.2.1 (a + (s + 1)) = (es.getD s (0, [])).1 := by
                unfold trm
                rw [if_neg (by omega), show a + (s + 1) - 1 = a + s by omega, k3]
              rw [k4, getD_at _ (by omega)]
              obtain ⟨i, hi, rfl⟩ := List.mem_iff_getElem.1 hy
              rw [List.length_drop] at hi
              rw [List.getElem_drop]
              exact List.pairwise_iff_getElem.1 s8 s (s + 1 + i) (by omega) (by omega) (by omega)
        · dsimp only
          rw [t4]
          omega
theorem okR.apd {r : Rep} (h : okR r) {fr te ix : Int} {ye : Bool} (ht : te ≤ Max) (hf : 0 ≤ fr ∧ fr < r.1.2.1 ∧ fr ≠ r.1.1) : okR (apdR r fr te ix ye) := by
  have hk := obs_keeps h.bal te
  unfold apdR
  split
  · rename_i h1
    refine h.withB hk.1 hk.2.2.2.1 fun e => ?_
    exfalso
    unfold obs at e
    split at e
    · rename_i h2
      have := (chk_iff.1 h.bal).2.1
      unfold Max at h2 ht
      omega
    · cases e
  · split
    · exact h
    · rename_i h1 h2
      refine okR.commits ?_
      have hn := h.nodes
      unfold okN at hn
      have hrl : r.1.2.2.2.1 = 2 := by
        by_cases e : r.1.2.2.2.1 = 2
        · exact e
        · exact absurd (.inr (.inl e)) h2
      refine ⟨h.bal, h.len, h.rng, h.asc, h.com, by have := h.mlen; simpa using this, fun m hm => ?_, fun e => ?_⟩
      · rcases List.mem_or_eq_of_mem_set hm with hm | hm
        · exact h.mrng m hm
        · dsimp only; omega
      · have := h.own e
        dsimp only at this ⊢
        rw [List.getD_eq_getElem?_getD, List.getElem?_set_ne (by omega), ← List.getD_eq_getElem?_getD]
        exact this
end Go.Proofs.YtfadalgikdffeaaGreat.EVT
/- Replicated logs: validity of all calls' answers. -/
set_option linter.unusedVariables false
set_option linter.unusedSimpArgs false
namespace Go.Proofs.YtfadalgikdffeaaGreat.EVT
open Go Go.EV

theorem ans_role {b : Bal} {kd fr tu te lix lpr ix pr : Int} (h : (ans b kd fr tu te lix lpr ix pr).1.2.2.2.1 = 2) : b.2.2.2.1 = 2 ∧ (ans b kd fr tu te lix lpr ix pr).1.1 = b.1 ∧ (ans b kd fr tu te lix lpr ix pr).1.2.1 = b.2.1 := by
  unfold ans at h ⊢
  split at h
  · rename_i h1
    rw [if_pos h1]; exact ⟨h, rfl, rfl⟩
  · rename_i h1
    rw [if_neg h1]
    unfold obs at h ⊢
    dsimp only at h ⊢
    split at h
    · rename_i h2
      rw [if_pos h2]
      split at h
      · rename_i h3; rw [if_pos h3]; exact ⟨h, rfl, rfl⟩
      · rename_i h3; rw [if_neg h3]; exact ⟨h, rfl, rfl⟩
    · split at h
      · exact absurd h (by simp [vote1])
      · exact absurd h (by simp)
theorem cnt_led {b : Bal} {kd fr tu te : Int} {ye : Bool} (h : b.2.2.2.1 = 2) (h2 : (cnt b kd fr tu te ye).2.2.2.1 = 2) : cnt b kd fr tu te ye = b := by
  unfold cnt at h2 ⊢
  split at h2
  · rename_i h1; rw [if_pos h1]
  · rename_i h1
    rw [if_neg h1]
    dsimp only at h2 ⊢
    by_cases h3 : te ≤ b.2.2.1 ∨ te > Max
    · have ho : obs b te = b := if_pos h3
      rw [ho]
      rw [if_pos (.inr (.inl (by rw [h]; decide)))]
    · have ho : obs b te = (b.1, b.2.1, te, 0, -1, -1, []) := if_neg h3
      rw [ho, if_pos (.inr (.inl (show (0 : Int) ≠ 1 by decide)))] at h2
      exact absurd h2 (show ¬ ((0 : Int) = 2) by decide)
theorem okR.prop {r : Rep} (h : okR r) {x : List UInt8} (hx : proE r x = 0) : okR (propR r x) := by
  have hn := h.nodes
  unfold okN at hn
  have hp : r.1.2.2.2.1 = 2 ∧ x.length ≤ 65536 ∧ r.2.2.1.length < 4096 := by
    unfold proE at hx
    split at hx
    · omega
    · split at hx
      · omega
      · split at hx
        · omega
        · omega
  obtain ⟨p1, p2, p3⟩ := hp
  have hml : (r.2.2.2.length : Int) = r.1.2.1 := by have := h.mlen; unfold wantM at this; rw [if_pos p1] at this; exact this
  have ht : 1 ≤ r.1.2.2.1 := by
    obtain ⟨h1, h2, h3, h4, h5, h6⟩ := chk_iff.1 h.bal
    by_cases e : r.1.2.2.1 = 0
    · exfalso
      rw [e, p1] at h6
      simp [cons] at h6
    · omega
  refine okR.commits ⟨h.bal, by dsimp only; simp; omega, fun c hc => ?_, ?_, ?_, by dsimp only; rw [List.length_set]; exact h.mlen, fun m hm => ?_, fun _ => ?_⟩
  · rcases List.mem_append.1 hc with hc | hc
    · exact h.rng c hc
    · simp only [List.mem_singleton] at hc
      subst hc
      exact ⟨ht, Int.le_refl _, p2⟩
  · dsimp only
    rw [List.pairwise_append]
    refine ⟨h.asc, by simp, fun c hc d hd => ?_⟩
    simp only [List.mem_singleton] at hd
    subst hd
    exact (h.rng c hc).2.1
  · have := h.com
    dsimp only
    simp; omega
  · dsimp only at hm ⊢
    simp only [List.length_append, List.length_singleton]
    rcases List.mem_or_eq_of_mem_set hm with hm | hm
    · have := h.mrng m hm; omega
    · omega
  · dsimp only
    rw [getD_at _ (by rw [List.length_set]; omega), List.getElem_set_self]
    simp
theorem okR.rcv {r : Rep} (h : okR r) (l : Let) : okR (rcvR r l).1 := by
  obtain ⟨kd, fr, tu, te, ix, pr, lcm, ye, es⟩ := l
  unfold rcvR
  dsimp only
  split
  · exact h
  · rename_i hc
    have hc' : con r.1.1 r.1.2.1 fr tu te = true := by simpa using hc
    obtain ⟨c1, c2, c3, c4, c5, c6⟩ := con_iff.1 hc'
    split
    · have hk := (ans_keeps h.bal kd fr tu te ix pr r.2.2.1.length (trm r.2.2.1 r.2.2.1.length)).1
      exact h.withB hk.1 hk.2.2.2.1 fun e => by have := ans_role e; exact ⟨this.2.1, this.2.2, this.1⟩
    · split
      · have hk := cnt_keeps h.bal kd fr tu te ye
        split
        · rename_i h4
          exact h.begins hk.1 hk.2.2.2.1 h4.2 _
        · rename_i h4
          refine h.withB hk.1 hk.2.2.2.1 fun e => ?_
          have hl : r.1.2.2.2.1 = 2 := by
            by_cases e2 : r.1.2.2.2.1 = 2
            · exact e2
            · exact absurd ⟨e2, e⟩ h4
          exact ⟨hk.2.1, hk.2.2.1, hl⟩
      · split
        · split
          · rename_i hs
            exact h.app ⟨c5, c6⟩ ⟨c3, c4, c2⟩ hs
          · exact h
        · split
          · exact h.apd c6 ⟨c3, c4, c2⟩
          · exact h
end Go.Proofs.YtfadalgikdffeaaGreat.EVT

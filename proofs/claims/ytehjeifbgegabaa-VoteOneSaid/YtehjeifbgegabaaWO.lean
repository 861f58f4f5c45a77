/- Elections: what holds of all ballots and letters. -/
import Derived.Test.YtehjeifbgegabaaWV
import Derived.Test.YtehjeifbgegabaaVP5
set_option linter.unusedVariables false
set_option linter.unusedSimpArgs false
namespace Go.Proofs.Ytehjeifbgegabaa.EVT
open Go Go.EV

abbrev Cast := Nat → Int → Int
def Won (N : Nat) (c : Cast) (t n : Int) : Prop := 0 ≤ n ∧ ∃ Q, Quor N Q ∧ ∀ m, Q m = true → c m t = n
def Lok (N : Nat) (c : Cast) (l : Let) : Prop := 0 ≤ l.2.2.1 ∧ l.2.2.1 < (N : Int) ∧ (l.1 = 2 → l.2.2.2.2.2.2.2.1 = true → 0 ≤ l.2.1 ∧ l.2.1 < (N : Int) ∧ c l.2.1.toNat l.2.2.2.1 = l.2.2.1)
def Ext (c c' : Cast) : Prop := ∀ m t, c m t ≠ -1 → c' m t = c m t
theorem Ext.refl (c : Cast) : Ext c c := fun _ _ _ => rfl
theorem Won.ext {N : Nat} {c c' : Cast} (h : Ext c c') {t n : Int} (w : Won N c t n) : Won N c' t n := by
  obtain ⟨h0, Q, hQ, hc⟩ := w
  exact ⟨h0, Q, hQ, fun m hm => by rw [h m t (by rw [hc m hm]; omega)]; exact hc m hm⟩
theorem Lok.ext {N : Nat} {c c' : Cast} (h : Ext c c') {l : Let} (w : Lok N c l) : Lok N c' l := by
  obtain ⟨h0, h1, h2⟩ := w
  refine ⟨h0, h1, fun a b => ?_⟩
  obtain ⟨g1, g2, g3⟩ := h2 a b
  exact ⟨g1, g2, by rw [h _ _ (by rw [g3]; omega)]; exact g3⟩
theorem Won.one {N : Nat} (hN : N ≤ 7) {c : Cast} {t n m : Int} (h1 : Won N c t n) (h2 : Won N c t m) : n = m := by
  obtain ⟨_, Q, hQ, hc⟩ := h1
  obtain ⟨_, R, hR, hd⟩ := h2
  obtain ⟨k, k1, k2⟩ := quor_meet hN hQ hR
  rw [← hc k k1, hd k k2]
structure Node (N : Nat) (c : Cast) (i : Nat) (b : Bal) : Prop where
  ok : okB b
  nd : b.1 = (i : Int)
  ns : b.2.1 = (N : Int)
  now : c i b.2.2.1 = b.2.2.2.2.1
  later : ∀ t, b.2.2.1 < t → c i t = -1
  cand : b.2.2.2.1 = 1 → ∀ v ∈ b.2.2.2.2.2.2, c v.toNat b.2.2.1 = (i : Int)
  led : b.2.2.2.1 = 2 → Won N c b.2.2.1 (i : Int)
theorem Node.obs {N : Nat} {c : Cast} {i : Nat} {b : Bal} (h : Node N c i b) (t : Int) : Node N c i (EVT.obs b t) := by
  have hk := obs_keeps h.ok t
  unfold EVT.obs at hk ⊢
  split at hk
  · rename_i hc
    rw [if_pos hc]; exact h
  · rename_i hc
    rw [if_neg hc]
    have ht : b.2.2.1 < t := by omega
    exact ⟨hk.1, h.nd, h.ns, h.later t ht, fun s hs => h.later s (by simp only at hs; omega), fun hr => by simp at hr, fun hr => by simp at hr⟩
theorem Node.ext {N : Nat} {c c' : Cast} {i j : Nat} (he : Ext c c') (hne : ∀ m, m ≠ i → ∀ t, c' m t = c m t) (hj : j ≠ i) {b : Bal} (h : Node N c j b) : Node N c' j b :=
  ⟨h.ok, h.nd, h.ns, by rw [hne j hj]; exact h.now, fun t ht => by rw [hne j hj]; exact h.later t ht, fun hr v hv => by
    have := h.cand hr v hv
    rw [he _ _ (by rw [this]; omega)]; exact this, fun hr => (h.led hr).ext he⟩
structure Sys (N : Nat) (c : Cast) (B : List Bal) (W : List Let) (Ld : List (Int × Int)) : Prop where
  n0 : 1 ≤ N
  n7 : N ≤ 7
  len : B.length = N
  node : ∀ i, i < N → Node N c i (B.getD i (0, 0, 0, 0, 0, 0, []))
  lets : ∀ l ∈ W, Lok N c l
  lds : ∀ p ∈ Ld, Won N c p.1 p.2
theorem getD_set {B : List Bal} {i j : Nat} {x d : Bal} (hi : i < B.length) : (B.set i x).getD j d = if i = j then x else B.getD j d := by
  simp only [List.getD_eq_getElem?_getD, List.getElem?_set]
  by_cases e : i = j
  · subst e; simp [hi]
  · simp [e]
theorem Sys.set {N : Nat} {c c' : Cast} {B : List Bal} {W W' : List Let} {Ld : List (Int × Int)} (h : Sys N c B W Ld) {i : Nat} (hi : i < N) (he : Ext c c') (hne : ∀ m, m ≠ i → ∀ t, c' m t = c m t) {b : Bal} (hb : Node N c' i b) (hW : ∀ l ∈ W', Lok N c' l ∨ l ∈ W) : Sys N c' (B.set i b) W' Ld :=
  ⟨h.n0, h.n7, by rw [List.length_set]; exact h.len, fun j hj => by
    rw [getD_set (by rw [h.len]; exact hi)]
    split
    · rename_i e; subst e; exact hb
    · rename_i e
      exact (h.node j hj).ext he hne (Ne.symm e), fun l hl => by
    rcases hW l hl with h1 | h1
    · exact h1
    · exact (h.lets l h1).ext he, fun p hp => (h.lds p hp).ext he⟩
def upC (c : Cast) (i : Nat) (t n : Int) : Cast := fun m s => if m = i ∧ s = t then n else c m s
theorem upC_ext {c : Cast} {i : Nat} {t n : Int} (h : c i t = -1 ∨ c i t = n) : Ext c (upC c i t n) := by
  intro m s hm
  unfold upC
  split
  · rename_i e
    obtain ⟨rfl, rfl⟩ := e
    rcases h with h | h
    · exact absurd h hm
    · exact h.symm
  · rfl
theorem upC_ne {c : Cast} {i : Nat} {t n : Int} : ∀ m, m ≠ i → ∀ s, upC c i t n m s = c m s := by
  intro m hm s
  unfold upC
  rw [if_neg (fun e => hm e.1)]
theorem upC_at {c : Cast} {i : Nat} {t n : Int} : upC c i t n i t = n := by unfold upC; rw [if_pos ⟨rfl, rfl⟩]
theorem camp_sys {N : Nat} {c : Cast} {B : List Bal} {W : List Let} {Ld : List (Int × Int)} (h : Sys N c B W Ld) {i : Nat} (hi : i < N) (ix pr : Int) : ∃ c', Sys N c' (B.set i (camp (B.getD i (0, 0, 0, 0, 0, 0, [])))) (W ++ campL (B.getD i (0, 0, 0, 0, 0, 0, [])) ix pr) Ld := by
  have hn := h.node i hi
  have hk := camp_keeps hn.ok
  generalize hb : B.getD i (0, 0, 0, 0, 0, 0, []) = b at *
  by_cases hm : b.2.2.1 ≥ Max
  · have e1 : camp b = b := by unfold camp; rw [if_pos hm]
    have e2 : campL b ix pr = [] := by unfold campL; rw [if_pos hm]
    rw [e1, e2]
    exact ⟨c, h.set hi (Ext.refl c) (fun _ _ _ => rfl) hn (fun l hl => .inr (by simpa using hl))⟩
  · have hl := hn.later (b.2.2.1 + 1) (by omega)
    refine ⟨upC c i (b.2.2.1 + 1) (i : Int), h.set hi (upC_ext (.inl hl)) upC_ne ?_ ?_⟩
    · have hok := hk.1
      have hlt : ∀ t, b.2.2.1 + 1 < t → upC c i (b.2.2.1 + 1) (i : Int) i t = -1 := fun t ht => by
        unfold upC
        rw [if_neg (fun e => by omega)]
        exact hn.later t (by omega)
      unfold camp at hok ⊢
      rw [if_neg hm] at hok ⊢
      by_cases h1 : b.2.1 = 1
      · rw [if_pos h1] at hok ⊢
        have hN : N = 1 := by have := hn.ns; omega
        have hi0 : i = 0 := by omega
        refine ⟨hok, hn.nd, hn.ns, ?_, hlt, fun hr => by simp at hr, fun _ => ⟨by omega, _, by rw [hN]; exact quor_one hi0, fun m hq => ?_⟩⟩
        · simp only [upC_at]; exact hn.nd.symm
        · have : m = i := by simpa using hq
          subst this
          exact upC_at
      · rw [if_neg h1] at hok ⊢
        refine ⟨hok, hn.nd, hn.ns, ?_, hlt, fun _ v hv => ?_, fun hr => by simp at hr⟩
        · simp only [upC_at]; exact hn.nd.symm
        · simp only [List.mem_singleton] at hv
          rw [hv, hn.nd, Int.toNat_natCast]
          exact upC_at
    · intro l hl
      rcases List.mem_append.1 hl with hl | hl
      · exact .inr hl
      · left
        unfold campL at hl
        rw [if_neg hm] at hl
        split at hl
        · simp at hl
        · have := askL_mem _ _ _ _ _ _ l hl
          have h2 := hn.ns
          exact ⟨by omega, by omega, fun e => by omega⟩
theorem cntVs_len (fr : Int) (vs : List Int) : (cntVs fr vs).length = cntf (markF fr vs) := by simp [cntVs, selI, cntf]
theorem cnt_sys {N : Nat} {c : Cast} {B : List Bal} {W : List Let} {Ld : List (Int × Int)} (h : Sys N c B W Ld) {i : Nat} (hi : i < N) {l : Let} (hl : Lok N c l) :
    Sys N c (B.set i (cnt (B.getD i (0, 0, 0, 0, 0, 0, [])) l.1 l.2.1 l.2.2.1 l.2.2.2.1 l.2.2.2.2.2.2.2.1)) W Ld := by
  have hn := h.node i hi
  have hk := cnt_keeps hn.ok l.1 l.2.1 l.2.2.1 l.2.2.2.1 l.2.2.2.2.2.2.2.1
  generalize hb : B.getD i (0, 0, 0, 0, 0, 0, []) = b at *
  refine h.set hi (Ext.refl c) (fun _ _ _ => rfl) ?_ (fun l hl => .inr hl)
  have hok := hk.1
  unfold cnt at hok ⊢
  split at hok
  · rename_i h1; rw [if_pos h1]; exact hn
  · rename_i h1
    rw [if_neg h1]
    have hkd : l.1 = 2 := by
      by_cases e : l.1 = 2
      · exact e
      · exact absurd (.inl e) h1
    have hcon : con b.1 b.2.1 l.2.1 l.2.2.1 l.2.2.2.1 = true := by
      cases e : con b.1 b.2.1 l.2.1 l.2.2.1 l.2.2.2.1 with
      | true => rfl
      | false => exact absurd (.inr e) h1
    obtain ⟨k1, k2, k3, k4, k5, k6⟩ := con_iff.1 hcon
    have ho := hn.obs l.2.2.2.1
    simp only at hok ⊢
    generalize EVT.obs b l.2.2.2.1 = o at *
    split at hok
    · rename_i h2; rw [if_pos h2]; exact ho
    · rename_i h2
      rw [if_neg h2]
      have hte : l.2.2.2.1 = o.2.2.1 := by
        by_cases e : l.2.2.2.1 = o.2.2.1
        · exact e
        · exact absurd (.inl e) h2
      have hrl : o.2.2.2.1 = 1 := by
        by_cases e : o.2.2.2.1 = 1
        · exact e
        · exact absurd (.inr (.inl e)) h2
      have hye : l.2.2.2.2.2.2.2.1 = true := by
        cases e : l.2.2.2.2.2.2.2.1 with
        | true => rfl
        | false => exact absurd (.inr (.inr e)) h2
      obtain ⟨g1, g2, g3⟩ := hl.2.2 hkd hye
      have hto : l.2.2.1 = (i : Int) := by rw [k1]; exact hn.nd
      rw [hte, hto] at g3
      have hmark : ∀ n, markF l.2.1 o.2.2.2.2.2.2 n = true → c n o.2.2.1 = (i : Int) := by
        intro n hn'
        unfold markF at hn'
        simp only [Bool.or_eq_true, List.any_eq_true, beq_iff_eq] at hn'
        rcases hn' with ⟨v, hv, rfl⟩ | rfl
        · exact ho.cand hrl v hv
        · exact g3
      obtain ⟨q1, q2, q3, q4, q5, _⟩ := chk_iff.1 (show EVT.chk o.1 o.2.1 o.2.2.1 o.2.2.2.1 o.2.2.2.2.1 o.2.2.2.2.2.1 o.2.2.2.2.2.2 = 0 from ho.ok)
      obtain ⟨w1, w2, w3⟩ := vchk_of q5
      have hlt : ∀ n, markF l.2.1 o.2.2.2.2.2.2 n = true → n < N := by
        intro n hn'
        unfold markF at hn'
        simp only [Bool.or_eq_true, List.any_eq_true, beq_iff_eq] at hn'
        have hns := ho.ns
        rcases hn' with ⟨v, hv, rfl⟩ | rfl
        · have := w1 v hv; omega
        · omega
      split at hok
      · rename_i h3
        rw [if_pos h3]
        unfold quo at h3
        simp only [Bool.and_eq_true, decide_eq_true_eq, cntVs_len] at h3
        have hns := ho.ns
        refine ⟨hok, ho.nd, ho.ns, ho.now, ho.later, fun hr => by simp at hr, fun _ => ⟨by omega, markF l.2.1 o.2.2.2.2.2.2, ⟨hlt, by omega⟩, hmark⟩⟩
      · rename_i h3
        rw [if_neg h3]
        refine ⟨hok, ho.nd, ho.ns, ho.now, ho.later, fun _ v hv => ?_, fun hr => by rw [hrl] at hr; omega⟩
        obtain ⟨n, n1, n2, rfl⟩ := cntVs_mem.1 hv
        rw [Int.toNat_natCast]
        exact hmark n n2
theorem ans_sys {N : Nat} {c : Cast} {B : List Bal} {W : List Let} {Ld : List (Int × Int)} (h : Sys N c B W Ld) {i : Nat} (hi : i < N) (l : Let) (ix pr : Int) :
    ∃ c', Sys N c' (B.set i (ans (B.getD i (0, 0, 0, 0, 0, 0, [])) l.1 l.2.1 l.2.2.1 l.2.2.2.1 l.2.2.2.2.1 l.2.2.2.2.2.1 ix pr).1) (W ++ [(ans (B.getD i (0, 0, 0, 0, 0, 0, [])) l.1 l.2.1 l.2.2.1 l.2.2.2.1 l.2.2.2.2.1 l.2.2.2.2.2.1 ix pr).2]) Ld := by
  have hn := h.node i hi
  have hk := (ans_keeps hn.ok l.1 l.2.1 l.2.2.1 l.2.2.2.1 l.2.2.2.2.1 l.2.2.2.2.2.1 ix pr).1
  have h0 := h.n0
  generalize hb : B.getD i (0, 0, 0, 0, 0, 0, []) = b at *
  have hok := hk.1
  unfold ans at hok ⊢
  split at hok
  · rename_i h1
    rw [if_pos h1]
    refine ⟨c, h.set hi (Ext.refl c) (fun _ _ _ => rfl) hn (fun x hx => ?_)⟩
    rcases List.mem_append.1 hx with hx | hx
    · exact .inr hx
    · simp only [List.mem_singleton] at hx
      subst hx
      exact .inl ⟨by simp, by simp only; omega, fun e => by simp at e⟩
  · rename_i h1
    rw [if_neg h1]
    have hcon : con b.1 b.2.1 l.2.1 l.2.2.1 l.2.2.2.1 = true := by
      cases e : con b.1 b.2.1 l.2.1 l.2.2.1 l.2.2.2.1 with
      | true => rfl
      | false => exact absurd (.inr e) h1
    obtain ⟨k1, k2, k3, k4, k5, k6⟩ := con_iff.1 hcon
    have hns := hn.ns
    have ho := hn.obs l.2.2.2.1
    simp only at hok ⊢
    generalize EVT.obs b l.2.2.2.1 = o at *
    split at hok
    · rename_i h2
      rw [if_pos h2]
      unfold yesA at h2
      simp only [Bool.and_eq_true, Bool.or_eq_true, beq_iff_eq] at h2
      have hv : c i o.2.2.1 = -1 ∨ c i o.2.2.1 = l.2.1 := by rw [ho.now]; exact h2.1.2
      have he := upC_ext (t := o.2.2.1) (n := l.2.1) hv
      refine ⟨upC c i o.2.2.1 l.2.1, h.set hi he upC_ne ?_ (fun x hx => ?_)⟩
      · refine ⟨hok, ho.nd, ho.ns, upC_at, fun t ht => ?_, fun hr v hv => ?_, fun hr => (ho.led hr).ext he⟩
        · have := ho.later t ht
          unfold upC
          rw [if_neg (fun e => by have : o.2.2.1 < t := ht; omega)]
          exact this
        · have := ho.cand hr v hv
          have e2 := he v.toNat o.2.2.1 (by rw [this]; omega)
          show upC c i o.2.2.1 l.2.1 v.toNat o.2.2.1 = _
          rw [e2]; exact this
      · rcases List.mem_append.1 hx with hx | hx
        · exact .inr hx
        · simp only [List.mem_singleton] at hx
          subst hx
          refine .inl ⟨k3, by simp only; omega, fun _ _ => ⟨by have := hn.nd; simp only; omega, by have := hn.nd; simp only; omega, ?_⟩⟩
          simp only
          rw [hn.nd, Int.toNat_natCast]
          exact upC_at
    · rename_i h2
      rw [if_neg h2]
      refine ⟨c, h.set hi (Ext.refl c) (fun _ _ _ => rfl) ho (fun x hx => ?_)⟩
      rcases List.mem_append.1 hx with hx | hx
      · exact .inr hx
      · simp only [List.mem_singleton] at hx
        subst hx
        exact .inl ⟨k3, by simp only; omega, fun _ e => by simp at e⟩
theorem Sys.sub {N : Nat} {c : Cast} {B : List Bal} {W W' : List Let} {Ld : List (Int × Int)} (h : Sys N c B W Ld) (hW : ∀ l ∈ W', l ∈ W) : Sys N c B W' Ld :=
  { h with lets := fun l hl => h.lets l (hW l hl) }
end Go.Proofs.Ytehjeifbgegabaa.EVT

/- The law FrameTorn: of torn frames the whole ones are read, and no more. -/
import Derived.Test.YtkklehfcadkikaaPF
import Derived.Test.YtkklehfcadkikaaUF
set_option linter.unusedVariables false
set_option linter.unusedSimpArgs false
namespace Go.Proofs.Ytkklehfcadkikaa.EVT
open Go Go.EV

theorem awake04 : g34 = some true := by kernel_rfl
def fby : List (List UInt8) → List UInt8
  | [] => []
  | x :: r => wrapF x ++ fby r
def fitF : List (List UInt8) → Nat → Nat × Nat
  | [], _ => (0, 0)
  | x :: r, m => if (wrapF x).length ≤ m then ((fitF r (m - (wrapF x).length)).1 + 1, (wrapF x).length + (fitF r (m - (wrapF x).length)).2) else (0, 0)
theorem wrapF_pos (x : List UInt8) : 5 ≤ (wrapF x).length := by
  have := enc_pos (code (x.length : Int))
  rw [wrapF_len]; omega
theorem wrapF_le {x : List UInt8} (h : x.length ≤ 600) : (wrapF x).length ≤ 614 := by
  have := enc_len10 (code_lt (n := (x.length : Int)) (by omega) (by omega))
  rw [wrapF_len]; omega
theorem fitF_zero (l : List (List UInt8)) : fitF l 0 = (0, 0) := by
  cases l with
  | nil => rfl
  | cons x r => unfold fitF; rw [if_neg (by have := wrapF_pos x; omega)]
theorem fitF_none : ∀ (l : List (List UInt8)) (m : Nat), (fitF l m).1 = 0 → (fitF l m).2 = 0
  | [], m, _ => rfl
  | x :: r, m, h => by
    unfold fitF at h ⊢
    by_cases hc : (wrapF x).length ≤ m
    · rw [if_pos hc] at h; simp at h
    · rw [if_neg hc]
theorem fby_len : ∀ (l : List (List UInt8)), (∀ x ∈ l, x.length ≤ 600) → (fby l).length ≤ 614 * l.length
  | [], _ => by simp [fby]
  | x :: r, h => by
    have h1 := fby_len r (fun y hy => h y (by simp [hy]))
    have h2 := wrapF_le (h x (by simp))
    simp only [fby, List.length_append, List.length_cons]
    omega
/-! ### short -/
theorem short_loop (a : List (List UInt8)) (hl : a.length ≤ 12) : ∀ (d i k : Nat), i + d = a.length → d < k →
    ∃ o, loopN st52_0 k ((a, (i : Int)), ()) = some o ∧ (o = .inr false ∨ (o = .inl ((), ()) ∧ ∀ m, i ≤ m → m < a.length → (a.getD m []).length ≤ 600)) := by
  intro d
  induction d with
  | zero =>
    intro i k hi hk
    cases k with
    | zero => omega
    | succ k =>
      rw [loopN_s]; generalize loopN st52_0 k = L at *; dsimp only [st52_0]
      rw [cf (by (rw [Bool.eq_false_iff]; simp only [ne_eq, Bool.and_eq_true, Bool.or_eq_true, decide_eq_true_eq, beq_iff_eq, bne_iff_ne, Bool.not_eq_true', decide_eq_false_iff_not, and_true, true_and]; omega))]; exact ⟨_, rfl, .inr ⟨rfl, fun m h1 h2 => by omega⟩⟩
  | succ d ih =>
    intro i k hi hk
    cases k with
    | zero => omega
    | succ k =>
      obtain ⟨o, k1, k2⟩ := ih (i + 1) k (by omega) (by omega)
      rw [loopN_s]; generalize loopN st52_0 k = L at k1 ⊢; dsimp only [st52_0]
      rw [ct (by (simp only [ne_eq, Bool.and_eq_true, Bool.or_eq_true, decide_eq_true_eq, beq_iff_eq, bne_iff_ne, Bool.not_eq_true', decide_eq_false_iff_not, and_true, true_and]; omega)), ct (by (simp only [ne_eq, Bool.and_eq_true, Bool.or_eq_true, decide_eq_true_eq, beq_iff_eq, bne_iff_ne, Bool.not_eq_true', decide_eq_false_iff_not, and_true, true_and]; omega)), i64w (by omega) (by omega), Int.toNat_natCast]
      by_cases h1 : ((a.getD i []).length : Int) > 600
      · rw [ct (decide_eq_true h1)]; exact ⟨_, rfl, .inl rfl⟩
      · rw [cf (decide_eq_false h1)]
        refine ⟨o, k1, ?_⟩
        rcases k2 with h | ⟨h, h2⟩
        · exact .inl h
        · refine .inr ⟨h, fun m m1 m2 => ?_⟩
          rcases Nat.eq_or_lt_of_le m1 with rfl | m1
          · omega
          · exact h2 m m1 m2
theorem short_eq (a : List (List UInt8)) : ∃ b, g52 a = some b ∧ (b = true → a.length ≤ 12 ∧ ∀ x ∈ a, x.length ≤ 600) := by
  unfold g52
  by_cases h : (a.length : Int) > 12
  · rw [ct (by (simp only [ne_eq, Bool.and_eq_true, Bool.or_eq_true, decide_eq_true_eq, beq_iff_eq, bne_iff_ne, Bool.not_eq_true', decide_eq_false_iff_not, and_true, true_and]; omega))]; exact ⟨false, rfl, fun h => by cases h⟩
  · rw [cf (by (rw [Bool.eq_false_iff]; simp only [ne_eq, Bool.and_eq_true, Bool.or_eq_true, decide_eq_true_eq, beq_iff_eq, bne_iff_ne, Bool.not_eq_true', decide_eq_false_iff_not, and_true, true_and]; omega))]
    obtain ⟨o, k, k2⟩ := short_loop a (by omega) a.length 0 fuel (by omega) (by rw [fuel_eq]; omega)
    unfold h52_0
    have k' : loopN st52_0 fuel ((a, 0), ()) = some o := k
    rw [k']
    rcases k2 with rfl | ⟨rfl, h2⟩
    · exact ⟨false, rfl, fun h => by cases h⟩
    · refine ⟨true, rfl, fun _ => ⟨by omega, fun x hx => ?_⟩⟩
      obtain ⟨m, hm, rfl⟩ := List.mem_iff_getElem.1 hx
      have := h2 m (by omega) hm
      rwa [List.getD_eq_getElem?_getD, List.getElem?_eq_getElem hm] at this
/-! ### reading all -/
theorem all_torn : ∀ (l : List (List UInt8)) (m k : Nat) (pre : List UInt8) (acc : List (List UInt8)), (∀ x ∈ l, x.length ≤ 600) → pre.length + m ≤ 1000000 → acc.length + l.length ≤ 1000000 → m < k →
    loopN st49_0 k ((pre ++ (fby l).take m, (pre.length : Int)), acc) = some (.inl ((pre.length : Int) + ((fitF l m).2 : Int), acc ++ l.take (fitF l m).1))
  | l, m, 0, pre, acc, _, _, _, hk => by omega
  | [], m, k + 1, pre, acc, _, _, _, _ => by
    rw [loopN_s]; generalize loopN st49_0 k = L at *; dsimp only [st49_0]
    rw [cf (by simp [fby])]
    simp [fitF]
  | x :: r, m, k + 1, pre, acc, hx, hp, ha, hk => by
    have hw := wrapF_pos x
    have hx0 := hx x (by simp)
    unfold fitF
    by_cases h : (wrapF x).length ≤ m
    · rw [if_pos h]
      have e : pre ++ (fby (x :: r)).take m = pre ++ (wrapF x ++ (fby r).take (m - (wrapF x).length)) := by
        simp only [fby]
        rw [List.take_append, List.take_of_length_le (by omega)]
      have hn := rNext_wrap pre x ((fby r).take (m - (wrapF x).length)) (by omega)
      have ih := all_torn r (m - (wrapF x).length) k (pre ++ wrapF x) (acc ++ [x]) (fun y hy => hx y (by simp [hy])) (by simp; omega) (by simp at ha ⊢; omega) (by omega)
      rw [List.append_assoc, List.length_append] at ih
      have hlen : (pre ++ (wrapF x ++ (fby r).take (m - (wrapF x).length))).length ≤ 1000000 := by
        simp only [List.length_append, List.length_take]; omega
      rw [e, loopN_s]; generalize loopN st49_0 k = L at ih ⊢; dsimp only [st49_0]
      have hac : acc.length + (r.length + 1) ≤ 1000000 := by simpa using ha
      rw [ct (by simp; omega), Next_eq _ (by omega), hn]
      simp only [Option.bind_some]
      rw [cf (b := (0 : Int) != 0) rfl, ct (decide_eq_true (show List.length acc + 1 ≤ 2147483647 by omega))]
      rw [show (pre.length : Int) + ((wrapF x).length : Int) = ((pre.length + (wrapF x).length : Nat) : Int) from by omega, ih]
      simp only [List.take_succ_cons, List.append_assoc, List.singleton_append]
      simp only [Option.some.injEq, Sum.inl.injEq, Prod.mk.injEq, and_true]
      omega
    · rw [if_neg h]
      by_cases h0 : m = 0
      · subst h0
        rw [loopN_s]; generalize loopN st49_0 k = L at *; dsimp only [st49_0]
        rw [cf (by simp)]; simp
      · have e : pre ++ (fby (x :: r)).take m = pre ++ (wrapF x).take m := by
          simp only [fby]
          rw [List.take_append_of_le_length (by omega)]
        have ht := rNext_torn pre x m (by omega) (by omega)
        have hlen : (pre ++ (wrapF x).take m).length ≤ 1000000 := by simp only [List.length_append, List.length_take]; omega
        rw [e, loopN_s]; generalize loopN st49_0 k = L at *; dsimp only [st49_0]
        rw [ct (by simp; omega), Next_eq _ (by omega), ht]
        simp only [Option.bind_some]
        rw [ct (b := (3 : Int) != 0) rfl]; simp
/-! ### equal lists -/
theorem sameF_loop (l : List (List UInt8)) (hl : l.length ≤ 9223372036854775806) : ∀ (d j k : Nat), j + d = l.length → d < k → loopN st51_0 k ((l, l, (j : Int)), ()) = some (.inl ((), ())) := by
  intro d
  induction d with
  | zero =>
    intro j k hj hd
    cases k with
    | zero => omega
    | succ k =>
      rw [loopN_s]; generalize loopN st51_0 k = LL at *; dsimp only [st51_0]
      rw [cf (by (rw [Bool.eq_false_iff]; simp only [ne_eq, Bool.and_eq_true, Bool.or_eq_true, decide_eq_true_eq, beq_iff_eq, bne_iff_ne, Bool.not_eq_true', decide_eq_false_iff_not, and_true, true_and]; omega))]
  | succ d ih =>
    intro j k hj hd
    cases k with
    | zero => omega
    | succ k =>
      have ih' := ih (j + 1) k (by omega) (by omega)
      rw [loopN_s]; generalize loopN st51_0 k = LL at ih' ⊢; dsimp only [st51_0]
      rw [ct (by (simp only [ne_eq, Bool.and_eq_true, Bool.or_eq_true, decide_eq_true_eq, beq_iff_eq, bne_iff_ne, Bool.not_eq_true', decide_eq_false_iff_not, and_true, true_and]; omega)), ct (by (simp only [ne_eq, Bool.and_eq_true, Bool.or_eq_true, decide_eq_true_eq, beq_iff_eq, bne_iff_ne, Bool.not_eq_true', decide_eq_false_iff_not, and_true, true_and]; omega)), ct (by (simp only [ne_eq, Bool.and_eq_true, Bool.or_eq_true, decide_eq_true_eq, beq_iff_eq, bne_iff_ne, Bool.not_eq_true', decide_eq_false_iff_not, and_true, true_and]; omega)), cf (by simp), i64w (by omega) (by omega)]
      exact ih'
theorem SameF_eq (l : List (List UInt8)) (hl : l.length ≤ 9223372036854775806) : g51 l l = some true := by
  have := sameF_loop l hl l.length 0 fuel (by omega) (by rw [fuel_eq]; omega)
  unfold g51 h51_0
  have this' : loopN st51_0 fuel ((l, l, 0), ()) = _ := this
  rw [cf (by simp), this']
  rfl
/-! ### the law -/
theorem torn_loop (a : List (List UInt8)) (m : Nat) (hl : a.length ≤ 12) (hx : ∀ x ∈ a, x.length ≤ 600) : ∀ (d i k : Nat) (w : Int) (acc : List UInt8) (kp : List (List UInt8)), i + d = a.length → acc.length + 614 * d ≤ 10000 → kp.length + d ≤ 12 → d < k →
    loopN st18_0 k ((a, (m : Int), w, (i : Int)), (acc, kp)) = some (.inl (((m : Int), if (fitF (a.drop i) (m - acc.length)).1 = 0 then w else (acc.length : Int) + ((fitF (a.drop i) (m - acc.length)).2 : Int)), (kp ++ (a.drop i).take (fitF (a.drop i) (m - acc.length)).1, acc ++ fby (a.drop i)))) := by
  intro d
  induction d with
  | zero =>
    intro i k w acc kp hi ha hkp hk
    cases k with
    | zero => omega
    | succ k =>
      rw [List.drop_of_length_le (by omega)]
      rw [loopN_s]; generalize loopN st18_0 k = L at *; dsimp only [st18_0]
      rw [cf (by (rw [Bool.eq_false_iff]; simp only [ne_eq, Bool.and_eq_true, Bool.or_eq_true, decide_eq_true_eq, beq_iff_eq, bne_iff_ne, Bool.not_eq_true', decide_eq_false_iff_not, and_true, true_and]; omega))]; simp [fitF, fby]
  | succ d ih =>
    intro i k w acc kp hi ha hkp hk
    cases k with
    | zero => omega
    | succ k =>
      have ih' := fun w acc kp h1 h2 => ih (i + 1) k w acc kp (by omega) h1 h2 (by omega)
      have hlt : i < a.length := by omega
      have hat : a.getD i [] = a[i] := by rw [List.getD_eq_getElem?_getD, List.getElem?_eq_getElem hlt]; rfl
      have hdr : a.drop i = a[i] :: a.drop (i + 1) := List.drop_eq_getElem_cons hlt
      have h600 := hx a[i] (List.getElem_mem hlt)
      rw [loopN_s]; generalize loopN st18_0 k = L at ih' ⊢; dsimp only [st18_0]
      rw [ct (by (simp only [ne_eq, Bool.and_eq_true, Bool.or_eq_true, decide_eq_true_eq, beq_iff_eq, bne_iff_ne, Bool.not_eq_true', decide_eq_false_iff_not, and_true, true_and]; omega)), ct (by (simp only [ne_eq, Bool.and_eq_true, Bool.or_eq_true, decide_eq_true_eq, beq_iff_eq, bne_iff_ne, Bool.not_eq_true', decide_eq_false_iff_not, and_true, true_and]; omega)), Int.toNat_natCast, hat, hdr]
      generalize a[i] = x at *
      have hw := wrapF_pos x
      have hw2 := wrapF_le h600
      rw [Wrap_eq x (by omega)]
      simp only [Option.bind_some]
      have hle : (acc ++ wrapF x).length = acc.length + (wrapF x).length := by simp
      rw [ct (decide_eq_true (show List.length acc + List.length (wrapF x) ≤ 2147483647 by omega)), i64w (n := (i : Int) + 1) (by omega) (by omega), hle]
      unfold fitF
      by_cases hf : (wrapF x).length ≤ m - acc.length
      · rw [ct (decide_eq_true (show ((acc.length + (wrapF x).length : Nat) : Int) ≤ (m : Int) by omega)), ct (by (simp only [ne_eq, Bool.and_eq_true, Bool.or_eq_true, decide_eq_true_eq, beq_iff_eq, bne_iff_ne, Bool.not_eq_true', decide_eq_false_iff_not, and_true, true_and]; omega)), ct (decide_eq_true (show List.length kp + 1 ≤ 2147483647 by omega)), if_pos hf]
        have h1 := ih' ((acc.length + (wrapF x).length : Nat) : Int) (acc ++ wrapF x) (kp ++ [x]) (by rw [hle]; omega) (by simp; omega)
        rw [hle, show m - (acc.length + (wrapF x).length) = m - acc.length - (wrapF x).length from by omega] at h1
        have h1' : L ((a, (m : Int), ((acc.length + (wrapF x).length : Nat) : Int), (i : Int) + 1), (acc ++ wrapF x, kp ++ [x])) = _ := h1
        rw [h1']
        have hno := fitF_none (a.drop (i + 1)) (m - acc.length - (wrapF x).length)
        simp only [List.take_succ_cons, fby, List.append_assoc, List.singleton_append, Nat.add_one_ne_zero, if_false]
        simp only [Option.some.injEq, Sum.inl.injEq, Prod.mk.injEq, and_true, true_and]
        split
        · rename_i h0
          have := hno h0
          omega
        · omega
      · rw [cf (decide_eq_false (show ¬ ((acc.length + (wrapF x).length : Nat) : Int) ≤ (m : Int) by omega)), if_neg hf]
        have h1 := ih' w (acc ++ wrapF x) kp (by rw [hle]; omega) (by omega)
        rw [hle, show m - (acc.length + (wrapF x).length) = 0 from by omega, fitF_zero] at h1
        have h1' : L ((a, (m : Int), w, (i : Int) + 1), (acc ++ wrapF x, kp)) = _ := h1
        rw [h1']
        simp [fby]
theorem law_ftorn (a : List (List UInt8)) (n : Int) : g18 a n = some true := by
  unfold g18
  obtain ⟨v, hv1, hv2⟩ := short_eq a
  rw [awake04, hv1]
  simp only [Option.bind_some]
  cases v with
  | false => rfl
  | true =>
    obtain ⟨h1, h2⟩ := hv2 rfl
    rw [cf (b := !true) rfl]
    by_cases h3 : n < 0
    · rw [ct (by (simp only [ne_eq, Bool.and_eq_true, Bool.or_eq_true, decide_eq_true_eq, beq_iff_eq, bne_iff_ne, Bool.not_eq_true', decide_eq_false_iff_not, and_true, true_and]; omega))]
    obtain ⟨m, rfl⟩ := Int.eq_ofNat_of_zero_le (by omega : 0 ≤ n)
    have lp := torn_loop a m h1 h2 a.length 0 fuel 0 [] [] (by omega) (by simp; omega) (by simp; omega) (by rw [fuel_eq]; omega)
    simp only [List.length_nil, Nat.sub_zero, List.drop_zero, List.nil_append] at lp
    have lp' : h18_0 ((a, (m : Int), 0, 0), ([], [])) = _ := lp
    have hb := fby_len a h2
    rw [cf (by (rw [Bool.eq_false_iff]; simp only [ne_eq, Bool.and_eq_true, Bool.or_eq_true, decide_eq_true_eq, beq_iff_eq, bne_iff_ne, Bool.not_eq_true', decide_eq_false_iff_not, and_true, true_and]; omega)), lp']
    simp only [Option.bind_some]
    by_cases h4 : (m : Int) > ((fby a).length : Int)
    · rw [ct (decide_eq_true h4)]
    rw [cf (decide_eq_false h4), ct (by (simp only [ne_eq, Bool.and_eq_true, Bool.or_eq_true, decide_eq_true_eq, beq_iff_eq, bne_iff_ne, Bool.not_eq_true', decide_eq_false_iff_not, and_true, true_and]; omega)), List.drop_zero, Nat.sub_zero, Int.toNat_natCast]
    have hal := all_torn a m fuel [] [] h2 (by simp; omega) (by simp; omega) (by rw [fuel_eq]; omega)
    simp only [List.nil_append, List.length_nil] at hal
    have hal' : h49_0 (((fby a).take m, 0), []) = _ := hal
    have hA : g49 ((fby a).take m) = some (a.take (fitF a m).1, ((fitF a m).2 : Int)) := by
      unfold g49
      rw [hal']
      simp
    rw [hA]
    simp only [Option.bind_some]
    rw [SameF_eq _ (by rw [List.length_take]; omega)]
    simp only [Option.bind_some]
    rw [ct rfl]
    have hno := fitF_none a m
    split
    · rename_i h0; rw [hno h0]; rfl
    · rw [ct (by simp)]
theorem FrameTorn {a0 : Ty.den (.sl (.sl .u8))} {a1 : Ty.den (.i .i64)} (h0 : Bd _ a0) (h1 : Bd _ a1) : i18.G (a0, a1) = some true := law_ftorn a0 a1
end Go.Proofs.Ytkklehfcadkikaa.EVT

/- The law PackTorn, out of what its functions compute. -/
import Derived.Test.YtkklehfcadkikaaSe
import Derived.Test.YtkklehfcadkikaaSf
import Derived.Test.YtkklehfcadkikaaJx19
import Derived.Test.YtkklehfcadkikaaJx22
set_option linter.unusedVariables false
set_option linter.unusedSimpArgs false
namespace Go.Proofs.Ytkklehfcadkikaa.Pure
open Go.RowKit Go.Proofs.YtkklehfcadkikaaW.PrintWords Go.Proofs.YtkklehfcadkikaaW.PrintLast Go.Proofs.YtkklehfcadkikaaW.PrintMore Go.Proofs.Ytkklehfcadkikaa.J Go.Proofs.Ytkklehfcadkikaa.Sp
theorem fair_ev (a b : List Int) (n : Int) (s : ByteArray) (l : List ByteArray) : ∃ r, Ev (fun k => brokerlaw03_fair.f k a b n s l) r ∧ (r = true → a.length ≤ 400 ∧ b.length ≤ 400 ∧ s.size ≤ 400 ∧ l.length ≤ 24 ∧ Short 400 l) := by
  unfold brokerlaw03_fair.f
  by_cases h1 : (a.length : Int) ≤ 400
  · by_cases h2 : (b.length : Int) ≤ 400
    · by_cases h3 : (s.size : Int) ≤ 400
      · obtain ⟨r, hr, hs⟩ := short_ev l
        exact ⟨r, Ev.pos h1 (Ev.pos h2 (Ev.pos h3 (Ev.bind hr (Ev.now _)))), fun h => ⟨by omega, by omega, by omega, (hs h).1, (hs h).2⟩⟩
      · exact ⟨false, Ev.pos h1 (Ev.pos h2 (Ev.neg h3 (Ev.now _))), by simp⟩
    · exact ⟨false, Ev.pos h1 (Ev.neg h2 (Ev.now _)), by simp⟩
  · exact ⟨false, Ev.neg h1 (Ev.now _), by simp⟩
theorem PackTorn (x0_0 : List Int) (x0_1 : List Int) (x0_2 : Int) (x0_3 : ByteArray) (x0_4 : List ByteArray) (x1 : Int) : (x0_0.length ≤ maxLen ∧ ∀ q_ ∈ x0_0, (Lit.int .u8 q_).wf = true) → (x0_1.length ≤ maxLen ∧ ∀ q_ ∈ x0_1, (Lit.int .u8 q_).wf = true) → ((Lit.int .i64 x0_2).wf = true) → (x0_3.size ≤ maxLen) → (x0_4.length ≤ maxLen ∧ ∀ q_ ∈ x0_4, q_.size ≤ maxLen) → ((Lit.int .i64 x1).wf = true) → ∃ k, brokerlaw03_PackTorn.f k x0_0 x0_1 x0_2 x0_3 x0_4 x1 = some true := by
  rintro _ _ hn _ _ _
  obtain ⟨n0, n1⟩ := wf64 hn
  apply Ev.rounds
  have out : Ev (fun k => brokerlaw03_PackTorn.j0 k x1 true x0_0 x0_1 x0_2 x0_3 x0_4) true :=
    Ev.step (fun k => by simp only [brokerlaw03_PackTorn.j0, if_true]) (Ev.bind awake03 (Ev.now _))
  unfold brokerlaw03_PackTorn.f
  obtain ⟨r, hr, hs⟩ := fair_ev x0_0 x0_1 x0_2 x0_3 x0_4
  refine Ev.bind hr ?_
  cases r with
  | false => exact Ev.neg (by simp) out
  | true =>
    obtain ⟨h1, h2, h3, h4, h5⟩ := hs rfl
    refine Ev.pos rfl ?_
    by_cases h0 : x1 < 0
    · rw [decide_eq_true h0]; exact out
    · rw [decide_eq_false h0]
      obtain ⟨m, rfl⟩ := Int.eq_ofNat_of_zero_le (by omega : 0 ≤ x1)
      have e1 := enc_len10 (code_lt n0 n1)
      have e2 := cat_le x0_3 (by omega)
      have e3 := cats_le 400 (by omega) x0_4 h5
      have e4 := enc_len10 (code_lt (n := (x0_4.length : Int)) (by omega) (by omega))
      have hcl : (catl x0_4).length = (enc (code (x0_4.length : Int))).length + (cats x0_4).length := by simp [catl]
      have last : Ev (fun k => brokerlaw03_PackTorn.j2 k (m : Int) x0_0 x0_1 x0_2 x0_3 x0_4) true := by
        refine Ev.step (fun k => by simp only [brokerlaw03_PackTorn.j2]; rfl) ?_
        refine Ev.bind (pack_PutTexts_ev [] x0_4 400 (by omega) h5 (by omega) (by simp only [List.length_nil]; omega)) ?_
        rw [List.nil_append, show enc (code (x0_4.length : Int)) ++ cats x0_4 = catl x0_4 from rfl]
        by_cases hm : (m : Int) < ((catl x0_4).length : Int)
        · refine Ev.pos hm (Ev.pos (by omega) (Ev.pos (by omega) ?_))
          rw [Int.toNat_natCast]
          refine Ev.bind (pack_Texts_ev _ (((enc_byt _).append (cats_byt _)).take _) (by rw [List.length_take]; omega) _ _) (Ev.pos ?_ (Ev.bind awake03 (Ev.now _)))
          exact rTexts_torn x0_4 m 400 (by omega) (by omega) (fun s hs => ⟨by have := h5 s hs; omega, by have := h5 s hs; omega⟩) (by omega)
        · exact Ev.neg hm (Ev.bind awake03 (Ev.now _))
      have mid : Ev (fun k => brokerlaw03_PackTorn.j1 k (m : Int) x0_0 x0_1 x0_2 x0_3 x0_4) true := by
        refine Ev.step (fun k => by simp only [brokerlaw03_PackTorn.j1]; rfl) ?_
        refine Ev.bind (pack_PutText_ev [] x0_3 (by simp) (by omega)) ?_
        rw [List.nil_append]
        by_cases hm : (m : Int) < ((cat x0_3).length : Int)
        · refine Ev.pos hm (Ev.pos (by omega) (Ev.pos (by omega) ?_))
          rw [Int.toNat_natCast]
          refine Ev.bind (pack_Text_ev _ ((cat_byt _).take _) (by rw [List.length_take]; omega) _ _) ?_
          rw [rText_torn x0_3 m 400 (by omega) (by omega) (by omega)]
          exact Ev.pos rfl last
        · exact Ev.neg hm last
      refine Ev.step (fun k => by simp only [brokerlaw03_PackTorn.j0]; rw [if_neg (by simp)]) ?_
      refine Ev.bind (pack_PutNum_ev [] x0_2 n0 n1 (by simp)) ?_
      rw [List.nil_append]
      by_cases hm : (m : Int) < ((enc (code x0_2)).length : Int)
      · refine Ev.pos hm (Ev.pos (by omega) (Ev.pos (by omega) ?_))
        rw [Int.toNat_natCast]
        refine Ev.bind (pack_Num_ev _ ((enc_byt _).take _) (by rw [List.length_take]; omega) _) ?_
        rw [rNum_torn x0_2 m n0 n1 (by omega)]
        exact Ev.pos rfl mid
      · exact Ev.neg hm mid
end Go.Proofs.Ytkklehfcadkikaa.Pure

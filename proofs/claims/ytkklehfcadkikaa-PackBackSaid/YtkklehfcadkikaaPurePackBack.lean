/- The law PackBack, out of what its functions compute. -/
import Derived.Test.YtkklehfcadkikaaSe
import Derived.Test.YtkklehfcadkikaaSf
import Derived.Test.YtkklehfcadkikaaJbrokerlaw03PackBack
import Derived.Test.YtkklehfcadkikaaJlaw031
set_option linter.unusedVariables false
set_option linter.unusedSimpArgs false
namespace Go.Proofs.Ytkklehfcadkikaa.Pure
open Go.RowKit Go.Proofs.YtkklehfcadkikaaW.PrintWords Go.Proofs.YtkklehfcadkikaaW.PrintLast Go.Proofs.YtkklehfcadkikaaW.PrintMore Go.Proofs.Ytkklehfcadkikaa.J Go.Proofs.Ytkklehfcadkikaa.Sp
theorem fair_ev (a b : List Int) (n : Int) (s : ByteArray) (l : List ByteArray) : ∃ r, Ev (fun k => brokerlaw03_fair.f k a b n s l) r ∧ (r = true → a.length ≤ 400 ∧ b.length ≤ 400 ∧ s.size ≤ 400 ∧ l.length ≤ 24 ∧ Short 400 l) := by
  unfold brokerlaw03_fair.f
  by_cases h1 : (a.length : Int) ≤ 400
  · by_cases h2 : (b.length : Int) ≤ 400
    · by_cases h3 : (s.size : Int) ≤ 400
      · obtain ⟨r, hr, hs⟩ := short_ev l
        exact ⟨r, Ev.pos h1 (Ev.pos h2 (Ev.pos h3 (Ev.bind hr (Ev.now _)))), fun h => ⟨by omega, by omega, by omega, (hs h).1, (hs h).2⟩⟩
      · exact ⟨false, Ev.pos h1 (Ev.pos h2 (Ev.neg h3 (Ev.now _))), by simp⟩
    · exact ⟨false, Ev.pos h1 (Ev.neg h2 (Ev.now _)), by simp⟩
  · exact ⟨false, Ev.neg h1 (Ev.now _), by simp⟩
theorem PackBack (x0_0 : List Int) (x0_1 : List Int) (x0_2 : Int) (x0_3 : ByteArray) (x0_4 : List ByteArray) : (x0_0.length ≤ maxLen ∧ ∀ q_ ∈ x0_0, (Lit.int .u8 q_).wf = true) → (x0_1.length ≤ maxLen ∧ ∀ q_ ∈ x0_1, (Lit.int .u8 q_).wf = true) → ((Lit.int .i64 x0_2).wf = true) → (x0_3.size ≤ maxLen) → (x0_4.length ≤ maxLen ∧ ∀ q_ ∈ x0_4, q_.size ≤ maxLen) → ∃ k, brokerlaw03_PackBack.f k x0_0 x0_1 x0_2 x0_3 x0_4 = some true := by
  rintro ⟨_, hw0⟩ ⟨_, hw1⟩ hn _ _
  have hb0 := byt_of_wf hw0
  have hb1 := byt_of_wf hw1
  obtain ⟨n0, n1⟩ := wf64 hn
  apply Ev.rounds
  unfold brokerlaw03_PackBack.f
  obtain ⟨r, hr, hs⟩ := fair_ev x0_0 x0_1 x0_2 x0_3 x0_4
  refine Ev.bind hr ?_
  cases r with
  | false => exact Ev.neg (by simp) (Ev.bind awake03 (Ev.now _))
  | true =>
    obtain ⟨h1, h2, h3, h4, h5⟩ := hs rfl
    have e1 := enc_len10 (code_lt n0 n1)
    have e2 := cat_le x0_3 (by omega)
    have e3 := cats_le 400 (by omega) x0_4 h5
    have e4 := enc_len10 (code_lt (n := (x0_4.length : Int)) (by omega) (by omega))
    refine Ev.pos rfl (Ev.bind (pack_PutNum_ev x0_0 x0_2 n0 n1 (by omega)) (Ev.bind (pack_PutText_ev _ x0_3 (by rw [List.length_append]; omega) (by omega)) (Ev.bind (pack_PutTexts_ev _ x0_4 400 (by omega) h5 (by omega) (by simp only [List.length_append]; omega)) ?_)))
    refine Ev.pos (by simp only [List.length_append]; omega) (Ev.get rfl ?_)
    have ee : x0_0 ++ enc (code x0_2) ++ cat x0_3 ++ (enc (code (x0_4.length : Int)) ++ cats x0_4) ++ x0_1 = x0_0 ++ (enc (code x0_2) ++ (cat x0_3 ++ (catl x0_4 ++ x0_1))) := by simp [catl]
    rw [ee]
    have hby : Byt (x0_0 ++ (enc (code x0_2) ++ (cat x0_3 ++ (catl x0_4 ++ x0_1)))) := hb0.append ((enc_byt _).append ((cat_byt _).append (((enc_byt _).append (cats_byt _)).append hb1)))
    have hlen : (x0_0 ++ (enc (code x0_2) ++ (cat x0_3 ++ (catl x0_4 ++ x0_1)))).length = x0_0.length + (enc (code x0_2)).length + (cat x0_3).length + (catl x0_4).length + x0_1.length := by simp only [List.length_append]; omega
    have hcl : (catl x0_4).length = (enc (code (x0_4.length : Int))).length + (cats x0_4).length := by simp [catl]
    have r1 := rNum_at x0_0 x0_2 (cat x0_3 ++ (catl x0_4 ++ x0_1)) n0 n1
    have r2 := rText_at (x0_0 ++ enc (code x0_2)) x0_3 (catl x0_4 ++ x0_1) 400 (by omega) (by omega)
    have r3 := rTexts_at (x0_0 ++ enc (code x0_2) ++ cat x0_3) x0_4 x0_1 400 (by omega) (by omega) (fun s hs => ⟨by have := h5 s hs; omega, by have := h5 s hs; omega⟩)
    simp only [List.append_assoc, List.length_append] at r2 r3
    generalize x0_0 ++ (enc (code x0_2) ++ (cat x0_3 ++ (catl x0_4 ++ x0_1))) = B at *
    refine Ev.bind (pack_Num_ev B hby (by omega) _) ?_
    rw [r1]
    dsimp only
    refine Ev.bind (pack_Text_ev B hby (by omega) _ _) ?_
    rw [show (x0_0.length : Int) + ((enc (code x0_2)).length : Int) = ((x0_0.length + (enc (code x0_2)).length : Nat) : Int) from by omega, r2]
    dsimp only
    refine Ev.bind (pack_Texts_ev B hby (by omega) _ _) ?_
    rw [show ((x0_0.length + (enc (code x0_2)).length : Nat) : Int) + ((cat x0_3).length : Int) = ((x0_0.length + ((enc (code x0_2)).length + (cat x0_3).length) : Nat) : Int) from by omega, r3]
    dsimp only
    refine Ev.pos rfl (Ev.pos rfl (Ev.pos rfl (Ev.pos rfl (Ev.pos rfl (Ev.bind (same_self x0_4 (by omega)) (Ev.pos rfl (Ev.pos ?_ (Ev.bind awake03 (Ev.now _)))))))))
    rw [wrap64_in (by omega) (by omega), hlen]
    omega
end Go.Proofs.Ytkklehfcadkikaa.Pure

/- The examples of the laws of records hold; the length of the number that bytes begin with. -/
import Derived.Test.YtkkelbakadbbhaaBR
import Derived.Test.YtkkelbakadbbhaaYbrokerlaw31awake
import Derived.Test.YtkkelbakadbbhaaYlaw310
import Derived.Test.YtkkelbakadbbhaaYlaw311
set_option linter.unusedVariables false
set_option linter.unusedSimpArgs false
namespace Go.Proofs.Ytkkelbakadbbhaa.Sp
open Go.RowKit Go.Proofs.YtkkelbakadbbhaaW.PrintWords Go.Proofs.YtkkelbakadbbhaaW.PrintLast Go.Proofs.YtkkelbakadbbhaaW.PrintMore Go.Proofs.Ytkkelbakadbbhaa.J
theorem awake31 : Ev (fun k => brokerlaw31_awake.f k) true := Ev.of (fun k => brokerlaw31_awake.mono k) (k := 40) (by kernel_rfl)
theorem small31 (o n : Int) (s v : ByteArray) : ∃ r, brokerlaw31_small.f o n s v = some r := by
  unfold brokerlaw31_small.f; split <;> exact ⟨_, rfl⟩
theorem rd_app {a r : List Int} {x : Int} {i : Int} (h : i = (a.length : Int)) : rd (a ++ x :: r) i = x := by subst h; simp [rd, List.getD_eq_getElem?_getD]
theorem head31_l0 (c : Nat) : ∀ a r : List Int, (a ++ (enc c ++ r)).length ≤ 4611686018427387904 → Ev (fun k => brokerlaw31_head.l0 k (a ++ (enc c ++ r)) ((a.length : Int) + 1)) ((a.length : Int) + ((enc c).length : Int)) := by
  induction c using Nat.strongRecOn with
  | _ c ih =>
    intro a r hl
    by_cases h : c < 128
    · rw [enc_small h] at hl ⊢
      simp only [List.length_append, List.length_cons, List.length_nil] at hl
      refine Ev.step (f := fun _ => some ((a.length : Int) + 1)) (fun k => ?_) (Ev.now _)
      simp only [brokerlaw31_head.l0]
      rw [wrap64_in (n := (a.length : Int) + 1 - 1) (by omega) (by omega)]
      rw [show a ++ ([(c : Int)] ++ r) = a ++ (c : Int) :: r from rfl, rd_app (by omega)]
      split
      · rw [if_pos (by omega), if_pos (by simp; omega), if_neg (by omega)]
      · rfl
    · have hp := enc_pos (c / 128)
      have h2 := ih (c / 128) (by omega) (a ++ [((c % 128 + 128 : Nat) : Int)]) r
      rw [enc_big h] at hl ⊢
      simp only [List.length_append, List.length_cons, List.length_nil] at hl h2
      have e : a ++ (((c % 128 + 128 : Nat) : Int) :: enc (c / 128) ++ r) = a ++ [((c % 128 + 128 : Nat) : Int)] ++ (enc (c / 128) ++ r) := by simp
      refine Ev.step (fun k => ?_) (f := fun k => brokerlaw31_head.l0 k (a ++ [((c % 128 + 128 : Nat) : Int)] ++ (enc (c / 128) ++ r)) ((a.length + (0 + 1) : Nat) + 1 : Int)) ?_
      · simp only [brokerlaw31_head.l0]
        rw [wrap64_in (n := (a.length : Int) + 1 - 1) (by omega) (by omega), wrap64_in (n := (a.length : Int) + 1 + 1) (by omega) (by omega)]
        rw [if_pos (by simp only [List.length_append, List.length_cons]; omega), if_pos (by omega), if_pos (by simp only [List.length_append, List.length_cons]; omega)]
        rw [show a ++ (((c % 128 + 128 : Nat) : Int) :: enc (c / 128) ++ r) = a ++ ((c % 128 + 128 : Nat) : Int) :: (enc (c / 128) ++ r) from rfl, rd_app (by omega), if_pos (by omega)]
        congr 1
      · have h3 := h2 (by omega)
        simp only [List.length_cons]
        rw [show (a.length : Int) + ((enc (c / 128)).length + 1 : Nat) = ((a.length + (0 + 1) : Nat) : Int) + ((enc (c / 128)).length : Int) from by omega]
        exact h3
theorem head31_ev (p : List Int) (hp : p.length ≤ 65536) : Ev (fun k => brokerlaw31_head.f k (wrapF p)) ((enc (code (p.length : Int))).length : Int) := by
  unfold brokerlaw31_head.f
  have hl := wrapF_len p
  have he := enc_len10 (code_lt (n := (p.length : Int)) (by omega) (by omega))
  have h := head31_l0 (code (p.length : Int)) [] (be4 (sum p) ++ p) (by show (wrapF p).length ≤ _; omega)
  simpa [wrapF] using h
end Go.Proofs.Ytkkelbakadbbhaa.Sp

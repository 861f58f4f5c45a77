import Derived.Test.YtehjeifbgegabaaUP
import Derived.Test.YtehjeifbgegabaaVP5
set_option linter.unusedVariables false
set_option maxRecDepth 100000
set_option maxHeartbeats 0
namespace Go.Proofs.Ytehjeifbgegabaa.EVT
open Go Go.EV
/-- The lists of votes: all growing lists of numbers from j on, below j + k. -/
def subs : Nat → Nat → List (List Int)
  | 0, _ => [[]]
  | k + 1, j => subs k (j + 1) ++ (subs k (j + 1)).map (fun l => (j : Int) :: l)
theorem subs_mem : ∀ (k j : Nat) (vs : List Int), (∀ v ∈ vs, (j : Int) ≤ v ∧ v < (j : Int) + k) → vs.Pairwise (· < ·) → vs ∈ subs k j := by
  intro k
  induction k with
  | zero =>
    intro j vs h hp
    cases vs with
    | nil => simp [subs]
    | cons v vs => have := h v (by simp); omega
  | succ k ih =>
    intro j vs h hp
    simp only [subs, List.mem_append, List.mem_map]
    cases vs with
    | nil => exact .inl (ih (j + 1) [] (by simp) (by simp))
    | cons v vs =>
      have hv := h v (by simp)
      have hr : ∀ w ∈ vs, v < w := (List.pairwise_cons.1 hp).1
      by_cases e : v = (j : Int)
      · refine .inr ⟨vs, ih (j + 1) vs (fun w hw => ?_) (List.pairwise_cons.1 hp).2, by rw [e]⟩
        have h1 := hr w hw
        have h2 := h w (by simp [hw])
        omega
      · refine .inl (ih (j + 1) (v :: vs) (fun w hw => ?_) hp)
        rcases List.mem_cons.1 hw with rfl | hw
        · omega
        · have h1 := hr w hw
          have h2 := h w (by simp [hw])
          omega
def isEq (o : Option (List Int)) (l : List Int) : Bool := match o with
  | some x => x == l
  | none => false
theorem isEq_ok {o : Option (List Int)} {l : List Int} (h : isEq o l = true) : o = some l := by
  unfold isEq at h
  split at h
  · rw [eq_of_beq h]
  · cases h
/-- Sorted and without doubles: counted out. -/
theorem set_all : ((subs 7 0).all fun vs => (List.range 7).all fun f => isEq (g43 (vs ++ [(f : Int)])) (cntVs (f : Int) vs)) = true := by kernel_rfl
end Go.Proofs.Ytehjeifbgegabaa.EVT

/- The law SegmentFull, out of what its functions compute. -/
import Derived.Test.YtkkelbakadbbhaaTd
import Derived.Test.YtkkelbakadbbhaaYbrokerlaw32SegmentFull
set_option linter.unusedVariables false
set_option linter.unusedSimpArgs false
namespace Go.Proofs.Ytkkelbakadbbhaa.Pure
open Go.RowKit Go.Proofs.YtkkelbakadbbhaaW.PrintWords Go.Proofs.YtkkelbakadbbhaaW.PrintLast Go.Proofs.YtkkelbakadbbhaaW.PrintMore Go.Proofs.Ytkkelbakadbbhaa.J Go.Proofs.Ytkkelbakadbbhaa.Sp
theorem rec_ge (o n : Int) (s v : ByteArray) : v.size + 8 ≤ (rec_ o n s v).length := by
  have h1 := wrapF_len (pld o n s v)
  have a1 := enc_pos (code o); have a2 := enc_pos (code n); have a3 := enc_pos (code (s.size : Int)); have a4 := enc_pos (code (v.size : Int)); have a5 := enc_pos (code ((pld o n s v).length : Int))
  have c3 := cat_len s; have c4 := cat_len v
  have hp : (pld o n s v).length = (enc (code o)).length + ((enc (code n)).length + ((cat s).length + (cat v).length)) := by unfold pld; simp only [List.length_append]
  unfold rec_
  omega
theorem full_l1 (x0 : Int) (h0 : 0 ≤ x0) (h1 : x0 ≤ 100) (v : ByteArray) (hv0 : 3841 ≤ v.size) (hv1 : v.size ≤ 4096) : ∀ (d i : Nat), i + d = 18 → ∀ b : List Int, 3849 * i ≤ b.length → b.length ≤ 65536 → Ev (fun k => brokerlaw32_SegmentFull.l1 k x0 v (i : Int) x0 (x0 + (i : Int)) b) true := by
  intro d
  induction d with
  | zero => intro i hi b h2 h3; omega
  | succ d ih =>
    intro i hi b h2 h3
    have hc : chk (x0 + (i : Int)) 1 (⟨#[107]⟩ : ByteArray) v = 0 := chk_zero.2 ⟨by omega, by omega, .inl rfl, by rw [Go.Lib.toList_data]; decide, by decide, by omega, .inl rfl⟩
    have hr := rec_len hc
    have hg := rec_ge (x0 + (i : Int)) 1 (⟨#[107]⟩ : ByteArray) v
    refine Ev.step (fun k => by simp only [brokerlaw32_SegmentFull.l1]; rfl) ?_
    rw [wrap64_in (n := x0 + (i : Int)) (by omega) (by omega), wrap64_in (n := (i : Int) + 1) (by omega) (by omega)]
    have hsz : Ev (fun k => brokerref31_Size.f k (x0 + (i : Int)) 1 (⟨#[107]⟩ : ByteArray) v) ((rec_ (x0 + (i : Int)) 1 (⟨#[107]⟩ : ByteArray) v).length : Int) := by
      unfold brokerref31_Size.f
      refine Ev.bind (ref31_Encode_ev _ _ _ _) ?_
      unfold rEnc; rw [if_pos hc]; exact Ev.now _
    refine Ev.pos (by omega) (Ev.bind hsz (Ev.bind (segment_Append_ev _ _ _ _ _ _ (by omega)) ?_))
    rw [wrap64_in (n := (b.length : Int) + ((rec_ (x0 + (i : Int)) 1 (⟨#[107]⟩ : ByteArray) v).length : Int)) (by omega) (by omega)]
    unfold sApp
    rw [if_pos hc]
    by_cases hf : (b.length : Int) + ((rec_ (x0 + (i : Int)) 1 (⟨#[107]⟩ : ByteArray) v).length : Int) > 65536
    · rw [if_pos hf]
      exact Ev.pos hf (Ev.pos rfl (Ev.pos rfl (Ev.get (ref32_Same_self _ _ _) (Ev.pos rfl (Ev.bind awake32 (Ev.now _))))))
    · rw [if_neg hf]
      dsimp only
      refine Ev.neg hf (Ev.pos rfl (Ev.pos rfl (Ev.pos (by rw [List.length_append]; omega) ?_)))
      have := ih (i + 1) (by omega) (b ++ rec_ (x0 + (i : Int)) 1 (⟨#[107]⟩ : ByteArray) v) (by rw [List.length_append]; omega) (by rw [List.length_append]; omega)
      rw [show x0 + ((i + 1 : Nat) : Int) = x0 + (i : Int) + 1 from by omega] at this
      exact this
theorem full_l0 (x0 x1 : Int) (h0 : 0 ≤ x0) (h1 : x0 ≤ 100) (u0 : 0 ≤ x1) (u1 : x1 ≤ 255) : ∀ (d : Nat) (s : ByteArray), s.size ≤ 8192 → 4096 - (s.size : Int) < 16 * d → Ev (fun k => brokerlaw32_SegmentFull.l0 k x0 x1 s) true := by
  intro d
  induction d with
  | zero =>
    intro s hs hd
    refine Ev.step (fun k => by simp only [brokerlaw32_SegmentFull.l0]; rfl) ?_
    rw [wrap64_in (n := x1) (by omega) (by omega), wrap64_in (n := 4096 - x1) (by omega) (by omega)]
    refine Ev.neg (by omega) (Ev.pos (by omega) (Ev.pos (by omega) (Ev.get (x := (x0, x0, [])) rfl ?_)))
    have := full_l1 x0 h0 h1 (s.extract 0 (4096 - x1).toNat) (by rw [ByteArray.size_extract]; omega) (by rw [ByteArray.size_extract]; omega) 18 0 (by omega) [] (by simp) (by simp)
    simpa using this
  | succ d ih =>
    intro s hs hd
    refine Ev.step (fun k => by simp only [brokerlaw32_SegmentFull.l0]; rfl) ?_
    rw [wrap64_in (n := x1) (by omega) (by omega), wrap64_in (n := 4096 - x1) (by omega) (by omega)]
    by_cases hc : (s.size : Int) < 4096 - x1
    · have hz : (s ++ (⟨#[48, 49, 50, 51, 52, 53, 54, 55, 56, 57, 97, 98, 99, 100, 101, 102]⟩ : ByteArray)).size = s.size + 16 := by rw [ByteArray.size_append]; rfl
      exact Ev.pos hc (Ev.pos (by omega) (ih _ (by omega) (by omega)))
    · refine Ev.neg hc (Ev.pos (by omega) (Ev.pos (by omega) (Ev.get (x := (x0, x0, [])) rfl ?_)))
      have := full_l1 x0 h0 h1 (s.extract 0 (4096 - x1).toNat) (by rw [ByteArray.size_extract]; omega) (by rw [ByteArray.size_extract]; omega) 18 0 (by omega) [] (by simp) (by simp)
      simpa using this
theorem SegmentFull (x0 : Int) (x1 : Int) : ((Lit.int .i64 x0).wf = true) → ((Lit.int .u8 x1).wf = true) → ∃ k, brokerlaw32_SegmentFull.f k x0 x1 = some true := by
  intro _ hw
  obtain ⟨u0, u1⟩ := wf8 hw
  apply Ev.rounds
  have out : Ev (fun k => brokerlaw32_SegmentFull.j0 k x0 x1 true) true := Ev.step (fun k => by simp only [brokerlaw32_SegmentFull.j0, if_true]) (Ev.bind awake32 (Ev.now _))
  unfold brokerlaw32_SegmentFull.f
  by_cases h0 : x0 < 0
  · exact Ev.pos h0 out
  refine Ev.neg h0 ?_
  by_cases h1 : x0 > 100
  · rw [decide_eq_true h1]; exact out
  · rw [decide_eq_false h1]
    refine Ev.step (fun k => by simp only [brokerlaw32_SegmentFull.j0]; rw [if_neg (by simp)]) ?_
    exact full_l0 x0 x1 (by omega) (by omega) u0 u1 257 _ (by decide) (by decide)
end Go.Proofs.Ytkkelbakadbbhaa.Pure

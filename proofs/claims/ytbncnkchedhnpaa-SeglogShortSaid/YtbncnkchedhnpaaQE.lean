/- The log: what its functions compute on lists of segments. -/
import Derived.Test.YtbncnkchedhnpaaQD
import Derived.Test.YtbncnkchedhnpaaUR
import Derived.Test.YtbncnkchedhnpaaUL
set_option linter.unusedVariables false
set_option linter.unusedSimpArgs false
namespace Go.Proofs.Ytbncnkchedhnpaa.EVT
open Go Go.EV

abbrev Seg := Int × Int × List UInt8
abbrev sg0 : Seg := (0, 0, [])
theorem getD_last {α : Type} (T : List α) (x d : α) : (T ++ [x]).getD T.length d = x := by simp [List.getD_eq_getElem?_getD]
theorem set_last {α : Type} (T : List α) (x y : α) : (T ++ [x]).set T.length y = T ++ [y] := by simp
theorem First_eq (lim : Int) (S : List Seg) (h : 0 < S.length) : g12 lim S = some ((S.getD 0 sg0).1, lim, S) := by
  unfold g12
  rw [ct (by (simp only [ne_eq, Bool.and_eq_true, Bool.or_eq_true, decide_eq_true_eq, beq_iff_eq, bne_iff_ne, Bool.not_eq_true', decide_eq_false_iff_not, and_true, true_and]; omega)), ct (by simpa using h)]; rfl
theorem last_eq (lim : Int) (T : List Seg) (x : Seg) (h : T.length ≤ 1000000) : g29 lim (T ++ [x]) = some (x, lim, T ++ [x]) := by
  unfold g29
  have e : (T ++ [x]).length = T.length + 1 := by simp
  rw [e, show IntKind.i64.wrap (((T.length + 1 : Nat) : Int) - 1) = (T.length : Int) by rw [i64w (by omega) (by omega)]; omega]
  rw [ct (by (simp only [ne_eq, Bool.and_eq_true, Bool.or_eq_true, decide_eq_true_eq, beq_iff_eq, bne_iff_ne, Bool.not_eq_true', decide_eq_false_iff_not, and_true, true_and]; omega)), ct (by simp), Int.toNat_natCast, getD_last]
theorem Next_log (lim : Int) (T : List Seg) (x : Seg) (h : T.length ≤ 1000000) : g13 lim (T ++ [x]) = some (x.2.1, lim, T ++ [x]) := by
  unfold g13
  rw [last_eq lim T x h]; rfl
theorem ref_First_eq (lim : Int) (S : List Seg) (h : 0 < S.length) : g41 lim S = some ((S.getD 0 sg0).1) := by
  unfold g41
  rw [ct (by (simp only [ne_eq, Bool.and_eq_true, Bool.or_eq_true, decide_eq_true_eq, beq_iff_eq, bne_iff_ne, Bool.not_eq_true', decide_eq_false_iff_not, and_true, true_and]; omega))]; rfl
theorem ref_Next_log (lim : Int) (T : List Seg) (x : Seg) (h : T.length ≤ 1000000) : g42 lim (T ++ [x]) = some x.2.1 := by
  unfold g42
  have e : (T ++ [x]).length = T.length + 1 := by simp
  rw [e, show IntKind.i64.wrap (((T.length + 1 : Nat) : Int) - 1) = (T.length : Int) by rw [i64w (by omega) (by omega)]; omega]
  rw [ct (by (simp only [ne_eq, Bool.and_eq_true, Bool.or_eq_true, decide_eq_true_eq, beq_iff_eq, bne_iff_ne, Bool.not_eq_true', decide_eq_false_iff_not, and_true, true_and]; omega)), Int.toNat_natCast, getD_last]
/-! ### segments -/
theorem seg_Append_ok (b nx : Int) (y : List UInt8) (k : Int) (s v : List UInt8) (h : chk nx k s v = 0) (hl : y.length + (rec_ nx k s v).length ≤ 65536) : g31 b nx y k s v = some ((b, nx + 1, y ++ rec_ nx k s v), nx, 0) := by
  have hc := chk_zero.1 h
  unfold g31
  rw [Encode_eq]
  simp only [Option.bind_some, rEnc, if_pos h]
  rw [cf (by simp), cf (by rw [i64w (by omega) (by omega)]; (rw [Bool.eq_false_iff]; simp only [ne_eq, Bool.and_eq_true, Bool.or_eq_true, decide_eq_true_eq, beq_iff_eq, bne_iff_ne, Bool.not_eq_true', decide_eq_false_iff_not, and_true, true_and]; omega)), owned2_eq _ _ (by omega)]
  simp only [Option.bind_some]
  rw [i64w (by omega) (by omega)]
theorem ref_Append_ok (b nx : Int) (y : List UInt8) (k : Int) (s v : List UInt8) (h : chk nx k s v = 0) (hl : y.length + (rec_ nx k s v).length ≤ 65536) : g58 b nx y k s v = some ((b, nx + 1, y ++ rec_ nx k s v), nx, 0) := by
  have hc := chk_zero.1 h
  unfold g58
  rw [ref_Encode_eq]
  simp only [Option.bind_some, rEnc, if_pos h]
  rw [cf (by simp), cf (by rw [i64w (by omega) (by omega)]; (rw [Bool.eq_false_iff]; simp only [ne_eq, Bool.and_eq_true, Bool.or_eq_true, decide_eq_true_eq, beq_iff_eq, bne_iff_ne, Bool.not_eq_true', decide_eq_false_iff_not, and_true, true_and]; omega)), ct (by (simp only [ne_eq, Bool.and_eq_true, Bool.or_eq_true, decide_eq_true_eq, beq_iff_eq, bne_iff_ne, Bool.not_eq_true', decide_eq_false_iff_not, and_true, true_and]; omega)), ct (by simp; omega)]
  rw [i64w (by omega) (by omega)]
  simp
theorem seg_New (n : Int) : g27 n = some (n, n, []) := rfl
theorem ref_New32 (n : Int) : g37 n = some (n, n, []) := rfl
/-! ### Append -/
def lApp (lim f0 : Int) (T : List Seg) (b nx : Int) (y : List UInt8) (k : Int) (s v : List UInt8) : (Int × Int) × List Seg :=
  if chk nx k s v ≠ 0 then ((0, chk nx k s v), T ++ [(b, nx, y)])
  else if nx - f0 ≥ 4096 then ((0, 6), T ++ [(b, nx, y)])
  else if y ≠ [] ∧ (y.length : Int) + ((rec_ nx k s v).length : Int) > lim then ((nx, 0), T ++ [(b, nx, y)] ++ [(nx, nx + 1, rec_ nx k s v)])
  else ((nx, 0), T ++ [(b, nx + 1, y ++ rec_ nx k s v)])
theorem Append_log (lim : Int) (T : List Seg) (b nx : Int) (y : List UInt8) (k : Int) (s v : List UInt8) (hT : T.length ≤ 1000000) (hy : y.length ≤ 65536) (hlim : lim ≤ 65536) (f0 : Int) (hf : ((T ++ [(b, nx, y)]).getD 0 sg0).1 = f0) (h0 : 0 ≤ f0) (h1 : f0 ≤ 2199023255552) :
    g10 lim (T ++ [(b, nx, y)]) k s v = some ((lApp lim f0 T b nx y k s v).1, lim, (lApp lim f0 T b nx y k s v).2) := by
  unfold g10 lApp
  rw [Next_log lim T _ hT]
  simp only [Option.bind_some]
  rw [Check_eq]
  simp only [Option.bind_some]
  by_cases hc : chk nx k s v = 0
  · have hc' := chk_zero.1 hc
    have hr := rec_len hc
    rw [cf (by (rw [Bool.eq_false_iff]; simp only [ne_eq, Bool.and_eq_true, Bool.or_eq_true, decide_eq_true_eq, beq_iff_eq, bne_iff_ne, Bool.not_eq_true', decide_eq_false_iff_not, and_true, true_and]; omega)), Next_log lim T _ hT]
    simp only [Option.bind_some]
    rw [First_eq lim _ (by simp), hf]
    simp only [Option.bind_some]
    rw [i64w (n := nx - f0) (by omega) (by omega), if_neg (by simpa using hc)]
    by_cases hm : nx - f0 ≥ 4096
    · rw [ct (by (simp only [ne_eq, Bool.and_eq_true, Bool.or_eq_true, decide_eq_true_eq, beq_iff_eq, bne_iff_ne, Bool.not_eq_true', decide_eq_false_iff_not, and_true, true_and]; omega)), if_pos hm]
    · rw [cf (by (rw [Bool.eq_false_iff]; simp only [ne_eq, Bool.and_eq_true, Bool.or_eq_true, decide_eq_true_eq, beq_iff_eq, bne_iff_ne, Bool.not_eq_true', decide_eq_false_iff_not, and_true, true_and]; omega)), if_neg hm, last_eq lim T _ hT]
      simp only [Option.bind_some]
      have hlast : (T ++ [((b, nx, y) : Seg)]).length = T.length + 1 := by simp
      have hw : IntKind.i64.wrap (((T.length + 1 : Nat) : Int) - 1) = (T.length : Int) := by rw [i64w (by omega) (by omega)]; omega
      by_cases hy0 : y = []
      · subst hy0
        rw [cf (by simp), seg_Append_ok b nx [] k s v hc (by simp; omega)]
        simp only [Option.bind_some]
        rw [cf (by simp), hlast, hw, ct (by (simp only [ne_eq, Bool.and_eq_true, Bool.or_eq_true, decide_eq_true_eq, beq_iff_eq, bne_iff_ne, Bool.not_eq_true', decide_eq_false_iff_not, and_true, true_and]; omega)), ct (by simp), Int.toNat_natCast, set_last, if_neg (by simp)]
      · have hyl : 0 < y.length := List.length_pos_iff.2 hy0
        rw [ct (by (simp only [ne_eq, Bool.and_eq_true, Bool.or_eq_true, decide_eq_true_eq, beq_iff_eq, bne_iff_ne, Bool.not_eq_true', decide_eq_false_iff_not, and_true, true_and]; omega)), Size_eq]
        simp only [Option.bind_some, rEnc, if_pos hc]
        rw [i64w (n := (y.length : Int) + ((rec_ nx k s v).length : Int)) (by omega) (by omega)]
        by_cases hb : (y.length : Int) + ((rec_ nx k s v).length : Int) > lim
        · rw [ct (by (simp only [ne_eq, Bool.and_eq_true, Bool.or_eq_true, decide_eq_true_eq, beq_iff_eq, bne_iff_ne, Bool.not_eq_true', decide_eq_false_iff_not, and_true, true_and]; omega)), seg_New, if_pos ⟨hy0, hb⟩]
          simp only [Option.bind_some]
          rw [seg_Append_ok nx nx [] k s v hc (by simp; omega)]
          simp only [Option.bind_some]
          rw [cf (by simp), ct (by (simp only [ne_eq, Bool.and_eq_true, Bool.or_eq_true, decide_eq_true_eq, beq_iff_eq, bne_iff_ne, Bool.not_eq_true', decide_eq_false_iff_not, and_true, true_and]; omega)), ct (by simp; omega)]
          simp
        · rw [cf (by (rw [Bool.eq_false_iff]; simp only [ne_eq, Bool.and_eq_true, Bool.or_eq_true, decide_eq_true_eq, beq_iff_eq, bne_iff_ne, Bool.not_eq_true', decide_eq_false_iff_not, and_true, true_and]; omega)), seg_Append_ok b nx y k s v hc (by omega), if_neg (by rintro ⟨_, h⟩; exact hb h)]
          simp only [Option.bind_some]
          rw [cf (by simp), cf (by (rw [Bool.eq_false_iff]; simp only [ne_eq, Bool.and_eq_true, Bool.or_eq_true, decide_eq_true_eq, beq_iff_eq, bne_iff_ne, Bool.not_eq_true', decide_eq_false_iff_not, and_true, true_and]; omega)), hlast, hw, ct (by (simp only [ne_eq, Bool.and_eq_true, Bool.or_eq_true, decide_eq_true_eq, beq_iff_eq, bne_iff_ne, Bool.not_eq_true', decide_eq_false_iff_not, and_true, true_and]; omega)), ct (by simp), Int.toNat_natCast, set_last]
  · rw [ct (by (simp only [ne_eq, Bool.and_eq_true, Bool.or_eq_true, decide_eq_true_eq, beq_iff_eq, bne_iff_ne, Bool.not_eq_true', decide_eq_false_iff_not, and_true, true_and]; omega)), if_pos (by simpa using hc)]
theorem ref_Append_log (lim : Int) (T : List Seg) (b nx : Int) (y : List UInt8) (k : Int) (s v : List UInt8) (hT : T.length ≤ 1000000) (hy : y.length ≤ 65536) (hlim : lim ≤ 65536) (f0 : Int) (hf : ((T ++ [(b, nx, y)]).getD 0 sg0).1 = f0) (h0 : 0 ≤ f0) (h1 : f0 ≤ 2199023255552) :
    g38 lim (T ++ [(b, nx, y)]) k s v = some ((lim, (lApp lim f0 T b nx y k s v).2), (lApp lim f0 T b nx y k s v).1) := by
  unfold g38 lApp
  rw [ref_Next_log lim T _ hT]
  simp only [Option.bind_some]
  rw [ref_Check_eq]
  simp only [Option.bind_some]
  by_cases hc : chk nx k s v = 0
  · have hc' := chk_zero.1 hc
    have hr := rec_len hc
    rw [cf (by (rw [Bool.eq_false_iff]; simp only [ne_eq, Bool.and_eq_true, Bool.or_eq_true, decide_eq_true_eq, beq_iff_eq, bne_iff_ne, Bool.not_eq_true', decide_eq_false_iff_not, and_true, true_and]; omega))]
    rw [ref_First_eq lim _ (by simp), hf]
    simp only [Option.bind_some]
    rw [i64w (n := nx - f0) (by omega) (by omega), if_neg (by simpa using hc)]
    by_cases hm : nx - f0 ≥ 4096
    · rw [ct (by (simp only [ne_eq, Bool.and_eq_true, Bool.or_eq_true, decide_eq_true_eq, beq_iff_eq, bne_iff_ne, Bool.not_eq_true', decide_eq_false_iff_not, and_true, true_and]; omega)), if_pos hm]
    · rw [cf (by (rw [Bool.eq_false_iff]; simp only [ne_eq, Bool.and_eq_true, Bool.or_eq_true, decide_eq_true_eq, beq_iff_eq, bne_iff_ne, Bool.not_eq_true', decide_eq_false_iff_not, and_true, true_and]; omega)), if_neg hm]
      rw [show ([] : List Seg) ++ (T ++ [(b, nx, y)]) = T ++ [(b, nx, y)] from rfl]
      have hlast : (T ++ [((b, nx, y) : Seg)]).length = T.length + 1 := by simp
      have hw : IntKind.i64.wrap (((T.length + 1 : Nat) : Int) - 1) = (T.length : Int) := by rw [i64w (by omega) (by omega)]; omega
      rw [ct (by simp; omega), hlast, hw, ct (by (simp only [ne_eq, Bool.and_eq_true, Bool.or_eq_true, decide_eq_true_eq, beq_iff_eq, bne_iff_ne, Bool.not_eq_true', decide_eq_false_iff_not, and_true, true_and]; omega)), Int.toNat_natCast, ct (by simp), getD_last]
      by_cases hy0 : y = []
      · subst hy0
        rw [cf (by simp), ref_Append_ok b nx [] k s v hc (by simp; omega)]
        simp only [Option.bind_some]
        rw [ct (by (simp only [ne_eq, Bool.and_eq_true, Bool.or_eq_true, decide_eq_true_eq, beq_iff_eq, bne_iff_ne, Bool.not_eq_true', decide_eq_false_iff_not, and_true, true_and]; omega)), ct (by simp), set_last, if_neg (by simp)]
      · have hyl : 0 < y.length := List.length_pos_iff.2 hy0
        rw [ct (by (simp only [ne_eq, Bool.and_eq_true, Bool.or_eq_true, decide_eq_true_eq, beq_iff_eq, bne_iff_ne, Bool.not_eq_true', decide_eq_false_iff_not, and_true, true_and]; omega)), ref_Size_eq]
        simp only [Option.bind_some, rEnc, if_pos hc]
        rw [i64w (n := (y.length : Int) + ((rec_ nx k s v).length : Int)) (by omega) (by omega)]
        by_cases hb : (y.length : Int) + ((rec_ nx k s v).length : Int) > lim
        · rw [ct (by (simp only [ne_eq, Bool.and_eq_true, Bool.or_eq_true, decide_eq_true_eq, beq_iff_eq, bne_iff_ne, Bool.not_eq_true', decide_eq_false_iff_not, and_true, true_and]; omega)), ref_New32, if_pos ⟨hy0, hb⟩]
          simp only [Option.bind_some]
          rw [ct (by (simp only [ne_eq, Bool.and_eq_true, Bool.or_eq_true, decide_eq_true_eq, beq_iff_eq, bne_iff_ne, Bool.not_eq_true', decide_eq_false_iff_not, and_true, true_and]; omega)), ref_Append_ok nx nx [] k s v hc (by simp; omega)]
          simp only [Option.bind_some]
          have hl2 : (T ++ [((b, nx, y) : Seg)] ++ [((nx, nx, []) : Seg)]).length = (T ++ [((b, nx, y) : Seg)]).length + 1 := by simp
          have hw2 : IntKind.i64.wrap ((((T ++ [((b, nx, y) : Seg)]).length + 1 : Nat) : Int) - 1) = ((T ++ [((b, nx, y) : Seg)]).length : Int) := by rw [hlast, i64w (by omega) (by omega)]; omega
          rw [hl2, hw2, ct (by (simp only [ne_eq, Bool.and_eq_true, Bool.or_eq_true, decide_eq_true_eq, beq_iff_eq, bne_iff_ne, Bool.not_eq_true', decide_eq_false_iff_not, and_true, true_and]; omega)), Int.toNat_natCast, ct (by simp), set_last]
          simp
        · rw [cf (by (rw [Bool.eq_false_iff]; simp only [ne_eq, Bool.and_eq_true, Bool.or_eq_true, decide_eq_true_eq, beq_iff_eq, bne_iff_ne, Bool.not_eq_true', decide_eq_false_iff_not, and_true, true_and]; omega)), ref_Append_ok b nx y k s v hc (by omega), if_neg (by rintro ⟨_, h⟩; exact hb h)]
          simp only [Option.bind_some]
          rw [ct (by (simp only [ne_eq, Bool.and_eq_true, Bool.or_eq_true, decide_eq_true_eq, beq_iff_eq, bne_iff_ne, Bool.not_eq_true', decide_eq_false_iff_not, and_true, true_and]; omega)), ct (by simp), set_last]
  · rw [ct (by (simp only [ne_eq, Bool.and_eq_true, Bool.or_eq_true, decide_eq_true_eq, beq_iff_eq, bne_iff_ne, Bool.not_eq_true', decide_eq_false_iff_not, and_true, true_and]; omega)), if_pos (by simpa using hc)]
end Go.Proofs.Ytbncnkchedhnpaa.EVT
/- The log: lists of valid segments; what is read of them. -/
set_option linter.unusedVariables false
set_option linter.unusedSimpArgs false
namespace Go.Proofs.Ytbncnkchedhnpaa.EVT
open Go Go.EV

def sg (o : Int) (L : List RV) : Seg := (o, o + (L.length : Int), segB o L)
def lgS : Int → List (List RV) → List Seg
  | _, [] => []
  | o, L :: Ls => sg o L :: lgS (o + (L.length : Int)) Ls
def lgN : Int → List (List RV) → Int
  | o, [] => o
  | o, L :: Ls => lgN (o + (L.length : Int)) Ls
def lgR : Int → List (List RV) → List Rec
  | _, [] => []
  | o, L :: Ls => recL o L ++ lgR (o + (L.length : Int)) Ls
def lgOk : Int → List (List RV) → Prop
  | _, [] => True
  | o, L :: Ls => 0 ≤ o ∧ o ≤ 1099511627776 ∧ okL o L ∧ (segB o L).length ≤ 65536 ∧ lgOk (o + (L.length : Int)) Ls
theorem lgS_len : ∀ (Ls : List (List RV)) (o : Int), (lgS o Ls).length = Ls.length
  | [], _ => rfl
  | L :: Ls, o => by simp [lgS, lgS_len Ls]
theorem lgS_app : ∀ (Ls Ms : List (List RV)) (o : Int), lgS o (Ls ++ Ms) = lgS o Ls ++ lgS (lgN o Ls) Ms
  | [], Ms, o => rfl
  | L :: Ls, Ms, o => by simp [lgS, lgN, lgS_app Ls Ms]
theorem lgN_app : ∀ (Ls Ms : List (List RV)) (o : Int), lgN o (Ls ++ Ms) = lgN (lgN o Ls) Ms
  | [], Ms, o => rfl
  | L :: Ls, Ms, o => by simp [lgN, lgN_app Ls Ms]
theorem lgOk_app : ∀ (Ls Ms : List (List RV)) (o : Int), lgOk o (Ls ++ Ms) ↔ lgOk o Ls ∧ lgOk (lgN o Ls) Ms
  | [], Ms, o => by simp [lgOk, lgN]
  | L :: Ls, Ms, o => by simp [lgOk, lgN, lgOk_app Ls Ms, and_assoc]
theorem lgR_app : ∀ (Ls Ms : List (List RV)) (o : Int), lgR o (Ls ++ Ms) = lgR o Ls ++ lgR (lgN o Ls) Ms
  | [], Ms, o => rfl
  | L :: Ls, Ms, o => by simp [lgR, lgN, lgR_app Ls Ms]
theorem lgN_le : ∀ (Ls : List (List RV)) (o : Int), o ≤ lgN o Ls
  | [], o => Int.le_refl _
  | L :: Ls, o => by simp only [lgN]; have := lgN_le Ls (o + (L.length : Int)); omega
theorem lgN_len : ∀ (Ls : List (List RV)) (o : Int), lgN o Ls = o + ((lgR o Ls).length : Int)
  | [], o => by simp [lgN, lgR]
  | L :: Ls, o => by simp only [lgN, lgR, List.length_append, recL_len]; rw [lgN_len Ls]; omega
theorem getD_mid {α : Type} (P r : List α) (x d : α) : (P ++ x :: r).getD P.length d = x := by simp [List.getD_eq_getElem?_getD]
/-! ### reading -/
theorem rdR_app (f n : Int) : ∀ (A B acc : List Rec), rdR f n (A ++ B) acc = rdR f n B (rdR f n A acc)
  | [], B, acc => rfl
  | x :: A, B, acc => by
    simp only [List.cons_append, rdR]
    split
    · split <;> exact rdR_app f n A B _
    · exact rdR_app f n A B _
theorem rdR_filter (f n : Int) : ∀ (A acc : List Rec), rdR f n A acc = rdR f n (A.filter (fun x => decide (x.1 ≥ f))) acc
  | [], acc => rfl
  | x :: A, acc => by
    rw [List.filter_cons]
    by_cases h : x.1 ≥ f
    · rw [if_pos (decide_eq_true h)]
      simp only [rdR, if_pos h]
      split <;> exact rdR_filter f n A _
    · rw [if_neg (by simpa using h)]
      simp only [rdR, if_neg h]
      exact rdR_filter f n A acc
theorem rdR_cap (f n : Int) (A acc : List Rec) : rdR f n A acc = acc ++ (A.filter (fun x => decide (x.1 ≥ f))).take (n - (acc.length : Int)).toNat := by
  rw [rdR_filter]
  exact rdR_take f n _ acc (fun x hx => by simpa using (List.mem_filter.1 hx).2)
theorem rdR_twice (f n : Int) (A acc : List Rec) : rdR f n (rdR f n A []) acc = rdR f n A acc := by
  have e1 := rdR_cap f n A []
  rw [e1, List.nil_append, rdR_take, rdR_cap f n A acc, List.take_take]
  · congr 2
    simp
  · intro x hx
    simpa using (List.mem_filter.1 (List.mem_of_mem_take hx)).2
theorem rdR_ge (f n : Int) (A : List Rec) : ∀ x ∈ rdR f n A [], x.1 ≥ f := by
  intro x hx
  rw [rdR_cap, List.nil_append] at hx
  simpa using (List.mem_filter.1 (List.mem_of_mem_take hx)).2
theorem rdR_none (f n : Int) : ∀ (A acc : List Rec), (∀ x ∈ A, ¬ x.1 ≥ f) → rdR f n A acc = acc
  | [], acc, _ => rfl
  | x :: A, acc, h => by
    simp only [rdR, if_neg (h x (by simp))]
    exact rdR_none f n A acc (fun y hy => h y (by simp [hy]))
theorem recL_off : ∀ (L : List RV) (o : Int), ∀ x ∈ recL o L, o ≤ x.1 ∧ x.1 < o + (L.length : Int)
  | [], o, x, h => by simp [recL] at h
  | (n, s, v) :: L, o, x, h => by
    simp only [recL, List.mem_cons] at h
    simp only [List.length_cons]
    rcases h with rfl | h
    · simp only; omega
    · have := recL_off L (o + 1) x h
      omega
/-- The records of a segment, one after the other. -/
theorem rd_in (lim f n : Int) (S : List Seg) (a b : Int) (V : List Rec) (hV : V.length ≤ 100000) (hf : ∀ x ∈ V, x.1 ≥ f) : ∀ (d j k : Nat) (acc : List Rec), j + d = V.length → acc.length + d ≤ 2147483647 → d < k →
    (loopN st14_1 k ((f, n, a, b, V, (V.length : Int), (j : Int)), S, acc, lim, ()) = some (.inl ((), rdR f n (V.drop j) acc, (lim, ()), S)) ∧ ¬ ((rdR f n (V.drop j) acc).length : Int) < n) ∨
    loopN st14_1 k ((f, n, a, b, V, (V.length : Int), (j : Int)), S, acc, lim, ()) = some (.inr (.inl ((f, n, a, b), S, rdR f n (V.drop j) acc, lim, ()))) := by
  intro d
  induction d with
  | zero =>
    intro j k acc hj ha hd
    cases k with
    | zero => omega
    | succ k =>
      refine .inr ?_
      rw [loopN_s]; generalize loopN st14_1 k = LL at *; dsimp only [st14_1]
      rw [cf (by (rw [Bool.eq_false_iff]; simp only [ne_eq, Bool.and_eq_true, Bool.or_eq_true, decide_eq_true_eq, beq_iff_eq, bne_iff_ne, Bool.not_eq_true', decide_eq_false_iff_not, and_true, true_and]; omega)), List.drop_of_length_le (by omega)]; rfl
  | succ d ih =>
    intro j k acc hj ha hd
    cases k with
    | zero => omega
    | succ k =>
      have ih' := fun acc a => ih (j + 1) k acc (by omega) a (by omega)
      rw [loopN_s]; generalize loopN st14_1 k = LL at ih' ⊢; dsimp only [st14_1]
      have hat : V.getD j (0, 0, [], []) = V[j] := getD_at _ (by omega)
      have hdr : V.drop j = V[j] :: V.drop (j + 1) := List.drop_eq_getElem_cons (by omega)
      have hx : (V[j]).1 ≥ f := hf _ (List.getElem_mem _)
      rw [ct (by (simp only [ne_eq, Bool.and_eq_true, Bool.or_eq_true, decide_eq_true_eq, beq_iff_eq, bne_iff_ne, Bool.not_eq_true', decide_eq_false_iff_not, and_true, true_and]; omega)), ct (by (simp only [ne_eq, Bool.and_eq_true, Bool.or_eq_true, decide_eq_true_eq, beq_iff_eq, bne_iff_ne, Bool.not_eq_true', decide_eq_false_iff_not, and_true, true_and]; omega)), Int.toNat_natCast, hat, hdr, i64w (n := (j : Int) + 1) (by omega) (by omega)]
      generalize V[j] = x at *
      by_cases hn : (acc.length : Int) < n
      · rw [cf (decide_eq_false (show ¬ ((List.length acc : Nat) : Int) ≥ n by omega)), ct (decide_eq_true (show List.length acc + 1 ≤ 2147483647 by omega))]
        have e : rdR f n (x :: V.drop (j + 1)) acc = rdR f n (V.drop (j + 1)) (acc ++ [x]) := by simp only [rdR, if_pos hx, if_pos hn]
        rw [e]
        exact ih' (acc ++ [x]) (by rw [List.length_append]; simp only [List.length_cons, List.length_nil]; omega)
      · rw [ct (decide_eq_true (show ((List.length acc : Nat) : Int) ≥ n by omega)), rdR_full f n _ acc hn]
        exact .inl ⟨rfl, hn⟩
theorem rd_out (lim f n : Int) (N : Nat) (hN : N ≤ 1000000) : ∀ (Ls : List (List RV)) (o : Int) (P : List Seg) (k : Nat) (acc : List Rec), lgOk o Ls → P.length + Ls.length = N → acc.length + (lgR o Ls).length ≤ 2147483647 → Ls.length < k →
    loopN st14_0 k ((f, n, (N : Int), (P.length : Int)), acc, P ++ lgS o Ls, lim, ()) = some (.inl ((), rdR f n (lgR o Ls) acc, (lim, ()), P ++ lgS o Ls)) := by
  intro Ls
  induction Ls with
  | nil =>
    intro o P k acc hok hP ha hd
    cases k with
    | zero => simp at hd
    | succ k =>
      simp only [List.length_nil] at hP
      rw [loopN_s]; generalize loopN st14_0 k = LL at *; dsimp only [st14_0]
      rw [cf (by (rw [Bool.eq_false_iff]; simp only [ne_eq, Bool.and_eq_true, Bool.or_eq_true, decide_eq_true_eq, beq_iff_eq, bne_iff_ne, Bool.not_eq_true', decide_eq_false_iff_not, and_true, true_and]; omega))]; rfl
  | cons L Ls ih =>
    intro o P k acc hok hP ha hd
    cases k with
    | zero => simp at hd
    | succ k =>
      obtain ⟨o0, o1, hk, hb, hok'⟩ := hok
      simp only [List.length_cons] at hP hd
      simp only [lgR, List.length_append, recL_len] at ha
      have hL := segB_len L o hk
      have ih' := fun acc a => ih (o + (L.length : Int)) (P ++ [sg o L]) k acc hok' (by simp; omega) a (by omega)
      have eS : P ++ [sg o L] ++ lgS (o + (L.length : Int)) Ls = P ++ lgS o (L :: Ls) := by simp [lgS]
      have eP : ((P ++ [sg o L]).length : Int) = (P.length : Int) + 1 := by simp
      rw [eS, eP] at ih'
      rw [loopN_s]; generalize loopN st14_0 k = LL at ih' ⊢; dsimp only [st14_0]
      have hlen : (P ++ lgS o (L :: Ls)).length = N := by simp [lgS_len]; omega
      have hat : (P ++ lgS o (L :: Ls)).getD P.length (0, 0, []) = sg o L := getD_mid P _ _ _
      rw [ct (by (simp only [ne_eq, Bool.and_eq_true, Bool.or_eq_true, decide_eq_true_eq, beq_iff_eq, bne_iff_ne, Bool.not_eq_true', decide_eq_false_iff_not, and_true, true_and]; omega)), ct (by rw [hlen]; (simp only [ne_eq, Bool.and_eq_true, Bool.or_eq_true, decide_eq_true_eq, beq_iff_eq, bne_iff_ne, Bool.not_eq_true', decide_eq_false_iff_not, and_true, true_and]; omega)), Int.toNat_natCast, hat, ct (by rw [hlen]; (simp only [ne_eq, Bool.and_eq_true, Bool.or_eq_true, decide_eq_true_eq, beq_iff_eq, bne_iff_ne, Bool.not_eq_true', decide_eq_false_iff_not, and_true, true_and]; omega)), i64w (n := (P.length : Int) + 1) (by omega) (by omega)]
      simp only [lgR, rdR_app]
      by_cases hq : o + (L.length : Int) ≤ f
      · rw [ct (decide_eq_true (show (sg o L).2.1 ≤ f from hq))]
        rw [rdR_none f n (recL o L) acc (fun x hx => by have := recL_off L o x hx; omega)]
        exact ih' acc (by omega)
      · rw [cf (decide_eq_false (show ¬ (sg o L).2.1 ≤ f from hq))]
        show Option.bind (g33 o (o + (L.length : Int)) (segB o L) 16) _ = _
        rw [Build_eq hk rfl hb]
        simp only [Option.bind_some]
        show Option.bind (g32 o (o + (L.length : Int)) (segB o L) _ f n) _ = _
        have hbl := bldM_len (evr 16) o L L.length
        rw [Read_eq hk rfl hb _ f n (by omega) (bld_good (evr 16) o L)]
        simp only [Option.bind_some]
        have hvl := rdR_len f n (recL o L) []
        rw [recL_len] at hvl
        simp only [List.length_nil, Nat.zero_add] at hvl
        have hin := rd_in lim f n (P ++ lgS o (L :: Ls)) (N : Int) (P.length : Int) (rdR f n (recL o L) []) (by omega) (rdR_ge f n _) (rdR f n (recL o L) []).length 0 fuel acc (by omega) (by omega) (by rw [fuel_eq]; omega)
        rw [List.drop_zero, rdR_twice] at hin
        have hal := rdR_len f n (recL o L) acc
        rw [recL_len] at hal
        rcases hin with ⟨h1, h2⟩ | h1
        · have h1' : h14_1 ((f, n, (N : Int), (P.length : Int), rdR f n (recL o L) [], ((rdR f n (recL o L) []).length : Int), 0), P ++ lgS o (L :: Ls), acc, lim, ()) = _ := h1
          rw [h1']
          simp only [Option.bind_some]
          rw [rdR_full f n _ _ h2]
        · have h1' : h14_1 ((f, n, (N : Int), (P.length : Int), rdR f n (recL o L) [], ((rdR f n (recL o L) []).length : Int), 0), P ++ lgS o (L :: Ls), acc, lim, ()) = _ := h1
          rw [h1']
          simp only [Option.bind_some]
          rw [i64w (n := (P.length : Int) + 1) (by omega) (by omega)]
          exact ih' _ (by omega)
def lRead (o : Int) (Ls : List (List RV)) (f n : Int) : List Rec × Int := if f < o ∨ f > lgN o Ls then ([], 1) else (rdR f n (lgR o Ls) [], 0)
theorem snoc {α : Type} {l : List α} (h : l ≠ []) : ∃ m x, l = m ++ [x] := ⟨l.dropLast, l.getLast h, (List.dropLast_concat_getLast h).symm⟩
theorem lgS_snoc (o : Int) (Ms : List (List RV)) (M : List RV) : lgS o (Ms ++ [M]) = lgS o Ms ++ [sg (lgN o Ms) M] := by rw [lgS_app]; rfl
theorem lgS_head (o : Int) {Ls : List (List RV)} (h : Ls ≠ []) : ((lgS o Ls).getD 0 sg0).1 = o := by
  cases Ls with
  | nil => exact absurd rfl h
  | cons L Ls => rfl
theorem First_log (lim o : Int) {Ls : List (List RV)} (h : Ls ≠ []) : g12 lim (lgS o Ls) = some (o, lim, lgS o Ls) := by
  rw [First_eq lim _ (by rw [lgS_len]; exact List.length_pos_iff.2 h), lgS_head o h]
theorem Next_lg (lim o : Int) {Ls : List (List RV)} (h : Ls ≠ []) (hl : Ls.length ≤ 1000000) : g13 lim (lgS o Ls) = some (lgN o Ls, lim, lgS o Ls) := by
  obtain ⟨Ms, M, rfl⟩ := snoc h
  rw [List.length_append] at hl
  rw [lgS_snoc, Next_log lim _ _ (by rw [lgS_len]; omega), lgN_app]
  rfl
theorem ref_First_lg (lim o : Int) {Ls : List (List RV)} (h : Ls ≠ []) : g41 lim (lgS o Ls) = some o := by
  rw [ref_First_eq lim _ (by rw [lgS_len]; exact List.length_pos_iff.2 h), lgS_head o h]
theorem ref_Next_lg (lim o : Int) {Ls : List (List RV)} (h : Ls ≠ []) (hl : Ls.length ≤ 1000000) : g42 lim (lgS o Ls) = some (lgN o Ls) := by
  obtain ⟨Ms, M, rfl⟩ := snoc h
  rw [List.length_append] at hl
  rw [lgS_snoc, ref_Next_log lim _ _ (by rw [lgS_len]; omega), lgN_app]
  rfl
theorem Read_log (lim o : Int) {Ls : List (List RV)} (f n : Int) (h : Ls ≠ []) (hok : lgOk o Ls) (hl : Ls.length ≤ 1000000) (hr : (lgR o Ls).length ≤ 2147483647) : g14 lim (lgS o Ls) f n = some (lRead o Ls f n, lim, lgS o Ls) := by
  unfold g14 lRead
  rw [First_log lim o h]
  simp only [Option.bind_some]
  by_cases h1 : f < o
  · rw [ct (by (simp only [ne_eq, Bool.and_eq_true, Bool.or_eq_true, decide_eq_true_eq, beq_iff_eq, bne_iff_ne, Bool.not_eq_true', decide_eq_false_iff_not, and_true, true_and]; omega)), if_pos (.inl h1)]
  · rw [cf (by (rw [Bool.eq_false_iff]; simp only [ne_eq, Bool.and_eq_true, Bool.or_eq_true, decide_eq_true_eq, beq_iff_eq, bne_iff_ne, Bool.not_eq_true', decide_eq_false_iff_not, and_true, true_and]; omega)), Next_lg lim o h hl]
    simp only [Option.bind_some]
    by_cases h2 : f > lgN o Ls
    · rw [ct (by (simp only [ne_eq, Bool.and_eq_true, Bool.or_eq_true, decide_eq_true_eq, beq_iff_eq, bne_iff_ne, Bool.not_eq_true', decide_eq_false_iff_not, and_true, true_and]; omega)), if_pos (.inr h2)]
    · rw [cf (by (rw [Bool.eq_false_iff]; simp only [ne_eq, Bool.and_eq_true, Bool.or_eq_true, decide_eq_true_eq, beq_iff_eq, bne_iff_ne, Bool.not_eq_true', decide_eq_false_iff_not, and_true, true_and]; omega)), if_neg (by omega)]
      have := rd_out lim f n Ls.length hl Ls o [] fuel [] hok (by simp) (by simpa using hr) (by rw [fuel_eq]; omega)
      have this' : h14_0 ((f, n, (Ls.length : Int), 0), [], lgS o Ls, lim, ()) = _ := this
      rw [lgS_len, this']
      rfl
/-! ### the reference's -/
theorem ref_recs_loop (lim : Int) (N : Nat) (hN : N ≤ 1000000) : ∀ (Ls : List (List RV)) (o : Int) (P : List Seg) (k : Nat) (acc : List Rec), lgOk o Ls → P.length + Ls.length = N → acc.length + (lgR o Ls).length ≤ 2147483647 → Ls.length < k →
    loopN st45_0 k ((P.length : Int), acc, lim, P ++ lgS o Ls) = some (.inl ((), acc ++ lgR o Ls)) := by
  intro Ls
  induction Ls with
  | nil =>
    intro o P k acc hok hP ha hd
    cases k with
    | zero => simp at hd
    | succ k =>
      simp only [List.length_nil] at hP
      rw [loopN_s]; generalize loopN st45_0 k = LL at *; dsimp only [st45_0]
      rw [cf (by simp [lgS])]; simp [lgR]
  | cons L Ls ih =>
    intro o P k acc hok hP ha hd
    cases k with
    | zero => simp at hd
    | succ k =>
      obtain ⟨o0, o1, hk, hb, hok'⟩ := hok
      simp only [List.length_cons] at hP hd
      simp only [lgR, List.length_append, recL_len] at ha
      have ih' := fun acc a => ih (o + (L.length : Int)) (P ++ [sg o L]) k acc hok' (by simp; omega) a (by omega)
      have eS : P ++ [sg o L] ++ lgS (o + (L.length : Int)) Ls = P ++ lgS o (L :: Ls) := by simp [lgS]
      have eP : ((P ++ [sg o L]).length : Int) = (P.length : Int) + 1 := by simp
      rw [eS, eP] at ih'
      rw [loopN_s]; generalize loopN st45_0 k = LL at ih' ⊢; dsimp only [st45_0]
      have hlen : (P ++ lgS o (L :: Ls)).length = N := by simp [lgS_len]; omega
      have hat : (P ++ lgS o (L :: Ls)).getD P.length (0, 0, []) = sg o L := getD_mid P _ _ _
      rw [ct (by rw [hlen]; (simp only [ne_eq, Bool.and_eq_true, Bool.or_eq_true, decide_eq_true_eq, beq_iff_eq, bne_iff_ne, Bool.not_eq_true', decide_eq_false_iff_not, and_true, true_and]; omega)), ct (by rw [hlen]; (simp only [ne_eq, Bool.and_eq_true, Bool.or_eq_true, decide_eq_true_eq, beq_iff_eq, bne_iff_ne, Bool.not_eq_true', decide_eq_false_iff_not, and_true, true_and]; omega)), Int.toNat_natCast, hat, i64w (n := (P.length : Int) + 1) (by omega) (by omega)]
      show Option.bind (g18 o (o + (L.length : Int)) (segB o L)) _ = _
      rw [ref_Records_eq hk rfl hb]
      simp only [Option.bind_some]
      rw [ct (by rw [recL_len]; (simp only [ne_eq, Bool.and_eq_true, Bool.or_eq_true, decide_eq_true_eq, beq_iff_eq, bne_iff_ne, Bool.not_eq_true', decide_eq_false_iff_not, and_true, true_and]; omega)), ih' _ (by rw [List.length_append, recL_len]; omega)]
      simp [lgR]
theorem ref_Records_lg (lim o : Int) {Ls : List (List RV)} (hok : lgOk o Ls) (hl : Ls.length ≤ 1000000) (hr : (lgR o Ls).length ≤ 2147483647) : g45 lim (lgS o Ls) = some (lgR o Ls) := by
  have := ref_recs_loop lim Ls.length hl Ls o [] fuel [] hok (by simp) (by simpa using hr) (by rw [fuel_eq]; omega)
  unfold g45 h45_0
  have this' : loopN st45_0 fuel (0, [], lim, lgS o Ls) = _ := this
  rw [this']
  rfl
theorem ref_rdL_loop (R : List Rec) (f n : Int) (hR : R.length ≤ 2147483647) : ∀ (d j k : Nat) (acc : List Rec), j + d = R.length → acc.length + d ≤ 2147483647 → d < k →
    loopN st25_0 k ((f, n, R, (j : Int)), acc) = some (.inl ((), rdR f n (R.drop j) acc)) := by
  intro d
  induction d with
  | zero =>
    intro j k acc hj ha hd
    cases k with
    | zero => omega
    | succ k =>
      rw [loopN_s]; generalize loopN st25_0 k = LL at *; dsimp only [st25_0]
      rw [cf (by (rw [Bool.eq_false_iff]; simp only [ne_eq, Bool.and_eq_true, Bool.or_eq_true, decide_eq_true_eq, beq_iff_eq, bne_iff_ne, Bool.not_eq_true', decide_eq_false_iff_not, and_true, true_and]; omega)), List.drop_of_length_le (by omega)]; rfl
  | succ d ih =>
    intro j k acc hj ha hd
    cases k with
    | zero => omega
    | succ k =>
      have ih' := fun acc a => ih (j + 1) k acc (by omega) a (by omega)
      rw [loopN_s]; generalize loopN st25_0 k = LL at ih' ⊢; dsimp only [st25_0]
      have hat : R.getD j (0, 0, [], []) = R[j] := getD_at _ (by omega)
      have hdr : R.drop j = R[j] :: R.drop (j + 1) := List.drop_eq_getElem_cons (by omega)
      rw [ct (by (simp only [ne_eq, Bool.and_eq_true, Bool.or_eq_true, decide_eq_true_eq, beq_iff_eq, bne_iff_ne, Bool.not_eq_true', decide_eq_false_iff_not, and_true, true_and]; omega)), ct (by (simp only [ne_eq, Bool.and_eq_true, Bool.or_eq_true, decide_eq_true_eq, beq_iff_eq, bne_iff_ne, Bool.not_eq_true', decide_eq_false_iff_not, and_true, true_and]; omega)), Int.toNat_natCast, hat, hdr, i64w (n := (j : Int) + 1) (by omega) (by omega)]
      generalize R[j] = x
      unfold rdR
      by_cases hf : x.1 ≥ f
      · rw [ct (decide_eq_true (show x.1 ≥ f from hf)), if_pos hf]
        by_cases hn : (acc.length : Int) < n
        · rw [ct (decide_eq_true (show ((List.length acc : Nat) : Int) < n from hn)), ct (by (simp only [ne_eq, Bool.and_eq_true, Bool.or_eq_true, decide_eq_true_eq, beq_iff_eq, bne_iff_ne, Bool.not_eq_true', decide_eq_false_iff_not, and_true, true_and]; omega)), ct (decide_eq_true (show List.length acc + 1 ≤ 2147483647 by omega)), if_pos hn]
          exact ih' (acc ++ [x]) (by rw [List.length_append]; simp only [List.length_cons, List.length_nil]; omega)
        · rw [cf (decide_eq_false (show ¬ ((List.length acc : Nat) : Int) < n from hn)), if_neg hn]
          exact ih' _ (by omega)
      · rw [cf (decide_eq_false (show ¬ x.1 ≥ f from hf)), if_neg hf]
        exact ih' _ (by omega)
theorem ref_Read_lg (lim o : Int) {Ls : List (List RV)} (f n : Int) (h : Ls ≠ []) (hok : lgOk o Ls) (hl : Ls.length ≤ 1000000) (hr : (lgR o Ls).length ≤ 2147483647) : g25 lim (lgS o Ls) f n = some (lRead o Ls f n) := by
  unfold g25 lRead
  rw [ref_First_lg lim o h]
  simp only [Option.bind_some]
  by_cases h1 : f < o
  · rw [ct (by (simp only [ne_eq, Bool.and_eq_true, Bool.or_eq_true, decide_eq_true_eq, beq_iff_eq, bne_iff_ne, Bool.not_eq_true', decide_eq_false_iff_not, and_true, true_and]; omega)), if_pos (.inl h1)]
  · rw [cf (by (rw [Bool.eq_false_iff]; simp only [ne_eq, Bool.and_eq_true, Bool.or_eq_true, decide_eq_true_eq, beq_iff_eq, bne_iff_ne, Bool.not_eq_true', decide_eq_false_iff_not, and_true, true_and]; omega)), ref_Next_lg lim o h hl]
    simp only [Option.bind_some]
    by_cases h2 : f > lgN o Ls
    · rw [ct (by (simp only [ne_eq, Bool.and_eq_true, Bool.or_eq_true, decide_eq_true_eq, beq_iff_eq, bne_iff_ne, Bool.not_eq_true', decide_eq_false_iff_not, and_true, true_and]; omega)), if_pos (.inr h2)]
    · rw [cf (by (rw [Bool.eq_false_iff]; simp only [ne_eq, Bool.and_eq_true, Bool.or_eq_true, decide_eq_true_eq, beq_iff_eq, bne_iff_ne, Bool.not_eq_true', decide_eq_false_iff_not, and_true, true_and]; omega)), if_neg (by omega), ref_Records_lg lim o hok hl hr]
      simp only [Option.bind_some]
      have := ref_rdL_loop (lgR o Ls) f n hr (lgR o Ls).length 0 fuel [] (by omega) (by simpa using hr) (by rw [fuel_eq]; omega)
      have this' : h25_0 ((f, n, lgR o Ls, 0), []) = _ := this
      rw [this', List.drop_zero]
      rfl
/-! ### Segments, SameAll -/
theorem copied_eq (x : Seg) (h : x.2.2.length ≤ 2147483647) : g34 x.1 x.2.1 x.2.2 = some x := by
  unfold g34
  rw [ct (by (simp only [ne_eq, Bool.and_eq_true, Bool.or_eq_true, decide_eq_true_eq, beq_iff_eq, bne_iff_ne, Bool.not_eq_true', decide_eq_false_iff_not, and_true, true_and]; omega))]; simp
theorem segs_loop (lim : Int) (S : List Seg) (hS : S.length ≤ 1000000) (hb : ∀ x ∈ S, x.2.2.length ≤ 2147483647) : ∀ (d j k : Nat) (acc : List Seg), j + d = S.length → acc.length = j → d < k →
    loopN st16_0 k (((S.length : Int), (j : Int)), acc, S, lim, ()) = some (.inl ((), acc ++ S.drop j, (lim, ()), S)) := by
  intro d
  induction d with
  | zero =>
    intro j k acc hj ha hd
    cases k with
    | zero => omega
    | succ k =>
      rw [loopN_s]; generalize loopN st16_0 k = LL at *; dsimp only [st16_0]
      rw [cf (by (rw [Bool.eq_false_iff]; simp only [ne_eq, Bool.and_eq_true, Bool.or_eq_true, decide_eq_true_eq, beq_iff_eq, bne_iff_ne, Bool.not_eq_true', decide_eq_false_iff_not, and_true, true_and]; omega)), List.drop_of_length_le (by omega), List.append_nil]
  | succ d ih =>
    intro j k acc hj ha hd
    cases k with
    | zero => omega
    | succ k =>
      have ih' := fun acc a => ih (j + 1) k acc (by omega) a (by omega)
      rw [loopN_s]; generalize loopN st16_0 k = LL at ih' ⊢; dsimp only [st16_0]
      have hat : S.getD j (0, 0, []) = S[j] := getD_at _ (by omega)
      have hdr : S.drop j = S[j] :: S.drop (j + 1) := List.drop_eq_getElem_cons (by omega)
      have hx := hb S[j] (List.getElem_mem _)
      rw [ct (by (simp only [ne_eq, Bool.and_eq_true, Bool.or_eq_true, decide_eq_true_eq, beq_iff_eq, bne_iff_ne, Bool.not_eq_true', decide_eq_false_iff_not, and_true, true_and]; omega)), ct (by (simp only [ne_eq, Bool.and_eq_true, Bool.or_eq_true, decide_eq_true_eq, beq_iff_eq, bne_iff_ne, Bool.not_eq_true', decide_eq_false_iff_not, and_true, true_and]; omega)), Int.toNat_natCast, ct (decide_eq_true (by omega)), hat, hdr, copied_eq _ hx, i64w (n := (j : Int) + 1) (by omega) (by omega)]
      simp only [Option.bind_some]
      rw [ct (by (simp only [ne_eq, Bool.and_eq_true, Bool.or_eq_true, decide_eq_true_eq, beq_iff_eq, bne_iff_ne, Bool.not_eq_true', decide_eq_false_iff_not, and_true, true_and]; omega))]
      have := ih' (acc ++ [S[j]]) (by simp; omega)
      exact this.trans (by simp)
theorem Segments_eq (lim : Int) (S : List Seg) (hS : S.length ≤ 1000000) (hb : ∀ x ∈ S, x.2.2.length ≤ 2147483647) : g16 lim S = some (S, lim, S) := by
  have := segs_loop lim S hS hb S.length 0 fuel [] (by omega) rfl (by rw [fuel_eq]; omega)
  unfold g16 h16_0
  have this' : loopN st16_0 fuel (((S.length : Int), 0), [], S, lim, ()) = _ := this
  rw [this']
  rfl
theorem sameA_loop (S : List Seg) (hS : S.length ≤ 1000000) : ∀ (d j k : Nat), j + d = S.length → d < k →
    loopN st43_0 k ((S, S, (j : Int)), ()) = some (.inl ((), ())) := by
  intro d
  induction d with
  | zero =>
    intro j k hj hd
    cases k with
    | zero => omega
    | succ k =>
      rw [loopN_s]; generalize loopN st43_0 k = LL at *; dsimp only [st43_0]
      rw [cf (by (rw [Bool.eq_false_iff]; simp only [ne_eq, Bool.and_eq_true, Bool.or_eq_true, decide_eq_true_eq, beq_iff_eq, bne_iff_ne, Bool.not_eq_true', decide_eq_false_iff_not, and_true, true_and]; omega))]
  | succ d ih =>
    intro j k hj hd
    cases k with
    | zero => omega
    | succ k =>
      have ih' := ih (j + 1) k (by omega) (by omega)
      rw [loopN_s]; generalize loopN st43_0 k = LL at ih' ⊢; dsimp only [st43_0]
      rw [ct (by (simp only [ne_eq, Bool.and_eq_true, Bool.or_eq_true, decide_eq_true_eq, beq_iff_eq, bne_iff_ne, Bool.not_eq_true', decide_eq_false_iff_not, and_true, true_and]; omega)), ct (by (simp only [ne_eq, Bool.and_eq_true, Bool.or_eq_true, decide_eq_true_eq, beq_iff_eq, bne_iff_ne, Bool.not_eq_true', decide_eq_false_iff_not, and_true, true_and]; omega)), ct (by (simp only [ne_eq, Bool.and_eq_true, Bool.or_eq_true, decide_eq_true_eq, beq_iff_eq, bne_iff_ne, Bool.not_eq_true', decide_eq_false_iff_not, and_true, true_and]; omega)), Same_self, i64w (n := (j : Int) + 1) (by omega) (by omega)]
      simp only [Option.bind_some]
      rw [cf (by simp)]
      exact ih'
theorem SameAll_eq (S : List Seg) (hS : S.length ≤ 1000000) : g43 S S = some true := by
  have := sameA_loop S hS S.length 0 fuel (by omega) (by rw [fuel_eq]; omega)
  unfold g43 h43_0
  have this' : loopN st43_0 fuel ((S, S, 0), ()) = _ := this
  rw [cf (by simp), this']
  rfl
theorem lgOk_bytes : ∀ (Ls : List (List RV)) (o : Int), lgOk o Ls → ∀ x ∈ lgS o Ls, x.2.2.length ≤ 65536
  | [], o, _, x, h => by simp [lgS] at h
  | L :: Ls, o, hok, x, h => by
    simp only [lgS, List.mem_cons] at h
    rcases h with rfl | h
    · exact hok.2.2.2.1
    · exact lgOk_bytes Ls _ hok.2.2.2.2 x h
end Go.Proofs.Ytbncnkchedhnpaa.EVT
/- The log: Drop, Cut. -/
set_option linter.unusedVariables false
set_option linter.unusedSimpArgs false
namespace Go.Proofs.Ytbncnkchedhnpaa.EVT
open Go Go.EV

theorem sg_nil (o : Int) : sg o [] = (o, o, []) := by simp [sg, segB]
theorem segB_pos {o : Int} {L : List RV} (hk : okL o L) : 0 < (segB o L).length ↔ L ≠ [] := by
  constructor
  · rintro h rfl; simp [segB] at h
  · intro h
    have := segB_len L o hk
    have := List.length_pos_iff.2 h
    omega
theorem lgOk_cons {o : Int} {L : List RV} {Ls : List (List RV)} (h : lgOk o (L :: Ls)) : 0 ≤ o ∧ o ≤ 1099511627776 ∧ okL o L ∧ (segB o L).length ≤ 65536 ∧ L.length ≤ 6553 ∧ lgOk (o + (L.length : Int)) Ls := by
  obtain ⟨h1, h2, h3, h4, h5⟩ := h
  have := segB_len L o h3
  exact ⟨h1, h2, h3, h4, by omega, h5⟩
/-! ### Drop -/
def lgDrp (b : Int) : Int → List (List RV) → Int → Int × Int × List (List RV)
  | o, [], c => (c, o, [])
  | o, L :: Ls, c => if L ≠ [] ∧ o + (L.length : Int) ≤ b then lgDrp b (o + (L.length : Int)) Ls (c + (L.length : Int)) else (c, o, L :: Ls)
theorem drp_loop (lim b nx : Int) : ∀ (Ls : List (List RV)) (o c : Int) (k : Nat), lgOk o Ls → Ls.length < k → Ls.length ≤ 1000000 → 0 ≤ c → c + (Ls.length : Int) * 6553 ≤ 9000000000000 →
    loopN st11_0 k ((b, nx, c), lgS o Ls, lim, ()) = some (.inl ((nx, (lgDrp b o Ls c).1), (lim, ()), lgS (lgDrp b o Ls c).2.1 (lgDrp b o Ls c).2.2)) := by
  intro Ls
  induction Ls with
  | nil =>
    intro o c k hok hd hl h0 h1
    cases k with
    | zero => simp at hd
    | succ k =>
      rw [loopN_s]; generalize loopN st11_0 k = LL at *; dsimp only [st11_0]
      rw [cf (by simp [lgS])]; rfl
  | cons L Ls ih =>
    intro o c k hok hd hl h0 h1
    cases k with
    | zero => simp at hd
    | succ k =>
      obtain ⟨o0, o1, hk, hb, hL, hok'⟩ := lgOk_cons hok
      simp only [List.length_cons] at hd hl h1
      have ih' := ih (o + (L.length : Int)) (c + (L.length : Int)) k hok' (by omega) (by omega) (by omega) (by omega)
      rw [loopN_s]; generalize loopN st11_0 k = LL at ih' ⊢; dsimp only [st11_0]
      have hlen : (lgS o (L :: Ls)).length = Ls.length + 1 := by rw [lgS_len]; rfl
      have hat : (lgS o (L :: Ls)).getD (Int.toNat 0) (0, 0, []) = sg o L := rfl
      rw [hat, hlen, ct (by (simp only [ne_eq, Bool.and_eq_true, Bool.or_eq_true, decide_eq_true_eq, beq_iff_eq, bne_iff_ne, Bool.not_eq_true', decide_eq_false_iff_not, and_true, true_and]; omega)), ct (by (simp only [ne_eq, Bool.and_eq_true, Bool.or_eq_true, decide_eq_true_eq, beq_iff_eq, bne_iff_ne, Bool.not_eq_true', decide_eq_false_iff_not, and_true, true_and]; omega)), ct (by simp)]
      by_cases hne : L = []
      · rw [cf (by subst hne; simp [sg, segB])]
        simp only [lgDrp, if_neg (show ¬ (L ≠ [] ∧ o + (L.length : Int) ≤ b) by simp [hne])]
      · have hp := (segB_pos hk).2 hne
        rw [ct (decide_eq_true (show (((sg o L).2.2.length : Nat) : Int) > 0 by show ((segB o L).length : Int) > 0; omega)), ct (by (simp only [ne_eq, Bool.and_eq_true, Bool.or_eq_true, decide_eq_true_eq, beq_iff_eq, bne_iff_ne, Bool.not_eq_true', decide_eq_false_iff_not, and_true, true_and]; omega)), ct (by simp)]
        by_cases hq : o + (L.length : Int) ≤ b
        · rw [ct (decide_eq_true (show (sg o L).2.1 ≤ b from hq)), ct (by (simp only [ne_eq, Bool.and_eq_true, Bool.or_eq_true, decide_eq_true_eq, beq_iff_eq, bne_iff_ne, Bool.not_eq_true', decide_eq_false_iff_not, and_true, true_and]; omega)), ct (by simp), ct (by (simp only [ne_eq, Bool.and_eq_true, Bool.or_eq_true, decide_eq_true_eq, beq_iff_eq, bne_iff_ne, Bool.not_eq_true', decide_eq_false_iff_not, and_true, true_and]; omega)), ct (by simp), ct (by (simp only [ne_eq, Bool.and_eq_true, Bool.or_eq_true, decide_eq_true_eq, beq_iff_eq, bne_iff_ne, Bool.not_eq_true', decide_eq_false_iff_not, and_true, true_and]; omega))]
          have e1 : List.take (Ls.length + 1 - Int.toNat 1) (List.drop (Int.toNat 1) (lgS o (L :: Ls))) = lgS (o + (L.length : Int)) Ls := by
            show List.take (Ls.length + 1 - 1) (lgS (o + (L.length : Int)) Ls) = _
            rw [List.take_of_length_le (by rw [lgS_len]; omega)]
          rw [e1]
          have e2 : IntKind.i64.wrap ((sg o L).2.1 - (sg o L).1) = (L.length : Int) := by
            show IntKind.i64.wrap (o + (L.length : Int) - o) = _
            rw [i64w (by omega) (by omega)]; omega
          rw [e2, i64w (n := c + (L.length : Int)) (by omega) (by omega)]
          simp only [lgDrp, if_pos (show L ≠ [] ∧ o + (L.length : Int) ≤ b from ⟨hne, hq⟩)]
          exact ih'
        · rw [cf (decide_eq_false (show ¬ (sg o L).2.1 ≤ b from hq))]
          simp only [lgDrp, if_neg (show ¬ (L ≠ [] ∧ o + (L.length : Int) ≤ b) from fun h => hq h.2)]
def lDrop (b o : Int) (Ls : List (List RV)) : Int × Int × List (List RV) := ((lgDrp b o Ls 0).1, (lgDrp b o Ls 0).2.1, if (lgDrp b o Ls 0).2.2 = [] then [[]] else (lgDrp b o Ls 0).2.2)
theorem lgDrp_end (b : Int) : ∀ (Ls : List (List RV)) (o c : Int), (lgDrp b o Ls c).2.2 = [] → (lgDrp b o Ls c).2.1 = lgN o Ls
  | [], o, c, _ => rfl
  | L :: Ls, o, c, h => by
    simp only [lgDrp] at h ⊢
    split at h
    · rename_i hq
      rw [if_pos hq]
      exact lgDrp_end b Ls _ _ h
    · simp at h
theorem Drop_log (lim o b : Int) {Ls : List (List RV)} (h : Ls ≠ []) (hok : lgOk o Ls) (hl : Ls.length ≤ 1000000) : g11 lim (lgS o Ls) b = some ((lDrop b o Ls).1, lim, lgS (lDrop b o Ls).2.1 (lDrop b o Ls).2.2) := by
  unfold g11 lDrop
  rw [Next_lg lim o h hl]
  simp only [Option.bind_some]
  have := drp_loop lim b (lgN o Ls) Ls o 0 fuel hok (by rw [fuel_eq]; omega) hl (by omega) (by omega)
  have this' : h11_0 ((b, lgN o Ls, 0), lgS o Ls, lim, ()) = _ := this
  rw [this']
  simp only [Option.bind_some]
  by_cases he : (lgDrp b o Ls 0).2.2 = []
  · have e := lgDrp_end b Ls o 0 he
    rw [he, if_pos rfl, ct (by simp [lgS]), seg_New, e]
    simp only [Option.bind_some, lgS, sg_nil]
  · rw [if_neg he, cf (by rw [lgS_len]; have := List.length_pos_iff.2 he; (rw [Bool.eq_false_iff]; simp only [ne_eq, Bool.and_eq_true, Bool.or_eq_true, decide_eq_true_eq, beq_iff_eq, bne_iff_ne, Bool.not_eq_true', decide_eq_false_iff_not, and_true, true_and]; omega))]
theorem ref_drp_loop (b : Int) (z S0 : Int × List Seg) : ∀ (Ls : List (List RV)) (o c : Int) (k : Nat), lgOk o Ls → Ls.length < k → Ls.length ≤ 1000000 → 0 ≤ c → c + (Ls.length : Int) * 6553 ≤ 9000000000000 →
    loopN st39_0 k ((b, lgS o Ls, c), z, S0) = some (.inl ((lgS (lgDrp b o Ls c).2.1 (lgDrp b o Ls c).2.2, (lgDrp b o Ls c).1), z, S0)) := by
  intro Ls
  induction Ls with
  | nil =>
    intro o c k hok hd hl h0 h1
    cases k with
    | zero => simp at hd
    | succ k =>
      rw [loopN_s]; generalize loopN st39_0 k = LL at *; dsimp only [st39_0]
      rw [cf (by simp [lgS])]; rfl
  | cons L Ls ih =>
    intro o c k hok hd hl h0 h1
    cases k with
    | zero => simp at hd
    | succ k =>
      obtain ⟨o0, o1, hk, hb, hL, hok'⟩ := lgOk_cons hok
      simp only [List.length_cons] at hd hl h1
      have ih' := ih (o + (L.length : Int)) (c + (L.length : Int)) k hok' (by omega) (by omega) (by omega) (by omega)
      rw [loopN_s]; generalize loopN st39_0 k = LL at ih' ⊢; dsimp only [st39_0]
      have hlen : (lgS o (L :: Ls)).length = Ls.length + 1 := by rw [lgS_len]; rfl
      have hat : (lgS o (L :: Ls)).getD (Int.toNat 0) (0, 0, []) = sg o L := rfl
      rw [hat, hlen, ct (by (simp only [ne_eq, Bool.and_eq_true, Bool.or_eq_true, decide_eq_true_eq, beq_iff_eq, bne_iff_ne, Bool.not_eq_true', decide_eq_false_iff_not, and_true, true_and]; omega)), ct (by (simp only [ne_eq, Bool.and_eq_true, Bool.or_eq_true, decide_eq_true_eq, beq_iff_eq, bne_iff_ne, Bool.not_eq_true', decide_eq_false_iff_not, and_true, true_and]; omega))]
      by_cases hne : L = []
      · rw [cf (by subst hne; simp [sg, segB])]
        simp only [lgDrp, if_neg (show ¬ (L ≠ [] ∧ o + (L.length : Int) ≤ b) by simp [hne])]
      · have hp := (segB_pos hk).2 hne
        rw [ct (decide_eq_true (show (((sg o L).2.2.length : Nat) : Int) > 0 by show ((segB o L).length : Int) > 0; omega)), ct (by (simp only [ne_eq, Bool.and_eq_true, Bool.or_eq_true, decide_eq_true_eq, beq_iff_eq, bne_iff_ne, Bool.not_eq_true', decide_eq_false_iff_not, and_true, true_and]; omega))]
        by_cases hq : o + (L.length : Int) ≤ b
        · rw [ct (decide_eq_true (show (sg o L).2.1 ≤ b from hq)), ct (by (simp only [ne_eq, Bool.and_eq_true, Bool.or_eq_true, decide_eq_true_eq, beq_iff_eq, bne_iff_ne, Bool.not_eq_true', decide_eq_false_iff_not, and_true, true_and]; omega)), ct (by (simp only [ne_eq, Bool.and_eq_true, Bool.or_eq_true, decide_eq_true_eq, beq_iff_eq, bne_iff_ne, Bool.not_eq_true', decide_eq_false_iff_not, and_true, true_and]; omega)), ct (by (simp only [ne_eq, Bool.and_eq_true, Bool.or_eq_true, decide_eq_true_eq, beq_iff_eq, bne_iff_ne, Bool.not_eq_true', decide_eq_false_iff_not, and_true, true_and]; omega))]
          have e1 : List.drop (Int.toNat 1) (List.take (Ls.length + 1) (lgS o (L :: Ls))) = lgS (o + (L.length : Int)) Ls := by
            rw [List.take_of_length_le (by rw [hlen]; omega)]; rfl
          rw [e1]
          have e2 : IntKind.i64.wrap (IntKind.i64.wrap (c + (sg o L).2.1) - (sg o L).1) = c + (L.length : Int) := by
            show IntKind.i64.wrap (IntKind.i64.wrap (c + (o + (L.length : Int))) - o) = _
            rw [i64w (n := c + (o + (L.length : Int))) (by omega) (by omega), i64w (by omega) (by omega)]; omega
          rw [e2]
          simp only [lgDrp, if_pos (show L ≠ [] ∧ o + (L.length : Int) ≤ b from ⟨hne, hq⟩)]
          exact ih'
        · rw [cf (decide_eq_false (show ¬ (sg o L).2.1 ≤ b from hq))]
          simp only [lgDrp, if_neg (show ¬ (L ≠ [] ∧ o + (L.length : Int) ≤ b) from fun h => hq h.2)]
theorem lgDrp_len (b : Int) : ∀ (Ls : List (List RV)) (o c : Int), (lgDrp b o Ls c).2.2.length ≤ Ls.length
  | [], o, c => by simp [lgDrp]
  | L :: Ls, o, c => by
    simp only [lgDrp]
    split
    · have := lgDrp_len b Ls (o + (L.length : Int)) (c + (L.length : Int))
      simp only [List.length_cons]; omega
    · simp
theorem ref_Drop_log (lim o b : Int) {Ls : List (List RV)} (h : Ls ≠ []) (hok : lgOk o Ls) (hl : Ls.length ≤ 1000000) : g39 lim (lgS o Ls) b = some ((lim, lgS (lDrop b o Ls).2.1 (lDrop b o Ls).2.2), (lDrop b o Ls).1) := by
  unfold g39 lDrop
  have := ref_drp_loop b (0, []) (lim, lgS o Ls) Ls o 0 fuel hok (by rw [fuel_eq]; omega) hl (by omega) (by omega)
  have this' : h39_0 ((b, lgS o Ls, 0), (0, []), lim, lgS o Ls) = _ := this
  rw [this']
  simp only [Option.bind_some]
  have hdl := lgDrp_len b Ls o 0
  rw [ct (decide_eq_true (show 0 + (lgS (lgDrp b o Ls 0).2.1 (lgDrp b o Ls 0).2.2).length ≤ 2147483647 by rw [lgS_len]; omega))]
  by_cases he : (lgDrp b o Ls 0).2.2 = []
  · have e := lgDrp_end b Ls o 0 he
    rw [he, if_pos rfl, ct (by simp [lgS]), ref_Next_lg lim o h hl, e]
    simp only [Option.bind_some, ref_New32]
    rw [ct (by simp [lgS])]
    simp [lgS, sg_nil]
  · rw [if_neg he, cf (by rw [List.nil_append, lgS_len]; have := List.length_pos_iff.2 he; (rw [Bool.eq_false_iff]; simp only [ne_eq, Bool.and_eq_true, Bool.or_eq_true, decide_eq_true_eq, beq_iff_eq, bne_iff_ne, Bool.not_eq_true', decide_eq_false_iff_not, and_true, true_and]; omega)), List.nil_append]
/-! ### Truncate -/
theorem seg_take (o : Int) (L : List RV) (i : Nat) : (segB o L).take (posL o L i) = segB o (L.take i) := by
  conv => lhs; rw [seg_split o L i]
  exact List.take_left' rfl
theorem sg_take (o f : Int) (L : List RV) : sg o (L.take (f - o).toNat) = (o, o + (cutAt L o f : Int), segB o (L.take (cutAt L o f))) := by
  unfold sg cutAt
  rw [List.length_take, Nat.min_comm]
  congr 2
  by_cases h : L.length ≤ (f - o).toNat
  · rw [Nat.min_eq_left h, List.take_of_length_le h, List.take_of_length_le (Nat.le_refl _)]
  · rw [Nat.min_eq_right (by omega)]
theorem trn_loop {b : List UInt8} {o : Int} {L : List RV} (hk : okL o L) (he : b = segB o L) (hb : b.length ≤ 65536) (h0 : 0 ≤ o) (h1 : o ≤ 1099511627776) (f nx : Int) (z : Seg) : ∀ (d j k : Nat), j + d = cutAt L o f → d < k →
    loopN st46_0 k ((f, o + (j : Int), (posL o L j : Int)), z, o, nx, b) = some (.inl ((o + (cutAt L o f : Int), (posL o L (cutAt L o f) : Int)), z, o, nx, b)) := by
  have hL := segB_len L o hk
  have hL2 : L.length ≤ 6553 := by rw [he] at hb; omega
  have hc1 : cutAt L o f ≤ L.length := Nat.min_le_left _ _
  intro d
  induction d with
  | zero =>
    intro j k hj hd
    cases k with
    | zero => omega
    | succ k =>
      rw [loopN_s]; generalize loopN st46_0 k = LL at *; dsimp only [st46_0]
      have hj' : j = cutAt L o f := by omega
      subst hj'
      by_cases hlt : cutAt L o f < L.length
      · obtain ⟨g1, g2⟩ := seg_rd hk he _ hlt
        have hc2 : cutAt L o f = (f - o).toNat := by unfold cutAt at hlt ⊢; omega
        rw [ct (by (simp only [ne_eq, Bool.and_eq_true, Bool.or_eq_true, decide_eq_true_eq, beq_iff_eq, bne_iff_ne, Bool.not_eq_true', decide_eq_false_iff_not, and_true, true_and]; omega)), cf (decide_eq_false (by omega))]
      · have := pos_end he (cutAt L o f) (by omega)
        rw [cf (by (rw [Bool.eq_false_iff]; simp only [ne_eq, Bool.and_eq_true, Bool.or_eq_true, decide_eq_true_eq, beq_iff_eq, bne_iff_ne, Bool.not_eq_true', decide_eq_false_iff_not, and_true, true_and]; omega))]
  | succ d ih =>
    intro j k hj hd
    cases k with
    | zero => omega
    | succ k =>
      have ih' := ih (j + 1) k (by omega) (by omega)
      obtain ⟨g1, g2⟩ := seg_rd hk he j (by omega)
      have hc2 : j < (f - o).toNat := by unfold cutAt at hj; omega
      rw [loopN_s]; generalize loopN st46_0 k = LL at ih' ⊢; dsimp only [st46_0]
      rw [ct (by (simp only [ne_eq, Bool.and_eq_true, Bool.or_eq_true, decide_eq_true_eq, beq_iff_eq, bne_iff_ne, Bool.not_eq_true', decide_eq_false_iff_not, and_true, true_and]; omega)), ct (decide_eq_true (by omega)), Decode_eq b (by omega), g2]
      simp only [Option.bind_some]
      rw [cf (b := (0 : Int) != 0) rfl, i64w (n := o + (j : Int) + 1) (by omega) (by omega)]
      rw [show o + (j : Int) + 1 = o + ((j + 1 : Nat) : Int) by omega]
      exact ih'
theorem Trunc_eq {o : Int} {L : List RV} (hk : okL o L) (hb : (segB o L).length ≤ 65536) (h0 : 0 ≤ o) (h1 : o ≤ 1099511627776) (f nx : Int) : g46 o nx (segB o L) f = some (sg o (L.take (f - o).toNat)) := by
  have hL := segB_len L o hk
  have hc1 : cutAt L o f ≤ L.length := Nat.min_le_left _ _
  have := trn_loop hk rfl hb h0 h1 f nx (0, 0, []) (cutAt L o f) 0 fuel (by omega) (by rw [fuel_eq]; omega)
  unfold g46 h46_0
  rw [posL_zero] at this
  have this' : loopN st46_0 fuel ((f, o, 0), (0, 0, []), o, nx, segB o L) = some (.inl ((o + (cutAt L o f : Int), (posL o L (cutAt L o f) : Int)), (0, 0, []), o, nx, segB o L)) := by
    rw [show (o + ((0 : Nat) : Int)) = o by omega] at this
    exact this
  rw [this']
  simp only [Option.bind_some]
  have hpl := posL_le o L (cutAt L o f)
  rw [ct (by (simp only [ne_eq, Bool.and_eq_true, Bool.or_eq_true, decide_eq_true_eq, beq_iff_eq, bne_iff_ne, Bool.not_eq_true', decide_eq_false_iff_not, and_true, true_and]; omega)), Int.toNat_natCast, List.drop_zero, seg_take]
  have hlt : (segB o (L.take (cutAt L o f))).length ≤ 65536 := by
    have : (segB o (L.take (cutAt L o f))).length = posL o L (cutAt L o f) := rfl
    omega
  rw [owned2_eq _ _ (by simp; omega), List.append_nil, sg_take]
  rfl
theorem ref_trn_loop {o : Int} {L : List RV} (hk : okL o L) (hb : (segB o L).length ≤ 65536) (h0 : 0 ≤ o) (h1 : o ≤ 1099511627776) (f : Int) (z : Seg) : ∀ (d j k : Nat), j + d = L.length → d < k →
    loopN st59_0 k ((f, recL o L, (j : Int)), sg o (L.take (min j (f - o).toNat)), z) = some (.inl ((), sg o (L.take (min L.length (f - o).toNat)), z)) := by
  have hL := segB_len L o hk
  intro d
  induction d with
  | zero =>
    intro j k hj hd
    cases k with
    | zero => omega
    | succ k =>
      rw [loopN_s]; generalize loopN st59_0 k = LL at *; dsimp only [st59_0]
      have hj' : j = L.length := by omega
      subst hj'
      rw [cf (by rw [recL_len]; (rw [Bool.eq_false_iff]; simp only [ne_eq, Bool.and_eq_true, Bool.or_eq_true, decide_eq_true_eq, beq_iff_eq, bne_iff_ne, Bool.not_eq_true', decide_eq_false_iff_not, and_true, true_and]; omega))]
  | succ d ih =>
    intro j k hj hd
    cases k with
    | zero => omega
    | succ k =>
      have ih' := ih (j + 1) k (by omega) (by omega)
      rw [loopN_s]; generalize loopN st59_0 k = LL at ih' ⊢; dsimp only [st59_0]
      have hat : (recL o L).getD j (0, 0, [], []) = (o + (j : Int), (L[j]).1, (L[j]).2.1, (L[j]).2.2) := by
        rw [getD_at _ (by rw [recL_len]; omega), recL_at L o j (by omega)]
      have hck := okL_at L o j (by omega) hk
      rw [ct (by rw [recL_len]; (simp only [ne_eq, Bool.and_eq_true, Bool.or_eq_true, decide_eq_true_eq, beq_iff_eq, bne_iff_ne, Bool.not_eq_true', decide_eq_false_iff_not, and_true, true_and]; omega)), ct (by rw [recL_len]; (simp only [ne_eq, Bool.and_eq_true, Bool.or_eq_true, decide_eq_true_eq, beq_iff_eq, bne_iff_ne, Bool.not_eq_true', decide_eq_false_iff_not, and_true, true_and]; omega)), Int.toNat_natCast, hat, i64w (n := (j : Int) + 1) (by omega) (by omega)]
      by_cases hf : o + (j : Int) < f
      · rw [ct (decide_eq_true hf), ct (by rw [recL_len]; (simp only [ne_eq, Bool.and_eq_true, Bool.or_eq_true, decide_eq_true_eq, beq_iff_eq, bne_iff_ne, Bool.not_eq_true', decide_eq_false_iff_not, and_true, true_and]; omega)), ct (by rw [recL_len]; (simp only [ne_eq, Bool.and_eq_true, Bool.or_eq_true, decide_eq_true_eq, beq_iff_eq, bne_iff_ne, Bool.not_eq_true', decide_eq_false_iff_not, and_true, true_and]; omega)), ct (by rw [recL_len]; (simp only [ne_eq, Bool.and_eq_true, Bool.or_eq_true, decide_eq_true_eq, beq_iff_eq, bne_iff_ne, Bool.not_eq_true', decide_eq_false_iff_not, and_true, true_and]; omega))]
        have hm : min j (f - o).toNat = j := by omega
        have hm2 : min (j + 1) (f - o).toNat = j + 1 := by omega
        rw [hm]
        rw [hm2] at ih'
        have hl : (L.take j).length = j := by rw [List.length_take]; omega
        have hps := posL_succ o L j (by omega)
        have hpl := posL_le o L (j + 1)
        have e : sg o (L.take j) = (o, o + (j : Int), segB o (L.take j)) := by unfold sg; rw [hl]
        rw [e]
        show Option.bind (g58 o (o + (j : Int)) (segB o (L.take j)) (L[j]).1 (L[j]).2.1 (L[j]).2.2) _ = _
        rw [ref_Append_ok _ _ _ _ _ _ hck (by
          have : (segB o (L.take j)).length = posL o L j := rfl
          omega)]
        simp only [Option.bind_some]
        have e2 : sg o (L.take (j + 1)) = (o, o + (j : Int) + 1, segB o (L.take j) ++ rec_ (o + (j : Int)) (L[j]).1 (L[j]).2.1 (L[j]).2.2) := by
          unfold sg
          rw [List.take_succ_eq_append_getElem (by omega), segB_app, List.length_append, hl]
          simp only [List.length_cons, List.length_nil, segB, List.append_nil]
          congr 2
          omega
        rw [e2] at ih'
        exact ih'
      · rw [cf (decide_eq_false hf)]
        have hm : min j (f - o).toNat = min (j + 1) (f - o).toNat := by omega
        rw [hm]
        exact ih'
theorem ref_Trunc_eq {o : Int} {L : List RV} (hk : okL o L) (hb : (segB o L).length ≤ 65536) (h0 : 0 ≤ o) (h1 : o ≤ 1099511627776) (f nx : Int) : g59 o nx (segB o L) f = some (sg o (L.take (f - o).toNat)) := by
  have hL := segB_len L o hk
  have := ref_trn_loop hk hb h0 h1 f (0, 0, []) L.length 0 fuel (by omega) (by rw [fuel_eq]; omega)
  unfold g59 h59_0
  rw [ref_New32]
  simp only [Option.bind_some]
  rw [ref_Records_eq hk rfl hb]
  simp only [Option.bind_some]
  have this' : loopN st59_0 fuel ((f, recL o L, 0), (o, o, []), 0, 0, []) = some (.inl ((), sg o (L.take (min L.length (f - o).toNat)), 0, 0, [])) := by
    rw [show min 0 (f - o).toNat = 0 by omega, List.take_zero, sg_nil] at this
    exact this
  rw [this']
  simp only [Option.bind_some]
  have : L.take (min L.length (f - o).toNat) = L.take (f - o).toNat := by
    by_cases h : L.length ≤ (f - o).toNat
    · rw [Nat.min_eq_left h, List.take_of_length_le h, List.take_of_length_le (Nat.le_refl _)]
    · rw [Nat.min_eq_right (by omega)]
  rw [this]
/-! ### Cut -/
def lgPre (f : Int) : Int → List (List RV) → List (List RV)
  | _, [] => []
  | o, L :: Ls => if o < f then L :: lgPre f (o + (L.length : Int)) Ls else []
def lgCut (f : Int) : Int → List (List RV) → List (List RV)
  | _, [] => []
  | o, L :: Ls => if o < f then L.take (f - o).toNat :: lgCut f (o + (L.length : Int)) Ls else []
theorem lgPre_out {f : Int} : ∀ {o : Int} (Ls : List (List RV)), ¬ o < f → lgPre f o Ls = []
  | _, [], _ => rfl
  | _, _ :: _, h => by simp only [lgPre, if_neg h]
theorem lgCut_out {f : Int} : ∀ {o : Int} (Ls : List (List RV)), ¬ o < f → lgCut f o Ls = []
  | _, [], _ => rfl
  | _, _ :: _, h => by simp only [lgCut, if_neg h]
theorem lgS_cut (f o : Int) (L : List RV) (Ls : List (List RV)) : lgS o (L.take (f - o).toNat :: lgCut f (o + (L.length : Int)) Ls) = sg o (L.take (f - o).toNat) :: lgS (o + (L.length : Int)) (lgCut f (o + (L.length : Int)) Ls) := by
  simp only [lgS]
  by_cases h : L.length ≤ (f - o).toNat
  · rw [List.take_of_length_le h]
  · rw [lgCut_out Ls (by omega)]; rfl
theorem pre_cut (f : Int) : ∀ (Ls : List (List RV)) (o : Int), o < f → Ls ≠ [] → ∃ Ms M, lgPre f o Ls = Ms ++ [M] ∧ lgCut f o Ls = Ms ++ [M.take (f - lgN o Ms).toNat] ∧ lgN o Ms < f ∧ ∃ R, Ls = Ms ++ M :: R
  | [], o, _, h => absurd rfl h
  | L :: Ls, o, ho, _ => by
    simp only [lgPre, lgCut, if_pos ho]
    by_cases hq : o + (L.length : Int) < f ∧ Ls ≠ []
    · obtain ⟨Ms, M, h1, h2, h3, R, h4⟩ := pre_cut f Ls (o + (L.length : Int)) hq.1 hq.2
      refine ⟨L :: Ms, M, by rw [h1]; rfl, ?_, h3, R, by rw [h4]; rfl⟩
      rw [h2, List.take_of_length_le (by omega)]
      rfl
    · refine ⟨[], L, ?_, ?_, ho, Ls, rfl⟩
      · by_cases hn : Ls = []
        · rw [hn]; rfl
        · rw [lgPre_out Ls (fun h => hq ⟨h, hn⟩)]; rfl
      · by_cases hn : Ls = []
        · rw [hn]; rfl
        · rw [lgCut_out Ls (fun h => hq ⟨h, hn⟩)]; rfl
theorem cut_loop (lim f : Int) (N : Nat) (hN : N ≤ 1000000) : ∀ (Ls : List (List RV)) (o : Int) (P : List Seg) (k : Nat) (acc : List Seg), P.length + Ls.length = N → acc.length ≤ P.length → Ls.length < k →
    loopN st26_0 k ((f, (N : Int), (P.length : Int)), acc, P ++ lgS o Ls, lim, ()) = some (.inl (f, acc ++ lgS o (lgPre f o Ls), (lim, ()), P ++ lgS o Ls)) := by
  intro Ls
  induction Ls with
  | nil =>
    intro o P k acc hP ha hd
    cases k with
    | zero => simp at hd
    | succ k =>
      simp only [List.length_nil] at hP
      rw [loopN_s]; generalize loopN st26_0 k = LL at *; dsimp only [st26_0]
      rw [cf (by (rw [Bool.eq_false_iff]; simp only [ne_eq, Bool.and_eq_true, Bool.or_eq_true, decide_eq_true_eq, beq_iff_eq, bne_iff_ne, Bool.not_eq_true', decide_eq_false_iff_not, and_true, true_and]; omega))]; simp [lgPre, lgS]
  | cons L Ls ih =>
    intro o P k acc hP ha hd
    cases k with
    | zero => simp at hd
    | succ k =>
      simp only [List.length_cons] at hP hd
      have ih' := fun acc a => ih (o + (L.length : Int)) (P ++ [sg o L]) k acc (by simp; omega) a (by omega)
      have eS : P ++ [sg o L] ++ lgS (o + (L.length : Int)) Ls = P ++ lgS o (L :: Ls) := by simp [lgS]
      have eP : ((P ++ [sg o L]).length : Int) = (P.length : Int) + 1 := by simp
      rw [eS, eP] at ih'
      rw [loopN_s]; generalize loopN st26_0 k = LL at ih' ⊢; dsimp only [st26_0]
      have hlen : (P ++ lgS o (L :: Ls)).length = N := by simp [lgS_len]; omega
      have hat : (P ++ lgS o (L :: Ls)).getD P.length (0, 0, []) = sg o L := getD_mid P _ _ _
      rw [ct (by (simp only [ne_eq, Bool.and_eq_true, Bool.or_eq_true, decide_eq_true_eq, beq_iff_eq, bne_iff_ne, Bool.not_eq_true', decide_eq_false_iff_not, and_true, true_and]; omega)), ct (by rw [hlen]; (simp only [ne_eq, Bool.and_eq_true, Bool.or_eq_true, decide_eq_true_eq, beq_iff_eq, bne_iff_ne, Bool.not_eq_true', decide_eq_false_iff_not, and_true, true_and]; omega)), Int.toNat_natCast, hat, ct (by rw [hlen]; (simp only [ne_eq, Bool.and_eq_true, Bool.or_eq_true, decide_eq_true_eq, beq_iff_eq, bne_iff_ne, Bool.not_eq_true', decide_eq_false_iff_not, and_true, true_and]; omega)), i64w (n := (P.length : Int) + 1) (by omega) (by omega)]
      simp only [lgPre]
      by_cases hq : o < f
      · rw [ct (decide_eq_true (show (sg o L).1 < f from hq)), ct (by (simp only [ne_eq, Bool.and_eq_true, Bool.or_eq_true, decide_eq_true_eq, beq_iff_eq, bne_iff_ne, Bool.not_eq_true', decide_eq_false_iff_not, and_true, true_and]; omega)), if_pos hq, ih' _ (by simp; omega)]
        simp [lgS]
      · rw [cf (decide_eq_false (show ¬ (sg o L).1 < f from hq)), if_neg hq, ih' _ (by simp; omega), lgPre_out Ls (by omega)]
        rfl
def lCut (f o : Int) (Ls : List (List RV)) : Int × List (List RV) :=
  if f < o ∨ f > lgN o Ls then (1, Ls) else if f = lgN o Ls then (0, Ls) else (0, if lgCut f o Ls = [] then [[]] else lgCut f o Ls)
theorem Cut_log (lim o f : Int) {Ls : List (List RV)} (h : Ls ≠ []) (hok : lgOk o Ls) (hl : Ls.length ≤ 1000000) : g26 lim (lgS o Ls) f = some ((lCut f o Ls).1, lim, lgS o (lCut f o Ls).2) := by
  unfold g26 lCut
  rw [First_log lim o h]
  simp only [Option.bind_some]
  by_cases h1 : f < o
  · rw [ct (by (simp only [ne_eq, Bool.and_eq_true, Bool.or_eq_true, decide_eq_true_eq, beq_iff_eq, bne_iff_ne, Bool.not_eq_true', decide_eq_false_iff_not, and_true, true_and]; omega)), if_pos (.inl h1)]
  · rw [cf (by (rw [Bool.eq_false_iff]; simp only [ne_eq, Bool.and_eq_true, Bool.or_eq_true, decide_eq_true_eq, beq_iff_eq, bne_iff_ne, Bool.not_eq_true', decide_eq_false_iff_not, and_true, true_and]; omega)), Next_lg lim o h hl]
    simp only [Option.bind_some]
    by_cases h2 : f > lgN o Ls
    · rw [ct (by (simp only [ne_eq, Bool.and_eq_true, Bool.or_eq_true, decide_eq_true_eq, beq_iff_eq, bne_iff_ne, Bool.not_eq_true', decide_eq_false_iff_not, and_true, true_and]; omega)), if_pos (.inr h2)]
    · rw [cf (by (rw [Bool.eq_false_iff]; simp only [ne_eq, Bool.and_eq_true, Bool.or_eq_true, decide_eq_true_eq, beq_iff_eq, bne_iff_ne, Bool.not_eq_true', decide_eq_false_iff_not, and_true, true_and]; omega)), if_neg (by omega), Next_lg lim o h hl]
      simp only [Option.bind_some]
      by_cases h3 : f = lgN o Ls
      · rw [ct (by (simp only [ne_eq, Bool.and_eq_true, Bool.or_eq_true, decide_eq_true_eq, beq_iff_eq, bne_iff_ne, Bool.not_eq_true', decide_eq_false_iff_not, and_true, true_and]; omega)), if_pos h3]
      · rw [cf (by (rw [Bool.eq_false_iff]; simp only [ne_eq, Bool.and_eq_true, Bool.or_eq_true, decide_eq_true_eq, beq_iff_eq, bne_iff_ne, Bool.not_eq_true', decide_eq_false_iff_not, and_true, true_and]; omega)), if_neg h3]
        have := cut_loop lim f Ls.length hl Ls o [] fuel [] (by simp) (by simp) (by rw [fuel_eq]; omega)
        have this' : h26_0 ((f, (Ls.length : Int), 0), [], lgS o Ls, lim, ()) = _ := this
        rw [lgS_len, this']
        simp only [Option.bind_some, List.nil_append]
        by_cases hq : o < f
        · obtain ⟨Ms, M, e1, e2, e3, R, e4⟩ := pre_cut f Ls o hq h
          have hok1 : lgOk (lgN o Ms) (M :: R) := by rw [e4] at hok; exact ((lgOk_app _ _ _).1 hok).2
          obtain ⟨o0, o1, hk, hb, hL, _⟩ := lgOk_cons hok1
          have hML : Ms.length ≤ 1000000 := by rw [e4, List.length_append] at hl; omega
          rw [e1, e2, if_neg (by simp), lgS_snoc, lgS_snoc]
          have hw : ((lgS o Ms ++ [sg (lgN o Ms) M]).length : Int) = (Ms.length : Int) + 1 := by simp [lgS_len]
          rw [cf (by rw [hw]; (rw [Bool.eq_false_iff]; simp only [ne_eq, Bool.and_eq_true, Bool.or_eq_true, decide_eq_true_eq, beq_iff_eq, bne_iff_ne, Bool.not_eq_true', decide_eq_false_iff_not, and_true, true_and]; omega)), hw, show IntKind.i64.wrap ((Ms.length : Int) + 1 - 1) = ((lgS o Ms).length : Int) by rw [i64w (by omega) (by omega), lgS_len]; omega]
          rw [ct (by rw [lgS_len]; (simp only [ne_eq, Bool.and_eq_true, Bool.or_eq_true, decide_eq_true_eq, beq_iff_eq, bne_iff_ne, Bool.not_eq_true', decide_eq_false_iff_not, and_true, true_and]; omega)), Int.toNat_natCast, ct (by simp), getD_last]
          show Option.bind (g46 (lgN o Ms) (lgN o Ms + (M.length : Int)) (segB (lgN o Ms) M) f) _ = _
          rw [Trunc_eq hk hb o0 o1]
          simp only [Option.bind_some]
          rw [ct (by rw [lgS_len]; (simp only [ne_eq, Bool.and_eq_true, Bool.or_eq_true, decide_eq_true_eq, beq_iff_eq, bne_iff_ne, Bool.not_eq_true', decide_eq_false_iff_not, and_true, true_and]; omega)), ct (by simp), set_last]
        · have : f = o := by omega
          subst this
          rw [lgPre_out Ls hq, lgCut_out Ls hq, if_pos rfl, ct (by simp [lgS]), seg_New]
          simp only [Option.bind_some, lgS, sg_nil]
theorem ref_cut_loop (lim f : Int) (z : Int × List Seg) (N : Nat) (hN : N ≤ 1000000) : ∀ (Ls : List (List RV)) (o : Int) (P : List Seg) (k : Nat) (acc : List Seg), lgOk o Ls → P.length + Ls.length = N → acc.length ≤ P.length → Ls.length < k →
    loopN st40_0 k ((f, (P.length : Int)), acc, z, lim, P ++ lgS o Ls) = some (.inl (f, acc ++ lgS o (lgCut f o Ls), z, lim, P ++ lgS o Ls)) := by
  intro Ls
  induction Ls with
  | nil =>
    intro o P k acc hok hP ha hd
    cases k with
    | zero => simp at hd
    | succ k =>
      simp only [List.length_nil] at hP
      rw [loopN_s]; generalize loopN st40_0 k = LL at *; dsimp only [st40_0]
      rw [cf (by simp [lgS])]; simp [lgCut, lgS]
  | cons L Ls ih =>
    intro o P k acc hok hP ha hd
    cases k with
    | zero => simp at hd
    | succ k =>
      obtain ⟨o0, o1, hk, hb, hL, hok'⟩ := lgOk_cons hok
      simp only [List.length_cons] at hP hd
      have ih' := fun acc a => ih (o + (L.length : Int)) (P ++ [sg o L]) k acc hok' (by simp; omega) a (by omega)
      have eS : P ++ [sg o L] ++ lgS (o + (L.length : Int)) Ls = P ++ lgS o (L :: Ls) := by simp [lgS]
      have eP : ((P ++ [sg o L]).length : Int) = (P.length : Int) + 1 := by simp
      rw [eS, eP] at ih'
      rw [loopN_s]; generalize loopN st40_0 k = LL at ih' ⊢; dsimp only [st40_0]
      have hlen : (P ++ lgS o (L :: Ls)).length = N := by simp [lgS_len]; omega
      have hat : (P ++ lgS o (L :: Ls)).getD P.length (0, 0, []) = sg o L := getD_mid P _ _ _
      rw [ct (by rw [hlen]; (simp only [ne_eq, Bool.and_eq_true, Bool.or_eq_true, decide_eq_true_eq, beq_iff_eq, bne_iff_ne, Bool.not_eq_true', decide_eq_false_iff_not, and_true, true_and]; omega)), ct (by rw [hlen]; (simp only [ne_eq, Bool.and_eq_true, Bool.or_eq_true, decide_eq_true_eq, beq_iff_eq, bne_iff_ne, Bool.not_eq_true', decide_eq_false_iff_not, and_true, true_and]; omega)), Int.toNat_natCast, hat, i64w (n := (P.length : Int) + 1) (by omega) (by omega)]
      simp only [lgCut]
      by_cases hq : o < f
      · rw [ct (decide_eq_true (show (sg o L).1 < f from hq)), ct (by rw [hlen]; (simp only [ne_eq, Bool.and_eq_true, Bool.or_eq_true, decide_eq_true_eq, beq_iff_eq, bne_iff_ne, Bool.not_eq_true', decide_eq_false_iff_not, and_true, true_and]; omega)), if_pos hq]
        show Option.bind (g59 o (o + (L.length : Int)) (segB o L) f) _ = _
        rw [ref_Trunc_eq hk hb o0 o1]
        simp only [Option.bind_some]
        rw [ct (by (simp only [ne_eq, Bool.and_eq_true, Bool.or_eq_true, decide_eq_true_eq, beq_iff_eq, bne_iff_ne, Bool.not_eq_true', decide_eq_false_iff_not, and_true, true_and]; omega)), ih' _ (by simp; omega), lgS_cut]
        simp
      · rw [cf (decide_eq_false (show ¬ (sg o L).1 < f from hq)), if_neg hq, ih' _ (by simp; omega), lgCut_out Ls (by omega)]
        simp [lgS]
theorem ref_Cut_log (lim o f : Int) {Ls : List (List RV)} (h : Ls ≠ []) (hok : lgOk o Ls) (hl : Ls.length ≤ 1000000) : g40 lim (lgS o Ls) f = some ((lim, lgS o (lCut f o Ls).2), (lCut f o Ls).1) := by
  unfold g40 lCut
  rw [ref_First_lg lim o h]
  simp only [Option.bind_some]
  by_cases h1 : f < o
  · rw [ct (by (simp only [ne_eq, Bool.and_eq_true, Bool.or_eq_true, decide_eq_true_eq, beq_iff_eq, bne_iff_ne, Bool.not_eq_true', decide_eq_false_iff_not, and_true, true_and]; omega)), if_pos (.inl h1)]
  · rw [cf (by (rw [Bool.eq_false_iff]; simp only [ne_eq, Bool.and_eq_true, Bool.or_eq_true, decide_eq_true_eq, beq_iff_eq, bne_iff_ne, Bool.not_eq_true', decide_eq_false_iff_not, and_true, true_and]; omega)), ref_Next_lg lim o h hl]
    simp only [Option.bind_some]
    by_cases h2 : f > lgN o Ls
    · rw [ct (by (simp only [ne_eq, Bool.and_eq_true, Bool.or_eq_true, decide_eq_true_eq, beq_iff_eq, bne_iff_ne, Bool.not_eq_true', decide_eq_false_iff_not, and_true, true_and]; omega)), if_pos (.inr h2)]
    · rw [cf (by (rw [Bool.eq_false_iff]; simp only [ne_eq, Bool.and_eq_true, Bool.or_eq_true, decide_eq_true_eq, beq_iff_eq, bne_iff_ne, Bool.not_eq_true', decide_eq_false_iff_not, and_true, true_and]; omega)), if_neg (by omega)]
      by_cases h3 : f = lgN o Ls
      · rw [ct (by (simp only [ne_eq, Bool.and_eq_true, Bool.or_eq_true, decide_eq_true_eq, beq_iff_eq, bne_iff_ne, Bool.not_eq_true', decide_eq_false_iff_not, and_true, true_and]; omega)), if_pos h3]
      · rw [cf (by (rw [Bool.eq_false_iff]; simp only [ne_eq, Bool.and_eq_true, Bool.or_eq_true, decide_eq_true_eq, beq_iff_eq, bne_iff_ne, Bool.not_eq_true', decide_eq_false_iff_not, and_true, true_and]; omega)), if_neg h3]
        have := ref_cut_loop lim f (0, []) Ls.length hl Ls o [] fuel [] hok (by simp) (by simp) (by rw [fuel_eq]; omega)
        have this' : h40_0 ((f, 0), [], (0, []), lim, lgS o Ls) = _ := this
        rw [this']
        simp only [Option.bind_some, List.nil_append]
        by_cases hq : lgCut f o Ls = []
        · rw [hq, if_pos rfl, ct (by simp [lgS])]
          have hfo : f = o := by
            by_cases ho : o < f
            · obtain ⟨Ms, M, e1, e2, _⟩ := pre_cut f Ls o ho h
              rw [e2] at hq; simp at hq
            · omega
          subst hfo
          rw [ref_New32]
          simp only [Option.bind_some]
          rw [ct (by simp [lgS])]
          simp [lgS, sg_nil]
        · rw [if_neg hq, cf (by rw [lgS_len]; have := List.length_pos_iff.2 hq; (rw [Bool.eq_false_iff]; simp only [ne_eq, Bool.and_eq_true, Bool.or_eq_true, decide_eq_true_eq, beq_iff_eq, bne_iff_ne, Bool.not_eq_true', decide_eq_false_iff_not, and_true, true_and]; omega))]
end Go.Proofs.Ytbncnkchedhnpaa.EVT
/- The log: Open; what stays true of a log. -/
set_option linter.unusedVariables false
set_option linter.unusedSimpArgs false
namespace Go.Proofs.Ytbncnkchedhnpaa.EVT
open Go Go.EV

theorem awake34 : g8 = some true := by kernel_rfl
/-- Only the last segment may be empty. -/
def ne : List (List RV) → Prop
  | [] => True
  | [_] => True
  | L :: L' :: Ls => L ≠ [] ∧ ne (L' :: Ls)
theorem New_eq (lim : Int) : g9 lim = some (if lim < 64 ∨ lim > 65536 then (none, 1) else (some (lim, lgS 0 [[]]), 0)) := by
  unfold g9
  by_cases h1 : lim < 64
  · rw [ct (by (simp only [ne_eq, Bool.and_eq_true, Bool.or_eq_true, decide_eq_true_eq, beq_iff_eq, bne_iff_ne, Bool.not_eq_true', decide_eq_false_iff_not, and_true, true_and]; omega)), if_pos (.inl h1)]
  · rw [cf (by (rw [Bool.eq_false_iff]; simp only [ne_eq, Bool.and_eq_true, Bool.or_eq_true, decide_eq_true_eq, beq_iff_eq, bne_iff_ne, Bool.not_eq_true', decide_eq_false_iff_not, and_true, true_and]; omega))]
    by_cases h2 : lim > 65536
    · rw [ct (by (simp only [ne_eq, Bool.and_eq_true, Bool.or_eq_true, decide_eq_true_eq, beq_iff_eq, bne_iff_ne, Bool.not_eq_true', decide_eq_false_iff_not, and_true, true_and]; omega)), if_pos (.inr h2)]
    · rw [cf (by (rw [Bool.eq_false_iff]; simp only [ne_eq, Bool.and_eq_true, Bool.or_eq_true, decide_eq_true_eq, beq_iff_eq, bne_iff_ne, Bool.not_eq_true', decide_eq_false_iff_not, and_true, true_and]; omega)), if_neg (by omega)]
      rfl
theorem ref_New_eq (lim : Int) : g20 lim = some (if lim < 64 ∨ lim > 65536 then ((0, []), 1) else ((lim, lgS 0 [[]]), 0)) := by
  unfold g20
  by_cases h1 : lim < 64
  · rw [ct (by (simp only [ne_eq, Bool.and_eq_true, Bool.or_eq_true, decide_eq_true_eq, beq_iff_eq, bne_iff_ne, Bool.not_eq_true', decide_eq_false_iff_not, and_true, true_and]; omega)), if_pos (.inl h1)]
  · rw [cf (by (rw [Bool.eq_false_iff]; simp only [ne_eq, Bool.and_eq_true, Bool.or_eq_true, decide_eq_true_eq, beq_iff_eq, bne_iff_ne, Bool.not_eq_true', decide_eq_false_iff_not, and_true, true_and]; omega))]
    by_cases h2 : lim > 65536
    · rw [ct (by (simp only [ne_eq, Bool.and_eq_true, Bool.or_eq_true, decide_eq_true_eq, beq_iff_eq, bne_iff_ne, Bool.not_eq_true', decide_eq_false_iff_not, and_true, true_and]; omega)), if_pos (.inr h2)]
    · rw [cf (by (rw [Bool.eq_false_iff]; simp only [ne_eq, Bool.and_eq_true, Bool.or_eq_true, decide_eq_true_eq, beq_iff_eq, bne_iff_ne, Bool.not_eq_true', decide_eq_false_iff_not, and_true, true_and]; omega)), if_neg (by omega)]
      rfl
def sAt (S : List Seg) (i : Nat) : Seg := S.getD i sg0
def opn (S : List Seg) : Nat → Nat → Int → Int ⊕ Int
  | 0, _, c => .inr c
  | d + 1, i, c => if sChk (sAt S i).1 (sAt S i).2.1 (sAt S i).2.2 ≠ 0 then .inl (sChk (sAt S i).1 (sAt S i).2.1 (sAt S i).2.2)
    else if 0 < i ∧ ((sAt S i).1 ≠ (sAt S (i - 1)).2.1 ∨ (sAt S (i - 1)).2.2 = []) then .inl 22
    else opn S d (i + 1) (c + ((sAt S i).2.1 - (sAt S i).1))
def opnP (lim : Int) (S : List Seg) (acc : List Seg) (i : Nat) : Int ⊕ Int → Option ((Int × (Int × Unit) × List Seg) ⊕ (Option (Int × List Seg) × Int))
  | .inl e => some (.inr (none, e))
  | .inr c => some (.inl (c, (lim, ()), acc ++ S.drop i))
def opnR (lim : Int) (S : List Seg) (z : Int × List Seg) : Int ⊕ Int → Option (((Int × List Seg × Int) × (Int × List Seg)) ⊕ ((Int × List Seg) × Int))
  | .inl e => some (.inr ((0, []), e))
  | .inr c => some (.inl ((lim, S, c), z))
theorem chk_len {base nx : Int} {b : List UInt8} (h : sChk base nx b = 0) : 0 ≤ base ∧ base ≤ 1099511627776 ∧ 0 ≤ nx - base ∧ nx - base ≤ 6553 ∧ b.length ≤ 65536 := by
  obtain ⟨h1, h2, h3, L, h4, h5, h6⟩ := sChk_zero trivial h
  have := segB_len L base h4
  rw [h5] at h3
  exact ⟨h1, h2, by omega, by omega, by rw [h5]; exact h3⟩
theorem opn_loop (lim : Int) (S : List Seg) (hS : S.length ≤ 1000) (hb : ∀ x ∈ S, -9223372036854775808 ≤ x.2.1 ∧ x.2.1 ≤ 9223372036854775807) : ∀ (d i k : Nat) (c : Int) (acc : List Seg), i + d = S.length → acc.length = i → 0 ≤ c → c ≤ 6553 * (i : Int) → d < k →
    loopN st23_0 k ((S, c, S, (S.length : Int), (i : Int)), acc, lim, ()) = opnP lim S acc i (opn S d i c) := by
  intro d
  induction d with
  | zero =>
    intro i k c acc hi ha h0 h1 hd
    cases k with
    | zero => omega
    | succ k =>
      rw [loopN_s]; generalize loopN st23_0 k = LL at *; dsimp only [st23_0]
      rw [cf (by (rw [Bool.eq_false_iff]; simp only [ne_eq, Bool.and_eq_true, Bool.or_eq_true, decide_eq_true_eq, beq_iff_eq, bne_iff_ne, Bool.not_eq_true', decide_eq_false_iff_not, and_true, true_and]; omega))]
      simp only [opn, opnP]
      rw [List.drop_of_length_le (by omega), List.append_nil]
  | succ d ih =>
    intro i k c acc hi ha h0 h1 hd
    cases k with
    | zero => omega
    | succ k =>
      have ih' := fun c acc a e f => ih (i + 1) k c acc (by omega) a e f (by omega)
      rw [loopN_s]; generalize loopN st23_0 k = LL at ih' ⊢; dsimp only [st23_0]
      have hat : S.getD i (0, 0, []) = S[i] := getD_at _ (by omega)
      have hsa : sAt S i = S[i] := hat
      have hdr : S.drop i = S[i] :: S.drop (i + 1) := List.drop_eq_getElem_cons (by omega)
      have hrg := hb _ (List.getElem_mem (show i < S.length by omega))
      simp only [opn, hsa]
      rw [ct (by (simp only [ne_eq, Bool.and_eq_true, Bool.or_eq_true, decide_eq_true_eq, beq_iff_eq, bne_iff_ne, Bool.not_eq_true', decide_eq_false_iff_not, and_true, true_and]; omega)), ct (by (simp only [ne_eq, Bool.and_eq_true, Bool.or_eq_true, decide_eq_true_eq, beq_iff_eq, bne_iff_ne, Bool.not_eq_true', decide_eq_false_iff_not, and_true, true_and]; omega)), Int.toNat_natCast, hat, seg_Check_eq _ _ _ hrg]
      simp only [Option.bind_some]
      generalize hx : S[i] = x at *
      by_cases hc : sChk x.1 x.2.1 x.2.2 = 0
      · rw [cf (by (rw [Bool.eq_false_iff]; simp only [ne_eq, Bool.and_eq_true, Bool.or_eq_true, decide_eq_true_eq, beq_iff_eq, bne_iff_ne, Bool.not_eq_true', decide_eq_false_iff_not, and_true, true_and]; omega)), if_neg (by simpa using hc)]
        obtain ⟨c1, c2, c3, c4, c5⟩ := chk_len hc
        have e2 : IntKind.i64.wrap (c + IntKind.i64.wrap (x.2.1 - x.1)) = c + (x.2.1 - x.1) := by
          rw [i64w (n := x.2.1 - x.1) (by omega) (by omega), i64w (by omega) (by omega)]
        have fin : 0 ≤ c + (x.2.1 - x.1) → LL ((S, c + (x.2.1 - x.1), S, (S.length : Int), (i : Int) + 1), acc ++ [x], lim, ()) = opnP lim S acc i (opn S d (i + 1) (c + (x.2.1 - x.1))) := by
          intro h
          have := ih' (c + (x.2.1 - x.1)) (acc ++ [x]) (by simp; omega) h (by omega)
          refine this.trans ?_
          cases opn S d (i + 1) (c + (x.2.1 - x.1)) with
          | inl e => rfl
          | inr c' => simp only [opnP]; rw [hdr]; simp
        by_cases hi0 : 0 < i
        · have ew : IntKind.i64.wrap ((i : Int) - 1) = ((i - 1 : Nat) : Int) := by rw [i64w (by omega) (by omega)]; omega
          have hat2 : S.getD (i - 1) (0, 0, []) = sAt S (i - 1) := rfl
          rw [ct (by (simp only [ne_eq, Bool.and_eq_true, Bool.or_eq_true, decide_eq_true_eq, beq_iff_eq, bne_iff_ne, Bool.not_eq_true', decide_eq_false_iff_not, and_true, true_and]; omega)), ew, ct (by (simp only [ne_eq, Bool.and_eq_true, Bool.or_eq_true, decide_eq_true_eq, beq_iff_eq, bne_iff_ne, Bool.not_eq_true', decide_eq_false_iff_not, and_true, true_and]; omega)), Int.toNat_natCast, hat2]
          generalize sAt S (i - 1) = y at *
          by_cases hy : x.1 ≠ y.2.1
          · rw [ct (by simpa using hy), if_pos ⟨hi0, .inl hy⟩]; rfl
          · rw [cf (by simpa using hy), ct (by (simp only [ne_eq, Bool.and_eq_true, Bool.or_eq_true, decide_eq_true_eq, beq_iff_eq, bne_iff_ne, Bool.not_eq_true', decide_eq_false_iff_not, and_true, true_and]; omega))]
            by_cases hz : y.2.2 = []
            · rw [ct (by simp [hz]), if_pos ⟨hi0, .inr hz⟩]; rfl
            · rw [cf (by simpa using hz), if_neg (by rintro ⟨_, h | h⟩; exact hy h; exact hz h), copied_eq x (by omega)]
              simp only [Option.bind_some]
              rw [ct (by (simp only [ne_eq, Bool.and_eq_true, Bool.or_eq_true, decide_eq_true_eq, beq_iff_eq, bne_iff_ne, Bool.not_eq_true', decide_eq_false_iff_not, and_true, true_and]; omega)), e2, i64w (n := (i : Int) + 1) (by omega) (by omega)]
              exact fin (by omega)
        · rw [cf (by (rw [Bool.eq_false_iff]; simp only [ne_eq, Bool.and_eq_true, Bool.or_eq_true, decide_eq_true_eq, beq_iff_eq, bne_iff_ne, Bool.not_eq_true', decide_eq_false_iff_not, and_true, true_and]; omega)), if_neg (fun h => hi0 h.1), copied_eq x (by omega)]
          simp only [Option.bind_some]
          rw [ct (by (simp only [ne_eq, Bool.and_eq_true, Bool.or_eq_true, decide_eq_true_eq, beq_iff_eq, bne_iff_ne, Bool.not_eq_true', decide_eq_false_iff_not, and_true, true_and]; omega)), e2, i64w (n := (i : Int) + 1) (by omega) (by omega)]
          exact fin (by omega)
      · rw [ct (by (simp only [ne_eq, Bool.and_eq_true, Bool.or_eq_true, decide_eq_true_eq, beq_iff_eq, bne_iff_ne, Bool.not_eq_true', decide_eq_false_iff_not, and_true, true_and]; omega)), if_pos (by simpa using hc)]; rfl
theorem ref_opn_loop (lim : Int) (S : List Seg) (z : Int × List Seg) (hS : S.length ≤ 1000) : ∀ (d i k : Nat) (c : Int), i + d = S.length → 0 ≤ c → c ≤ 6553 * (i : Int) → d < k →
    loopN st24_0 k ((lim, S, c, (i : Int)), z) = opnR lim S z (opn S d i c) := by
  intro d
  induction d with
  | zero =>
    intro i k c hi h0 h1 hd
    cases k with
    | zero => omega
    | succ k =>
      rw [loopN_s]; generalize loopN st24_0 k = LL at *; dsimp only [st24_0]
      rw [cf (by (rw [Bool.eq_false_iff]; simp only [ne_eq, Bool.and_eq_true, Bool.or_eq_true, decide_eq_true_eq, beq_iff_eq, bne_iff_ne, Bool.not_eq_true', decide_eq_false_iff_not, and_true, true_and]; omega))]
      rfl
  | succ d ih =>
    intro i k c hi h0 h1 hd
    cases k with
    | zero => omega
    | succ k =>
      have ih' := fun c e f => ih (i + 1) k c (by omega) e f (by omega)
      rw [loopN_s]; generalize loopN st24_0 k = LL at ih' ⊢; dsimp only [st24_0]
      have hat : S.getD i (0, 0, []) = S[i] := getD_at _ (by omega)
      have hsa : sAt S i = S[i] := hat
      simp only [opn, hsa]
      rw [ct (by (simp only [ne_eq, Bool.and_eq_true, Bool.or_eq_true, decide_eq_true_eq, beq_iff_eq, bne_iff_ne, Bool.not_eq_true', decide_eq_false_iff_not, and_true, true_and]; omega)), ct (by (simp only [ne_eq, Bool.and_eq_true, Bool.or_eq_true, decide_eq_true_eq, beq_iff_eq, bne_iff_ne, Bool.not_eq_true', decide_eq_false_iff_not, and_true, true_and]; omega)), Int.toNat_natCast, hat, ref_seg_Check_eq]
      simp only [Option.bind_some]
      generalize hx : S[i] = x at *
      by_cases hc : sChk x.1 x.2.1 x.2.2 = 0
      · rw [cf (by (rw [Bool.eq_false_iff]; simp only [ne_eq, Bool.and_eq_true, Bool.or_eq_true, decide_eq_true_eq, beq_iff_eq, bne_iff_ne, Bool.not_eq_true', decide_eq_false_iff_not, and_true, true_and]; omega)), if_neg (by simpa using hc)]
        obtain ⟨c1, c2, c3, c4, c5⟩ := chk_len hc
        have e2 : IntKind.i64.wrap (IntKind.i64.wrap (c + x.2.1) - x.1) = c + (x.2.1 - x.1) := by
          rw [i64w (n := c + x.2.1) (by omega) (by omega), i64w (by omega) (by omega)]; omega
        have fin : LL ((lim, S, c + (x.2.1 - x.1), (i : Int) + 1), z) = opnR lim S z (opn S d (i + 1) (c + (x.2.1 - x.1))) := ih' (c + (x.2.1 - x.1)) (by omega) (by omega)
        by_cases hi0 : 0 < i
        · have ew : IntKind.i64.wrap ((i : Int) - 1) = ((i - 1 : Nat) : Int) := by rw [i64w (by omega) (by omega)]; omega
          have hat2 : S.getD (i - 1) (0, 0, []) = sAt S (i - 1) := rfl
          rw [ct (by (simp only [ne_eq, Bool.and_eq_true, Bool.or_eq_true, decide_eq_true_eq, beq_iff_eq, bne_iff_ne, Bool.not_eq_true', decide_eq_false_iff_not, and_true, true_and]; omega)), ct (by (simp only [ne_eq, Bool.and_eq_true, Bool.or_eq_true, decide_eq_true_eq, beq_iff_eq, bne_iff_ne, Bool.not_eq_true', decide_eq_false_iff_not, and_true, true_and]; omega)), ew, ct (by (simp only [ne_eq, Bool.and_eq_true, Bool.or_eq_true, decide_eq_true_eq, beq_iff_eq, bne_iff_ne, Bool.not_eq_true', decide_eq_false_iff_not, and_true, true_and]; omega)), Int.toNat_natCast, hat2]
          generalize sAt S (i - 1) = y at *
          by_cases hy : x.1 ≠ y.2.1
          · rw [ct (by simpa using hy), if_pos ⟨hi0, .inl hy⟩]; rfl
          · rw [cf (by simpa using hy), ct (by (simp only [ne_eq, Bool.and_eq_true, Bool.or_eq_true, decide_eq_true_eq, beq_iff_eq, bne_iff_ne, Bool.not_eq_true', decide_eq_false_iff_not, and_true, true_and]; omega))]
            by_cases hz : y.2.2 = []
            · rw [ct (by simp [hz]), if_pos ⟨hi0, .inr hz⟩]; rfl
            · rw [cf (by simpa using hz), if_neg (by rintro ⟨_, h | h⟩; exact hy h; exact hz h)]
              rw [ct (by (simp only [ne_eq, Bool.and_eq_true, Bool.or_eq_true, decide_eq_true_eq, beq_iff_eq, bne_iff_ne, Bool.not_eq_true', decide_eq_false_iff_not, and_true, true_and]; omega)), ct (by (simp only [ne_eq, Bool.and_eq_true, Bool.or_eq_true, decide_eq_true_eq, beq_iff_eq, bne_iff_ne, Bool.not_eq_true', decide_eq_false_iff_not, and_true, true_and]; omega)), e2, i64w (n := (i : Int) + 1) (by omega) (by omega)]
              exact fin
        · rw [cf (by (rw [Bool.eq_false_iff]; simp only [ne_eq, Bool.and_eq_true, Bool.or_eq_true, decide_eq_true_eq, beq_iff_eq, bne_iff_ne, Bool.not_eq_true', decide_eq_false_iff_not, and_true, true_and]; omega)), if_neg (fun h => hi0 h.1)]
          rw [ct (by (simp only [ne_eq, Bool.and_eq_true, Bool.or_eq_true, decide_eq_true_eq, beq_iff_eq, bne_iff_ne, Bool.not_eq_true', decide_eq_false_iff_not, and_true, true_and]; omega)), ct (by (simp only [ne_eq, Bool.and_eq_true, Bool.or_eq_true, decide_eq_true_eq, beq_iff_eq, bne_iff_ne, Bool.not_eq_true', decide_eq_false_iff_not, and_true, true_and]; omega)), e2, i64w (n := (i : Int) + 1) (by omega) (by omega)]
          exact fin
      · rw [ct (by (simp only [ne_eq, Bool.and_eq_true, Bool.or_eq_true, decide_eq_true_eq, beq_iff_eq, bne_iff_ne, Bool.not_eq_true', decide_eq_false_iff_not, and_true, true_and]; omega)), if_pos (by simpa using hc)]; rfl
def lOpen (lim : Int) (S : List Seg) : Int ⊕ List Seg :=
  if lim < 64 ∨ lim > 65536 then .inl 1 else if S = [] then .inr (lgS 0 [[]]) else match opn S S.length 0 0 with
    | .inl e => .inl e
    | .inr c => if c > 4096 then .inl 6 else .inr S
theorem Open_eq (lim : Int) (S : List Seg) (hS : S.length ≤ 1000) (hb : ∀ x ∈ S, -9223372036854775808 ≤ x.2.1 ∧ x.2.1 ≤ 9223372036854775807) : g23 lim S = some (match lOpen lim S with | .inl e => (none, e) | .inr S' => (some (lim, S'), 0)) := by
  unfold g23 lOpen
  rw [New_eq]
  simp only [Option.bind_some]
  by_cases h1 : lim < 64 ∨ lim > 65536
  · rw [if_pos h1, if_pos h1]; simp only [Option.elim]; rw [ct (by simp)]
  · rw [if_neg h1, if_neg h1]
    simp only [Option.elim]
    rw [cf (by simp)]
    by_cases h2 : S = []
    · subst h2; rw [ct (by simp), if_pos rfl]
    · have hl := List.length_pos_iff.2 h2
      rw [cf (by (rw [Bool.eq_false_iff]; simp only [ne_eq, Bool.and_eq_true, Bool.or_eq_true, decide_eq_true_eq, beq_iff_eq, bne_iff_ne, Bool.not_eq_true', decide_eq_false_iff_not, and_true, true_and]; omega)), if_neg h2]
      have := opn_loop lim S hS hb S.length 0 fuel 0 [] (by omega) rfl (by omega) (by omega) (by rw [fuel_eq]; omega)
      have this' : h23_0 ((S, 0, S, (S.length : Int), 0), [], lim, ()) = _ := this
      rw [this']
      cases opn S S.length 0 0 with
      | inl e => rfl
      | inr c =>
        simp only [opnP, Option.bind_some, List.nil_append, List.drop_zero]
        by_cases h3 : c > 4096
        · rw [ct (by (simp only [ne_eq, Bool.and_eq_true, Bool.or_eq_true, decide_eq_true_eq, beq_iff_eq, bne_iff_ne, Bool.not_eq_true', decide_eq_false_iff_not, and_true, true_and]; omega)), if_pos h3]
        · rw [cf (by (rw [Bool.eq_false_iff]; simp only [ne_eq, Bool.and_eq_true, Bool.or_eq_true, decide_eq_true_eq, beq_iff_eq, bne_iff_ne, Bool.not_eq_true', decide_eq_false_iff_not, and_true, true_and]; omega)), if_neg h3]
theorem ref_Open_eq (lim : Int) (S : List Seg) (hS : S.length ≤ 1000) : g24 lim S = some (match lOpen lim S with | .inl e => ((0, []), e) | .inr S' => ((lim, S'), 0)) := by
  unfold g24 lOpen
  rw [ref_New_eq]
  simp only [Option.bind_some]
  by_cases h1 : lim < 64 ∨ lim > 65536
  · rw [if_pos h1, if_pos h1]; rw [ct (by simp)]
  · rw [if_neg h1, if_neg h1]
    rw [cf (by simp)]
    by_cases h2 : S = []
    · subst h2; rw [ct (by simp), if_pos rfl]
    · have hl := List.length_pos_iff.2 h2
      rw [cf (by (rw [Bool.eq_false_iff]; simp only [ne_eq, Bool.and_eq_true, Bool.or_eq_true, decide_eq_true_eq, beq_iff_eq, bne_iff_ne, Bool.not_eq_true', decide_eq_false_iff_not, and_true, true_and]; omega)), if_neg h2]
      have := ref_opn_loop lim S (0, []) hS S.length 0 fuel 0 (by omega) (by omega) (by omega) (by rw [fuel_eq]; omega)
      have this' : h24_0 ((lim, S, 0, 0), 0, []) = _ := this
      rw [this']
      cases opn S S.length 0 0 with
      | inl e => rfl
      | inr c =>
        simp only [opnR, Option.bind_some]
        by_cases h3 : c > 4096
        · rw [ct (by (simp only [ne_eq, Bool.and_eq_true, Bool.or_eq_true, decide_eq_true_eq, beq_iff_eq, bne_iff_ne, Bool.not_eq_true', decide_eq_false_iff_not, and_true, true_and]; omega)), if_pos h3]
        · rw [cf (by (rw [Bool.eq_false_iff]; simp only [ne_eq, Bool.and_eq_true, Bool.or_eq_true, decide_eq_true_eq, beq_iff_eq, bne_iff_ne, Bool.not_eq_true', decide_eq_false_iff_not, and_true, true_and]; omega)), if_neg h3, ct (by (simp only [ne_eq, Bool.and_eq_true, Bool.or_eq_true, decide_eq_true_eq, beq_iff_eq, bne_iff_ne, Bool.not_eq_true', decide_eq_false_iff_not, and_true, true_and]; omega))]; rfl
/-- What opens is a log. -/
theorem opn_ok (S : List Seg) : ∀ (d i : Nat) (c c' : Int), i + d = S.length → opn S d i c = .inr c' → d = 0 ∨ ∃ L Ls, S.drop i = lgS (sAt S i).1 (L :: Ls) ∧ lgOk (sAt S i).1 (L :: Ls) ∧ (0 < i → (sAt S i).1 = (sAt S (i - 1)).2.1)
  | 0, i, c, c', _, _ => .inl rfl
  | d + 1, i, c, c', hi, h => by
    refine .inr ?_
    have hdr : S.drop i = S[i] :: S.drop (i + 1) := List.drop_eq_getElem_cons (by omega)
    have hsa : sAt S i = S[i] := getD_at _ (by omega)
    simp only [opn] at h
    split at h
    · cases h
    · rename_i hc
      split at h
      · cases h
      · rename_i hq
        have hc' : sChk (sAt S i).1 (sAt S i).2.1 (sAt S i).2.2 = 0 := by simpa using hc
        obtain ⟨h1, h2, h3, L, h4, h5, h6⟩ := sChk_zero trivial hc'
        have hsg : sAt S i = sg (sAt S i).1 L := by
          unfold sg
          rw [← h6, ← h5]
        have hlt : i > 0 → (sAt S i).1 = (sAt S (i - 1)).2.1 := fun h0 => by
          by_cases e : (sAt S i).1 = (sAt S (i - 1)).2.1
          · exact e
          · exact absurd ⟨h0, .inl e⟩ hq
        rcases opn_ok S d (i + 1) _ c' (by omega) h with h0 | ⟨L', Ls', e1, e2, e3⟩
        · refine ⟨L, [], ?_, ⟨h1, h2, h4, by rw [← h5]; exact h3, trivial⟩, hlt⟩
          rw [hdr, ← hsa, List.drop_of_length_le (by omega)]
          simp only [lgS]
          rw [← hsg]
        · have e4 := e3 (by omega)
          simp only [Nat.add_sub_cancel] at e4
          rw [h6] at e4
          refine ⟨L, L' :: Ls', ?_, ⟨h1, h2, h4, by rw [← h5]; exact h3, by rw [← e4]; exact e2⟩, hlt⟩
          rw [hdr, ← hsa, e1, e4]
          conv => rhs; rw [lgS]
          rw [← hsg]
theorem lOpen_ok {lim : Int} {S S' : List Seg} (h : lOpen lim S = .inr S') : ∃ o Ls, S' = lgS o Ls ∧ Ls ≠ [] ∧ lgOk o Ls ∧ 64 ≤ lim ∧ lim ≤ 65536 := by
  unfold lOpen at h
  split at h
  · cases h
  · rename_i hl
    split at h
    · cases h
      exact ⟨0, [[]], rfl, by simp, ⟨by omega, by omega, trivial, by simp [segB], trivial⟩, by omega, by omega⟩
    · rename_i hS
      split at h
      · cases h
      · rename_i c hc
        split at h
        · cases h
        · cases h
          rcases opn_ok S S.length 0 0 c (by omega) hc with h0 | ⟨L, Ls, e1, e2, _⟩
          · exact absurd (List.length_eq_zero_iff.1 h0) hS
          · exact ⟨(sAt S 0).1, L :: Ls, by simpa using e1, by simp, e2, by omega, by omega⟩
/-- A log's segments open. -/
theorem opn_lg : ∀ (Ls : List (List RV)) (o : Int) (P : List Seg) (c : Int), lgOk o Ls → ne Ls → (P = [] ∨ ∃ P' x, P = P' ++ [x] ∧ (Ls ≠ [] → x.2.1 = o ∧ x.2.2 ≠ [])) → opn (P ++ lgS o Ls) Ls.length P.length c = .inr (c + ((lgR o Ls).length : Int))
  | [], o, P, c, _, _, _ => by simp [opn, lgR]
  | L :: Ls, o, P, c, hok, hne, hP => by
    obtain ⟨o0, o1, hk, hb, hL, hok'⟩ := lgOk_cons hok
    have hat : sAt (P ++ lgS o (L :: Ls)) P.length = sg o L := getD_mid P _ _ _
    simp only [List.length_cons, opn, hat]
    have hck : sChk (sg o L).1 (sg o L).2.1 (sg o L).2.2 = 0 := sChk_of o0 o1 hk hb
    rw [if_neg (by simpa using hck), if_neg]
    · have eS : P ++ [sg o L] ++ lgS (o + (L.length : Int)) Ls = P ++ lgS o (L :: Ls) := by simp [lgS]
      have ih := opn_lg Ls (o + (L.length : Int)) (P ++ [sg o L]) (c + ((sg o L).2.1 - (sg o L).1)) hok' (by
        cases Ls with
        | nil => trivial
        | cons L' Ls => exact hne.2) (.inr ⟨P, sg o L, rfl, fun hn => ⟨rfl, by
        cases Ls with
        | nil => exact absurd rfl hn
        | cons L' Ls =>
          have hp := (segB_pos hk).2 hne.1
          intro h
          have h' : segB o L = [] := h
          rw [h'] at hp; simp at hp⟩⟩)
      rw [eS] at ih
      have el : (P ++ [sg o L]).length = P.length + 1 := by simp
      rw [el] at ih
      rw [ih]
      simp only [lgR, List.length_append, recL_len, sg]
      congr 1
      omega
    · rintro ⟨h0, h1⟩
      rcases hP with rfl | ⟨P', x, rfl, hx⟩
      · simp at h0
      · obtain ⟨x1, x2⟩ := hx (by simp)
        have hat2 : sAt (P' ++ [x] ++ lgS o (L :: Ls)) ((P' ++ [x]).length - 1) = x := by
          rw [show (P' ++ [x]).length - 1 = P'.length by simp, List.append_assoc]
          exact getD_mid P' _ _ _
        rw [hat2] at h1
        rcases h1 with h1 | h1
        · exact h1 x1.symm
        · exact x2 h1
theorem lOpen_lg (lim o : Int) {Ls : List (List RV)} (hl : 64 ≤ lim ∧ lim ≤ 65536) (h : Ls ≠ []) (hok : lgOk o Ls) (hne : ne Ls) (hm : (lgR o Ls).length ≤ 4096) : lOpen lim (lgS o Ls) = .inr (lgS o Ls) := by
  unfold lOpen
  rw [if_neg (by omega), if_neg (by
    cases Ls with
    | nil => exact absurd rfl h
    | cons L Ls => simp [lgS])]
  have := opn_lg Ls o [] 0 hok hne (.inl rfl)
  simp only [List.nil_append, List.length_nil] at this
  rw [lgS_len, this]
  simp only
  rw [if_neg (by omega)]
theorem same_lg (lim lim' o : Int) {Ls : List (List RV)} (h : Ls ≠ []) (hok : lgOk o Ls) (hl : Ls.length ≤ 1000000) : g22 lim (lgS o Ls) lim' (lgS o Ls) = some (true, lim, lgS o Ls) := by
  unfold g22
  rw [First_log lim o h]
  simp only [Option.bind_some]
  rw [ref_First_lg lim' o h]
  simp only [Option.bind_some]
  rw [ct (by simp), Next_lg lim o h hl]
  simp only [Option.bind_some]
  rw [ref_Next_lg lim' o h hl]
  simp only [Option.bind_some]
  rw [ct (by simp), Segments_eq lim _ (by rw [lgS_len]; exact hl) (fun x hx => by have := lgOk_bytes Ls o hok x hx; omega)]
  simp only [Option.bind_some]
  rw [SameAll_eq _ (by rw [lgS_len]; exact hl)]
  rfl
end Go.Proofs.Ytbncnkchedhnpaa.EVT
/- The log: what stays true of it from operation to operation. -/
set_option linter.unusedVariables false
set_option linter.unusedSimpArgs false
namespace Go.Proofs.Ytbncnkchedhnpaa.EVT
open Go Go.EV

abbrev WAct := Int × Int × Int × Int × Int × List UInt8 × List UInt8
theorem ne_last {M M' : List RV} : ∀ {Ms : List (List RV)}, ne (Ms ++ [M]) → ne (Ms ++ [M'])
  | [], _ => trivial
  | [L], h => ⟨h.1, trivial⟩
  | L :: L' :: Ms, h => ⟨h.1, ne_last (Ms := L' :: Ms) h.2⟩
theorem ne_snoc {M N : List RV} (hM : M ≠ []) : ∀ {Ms : List (List RV)}, ne (Ms ++ [M]) → ne (Ms ++ [M] ++ [N])
  | [], _ => ⟨hM, trivial⟩
  | [L], h => ⟨h.1, hM, trivial⟩
  | L :: L' :: Ms, h => ⟨h.1, ne_snoc hM (Ms := L' :: Ms) h.2⟩
theorem recL_app : ∀ (L M : List RV) (o : Int), recL o (L ++ M) = recL o L ++ recL (o + (L.length : Int)) M
  | [], M, o => by simp [recL]
  | (n, s, v) :: L, M, o => by
    simp only [List.cons_append, recL, recL_app L M, List.length_cons]
    rw [show o + 1 + (L.length : Int) = o + ((L.length + 1 : Nat) : Int) by omega]
structure WF (lim : Int) (m : Nat) (o : Int) (Ls : List (List RV)) : Prop where
  nn : Ls ≠ []
  ok : lgOk o Ls
  ne : ne Ls
  top : lgN o Ls ≤ (m : Int)
  len : Ls.length ≤ m + 1
  l0 : 64 ≤ lim
  l1 : lim ≤ 65536
  m0 : m ≤ 1000
theorem lgOk_o {o : Int} : ∀ {Ls : List (List RV)}, Ls ≠ [] → lgOk o Ls → 0 ≤ o ∧ o ≤ 1099511627776
  | [], h, _ => absurd rfl h
  | L :: Ls, _, h => ⟨h.1, h.2.1⟩
theorem WF.recs {lim : Int} {m : Nat} {o : Int} {Ls : List (List RV)} (h : WF lim m o Ls) : (lgR o Ls).length ≤ m := by
  have h1 := lgN_len Ls o
  have h2 := h.top
  have h3 := lgOk_o h.nn h.ok
  omega
theorem WF.more {lim : Int} {m : Nat} {o : Int} {Ls : List (List RV)} (h : WF lim m o Ls) (hm : m < 1000) : WF lim (m + 1) o Ls :=
  { h with top := by have := h.top; omega, len := by have := h.len; omega, m0 := by omega }
theorem WF.new {lim : Int} (h0 : 64 ≤ lim) (h1 : lim ≤ 65536) : WF lim 0 0 [[]] :=
  ⟨by simp, ⟨by omega, by omega, trivial, by simp [segB], trivial⟩, trivial, by simp [lgN], by simp, h0, h1, by omega⟩
/-- The segments of a log after Append. -/
def aL (lim o : Int) (Ms : List (List RV)) (M : List RV) (k : Int) (s v : List UInt8) : List (List RV) :=
  if chk (lgN o (Ms ++ [M])) k s v ≠ 0 then Ms ++ [M]
  else if lgN o (Ms ++ [M]) - o ≥ 4096 then Ms ++ [M]
  else if M ≠ [] ∧ ((segB (lgN o Ms) M).length : Int) + ((rec_ (lgN o (Ms ++ [M])) k s v).length : Int) > lim then Ms ++ [M] ++ [[(k, s, v)]]
  else Ms ++ [M ++ [(k, s, v)]]
def aR (o : Int) (Ls : List (List RV)) (k : Int) (s v : List UInt8) : Int × Int :=
  if chk (lgN o Ls) k s v ≠ 0 then (0, chk (lgN o Ls) k s v) else if lgN o Ls - o ≥ 4096 then (0, 6) else (lgN o Ls, 0)
theorem lgN_snoc (o : Int) (Ms : List (List RV)) (M : List RV) : lgN o (Ms ++ [M]) = lgN o Ms + (M.length : Int) := by rw [lgN_app]; rfl
theorem lApp_lg (lim o : Int) (Ms : List (List RV)) (M : List RV) (hk : okL (lgN o Ms) M) (k : Int) (s v : List UInt8) :
    lApp lim o (lgS o Ms) (lgN o Ms) (lgN o Ms + (M.length : Int)) (segB (lgN o Ms) M) k s v = (aR o (Ms ++ [M]) k s v, lgS o (aL lim o Ms M k s v)) := by
  unfold lApp aR aL
  have e0 : lgS o Ms ++ [((lgN o Ms, lgN o Ms + (M.length : Int), segB (lgN o Ms) M) : Seg)] = lgS o (Ms ++ [M]) := (lgS_snoc o Ms M).symm
  rw [e0, lgN_snoc]
  by_cases h1 : chk (lgN o Ms + (M.length : Int)) k s v ≠ 0
  · rw [if_pos h1, if_pos h1, if_pos h1]
  · rw [if_neg h1, if_neg h1, if_neg h1]
    by_cases h2 : lgN o Ms + (M.length : Int) - o ≥ 4096
    · rw [if_pos h2, if_pos h2, if_pos h2]
    · rw [if_neg h2, if_neg h2, if_neg h2]
      have hb : segB (lgN o Ms) M ≠ [] ↔ M ≠ [] := by
        have := segB_pos hk
        constructor
        · intro h; exact this.1 (List.length_pos_iff.2 h)
        · intro h; exact List.length_pos_iff.1 (this.2 h)
      by_cases h3 : M ≠ [] ∧ ((segB (lgN o Ms) M).length : Int) + ((rec_ (lgN o Ms + (M.length : Int)) k s v).length : Int) > lim
      · rw [if_pos h3, if_pos ⟨hb.2 h3.1, h3.2⟩, lgS_snoc o (Ms ++ [M]), lgN_snoc]
        simp [sg, segB]
      · rw [if_neg h3, if_neg (fun h => h3 ⟨hb.1 h.1, h.2⟩), lgS_snoc]
        simp only [sg, segB_app, segB, List.append_nil, List.length_append, List.length_cons, List.length_nil]
        rw [show lgN o Ms + ((M.length + (0 + 1) : Nat) : Int) = lgN o Ms + (M.length : Int) + 1 by omega]
theorem app_lg {lim : Int} {m : Nat} {o : Int} {Ls : List (List RV)} (h : WF lim m o Ls) (k : Int) (s v : List UInt8) : ∃ Ms M, Ls = Ms ++ [M] ∧ okL (lgN o Ms) M ∧ (segB (lgN o Ms) M).length ≤ 65536 ∧
    g10 lim (lgS o Ls) k s v = some (aR o Ls k s v, lim, lgS o (aL lim o Ms M k s v)) ∧ g38 lim (lgS o Ls) k s v = some ((lim, lgS o (aL lim o Ms M k s v)), aR o Ls k s v) := by
  obtain ⟨Ms, M, rfl⟩ := snoc h.nn
  have hok := ((lgOk_app _ _ _).1 h.ok).2
  obtain ⟨o0, o1, hk, hb, hL, _⟩ := lgOk_cons hok
  have hT : (lgS o Ms).length ≤ 1000000 := by have h1 := h.len; have h2 := h.m0; rw [List.length_append] at h1; rw [lgS_len]; omega
  have hf : ((lgS o Ms ++ [((lgN o Ms, lgN o Ms + (M.length : Int), segB (lgN o Ms) M) : Seg)]).getD 0 sg0).1 = o := by
    have := lgS_head o h.nn
    rw [lgS_snoc] at this
    exact this
  have ho := lgOk_o h.nn h.ok
  refine ⟨Ms, M, rfl, hk, hb, ?_, ?_⟩
  · rw [lgS_snoc]
    have := Append_log lim (lgS o Ms) (lgN o Ms) (lgN o Ms + (M.length : Int)) (segB (lgN o Ms) M) k s v hT hb h.l1 o hf ho.1 (by omega)
    rw [lApp_lg lim o Ms M hk] at this
    exact this
  · rw [lgS_snoc]
    have := ref_Append_log lim (lgS o Ms) (lgN o Ms) (lgN o Ms + (M.length : Int)) (segB (lgN o Ms) M) k s v hT hb h.l1 o hf ho.1 (by omega)
    rw [lApp_lg lim o Ms M hk] at this
    exact this
theorem rec_app {o : Int} {M : List RV} {k : Int} {s v : List UInt8} : segB o (M ++ [(k, s, v)]) = segB o M ++ rec_ (o + (M.length : Int)) k s v := by rw [segB_app]; simp [segB]
theorem app_wf {lim : Int} {m : Nat} {o : Int} {Ms : List (List RV)} {M : List RV} (h : WF lim m o (Ms ++ [M])) (hm : m < 1000) (k : Int) (s v : List UInt8) : WF lim (m + 1) o (aL lim o Ms M k s v) := by
  have hN := lgN_snoc o Ms M
  have htop := h.top
  have hlen := h.len
  simp only [List.length_append, List.length_cons, List.length_nil] at hlen
  obtain ⟨hok1, hok2⟩ := (lgOk_app _ _ _).1 h.ok
  obtain ⟨o0, o1, hk, hb, hL, _⟩ := lgOk_cons hok2
  unfold aL
  by_cases h1 : chk (lgN o (Ms ++ [M])) k s v ≠ 0
  · rw [if_pos h1]; exact h.more hm
  · rw [if_neg h1]
    have hc : chk (lgN o (Ms ++ [M])) k s v = 0 := by simpa using h1
    have hc' := chk_zero.1 hc
    have hr := rec_len hc
    by_cases h2 : lgN o (Ms ++ [M]) - o ≥ 4096
    · rw [if_pos h2]; exact h.more hm
    · rw [if_neg h2]
      by_cases h3 : M ≠ [] ∧ ((segB (lgN o Ms) M).length : Int) + ((rec_ (lgN o (Ms ++ [M])) k s v).length : Int) > lim
      · rw [if_pos h3]
        refine ⟨by simp, (lgOk_app _ _ _).2 ⟨h.ok, ?_⟩, ne_snoc h3.1 h.ne, ?_, by simp; omega, h.l0, h.l1, by omega⟩
        · refine ⟨by omega, by omega, ⟨hc, trivial⟩, ?_, trivial⟩
          simp only [segB, List.append_nil]; omega
        · rw [lgN_snoc]; simp only [List.length_cons, List.length_nil]; omega
      · rw [if_neg h3]
        have hk2 : okL (lgN o Ms) (M ++ [(k, s, v)]) := (okL_app _ _ _).2 ⟨hk, by rw [hN] at hc; exact ⟨hc, trivial⟩⟩
        have hl2 : (segB (lgN o Ms) (M ++ [(k, s, v)])).length ≤ 65536 := by
          rw [rec_app, List.length_append, ← hN]
          by_cases hM : M = []
          · subst hM; simp only [segB, List.length_nil]; omega
          · have : ¬ ((segB (lgN o Ms) M).length : Int) + ((rec_ (lgN o (Ms ++ [M])) k s v).length : Int) > lim := fun h => h3 ⟨hM, h⟩
            have := h.l1
            omega
        refine ⟨by simp, (lgOk_app _ _ _).2 ⟨hok1, o0, o1, hk2, hl2, trivial⟩, ne_last h.ne, ?_, by simp; omega, h.l0, h.l1, by omega⟩
        rw [lgN_snoc]; simp only [List.length_append, List.length_cons, List.length_nil]; omega
theorem app_recs {lim o : Int} {Ms : List (List RV)} {M : List RV} (k : Int) (s v : List UInt8) : lgR o (aL lim o Ms M k s v) = lgR o (Ms ++ [M]) ++ (if (aR o (Ms ++ [M]) k s v).2 = 0 then [(lgN o (Ms ++ [M]), k, s, v)] else []) := by
  unfold aL aR
  by_cases h1 : chk (lgN o (Ms ++ [M])) k s v ≠ 0
  · rw [if_pos h1, if_pos h1, if_neg h1, List.append_nil]
  · rw [if_neg h1, if_neg h1]
    by_cases h2 : lgN o (Ms ++ [M]) - o ≥ 4096
    · rw [if_pos h2, if_pos h2, if_neg (by simp), List.append_nil]
    · rw [if_neg h2, if_neg h2, if_pos rfl]
      by_cases h3 : M ≠ [] ∧ ((segB (lgN o Ms) M).length : Int) + ((rec_ (lgN o (Ms ++ [M])) k s v).length : Int) > lim
      · rw [if_pos h3, lgR_app]
        simp [lgR, recL]
      · rw [if_neg h3, lgR_app, lgR_app, lgN_snoc]
        simp [lgR, recL_app, recL]
/-! ### Drop, Cut -/
theorem ne_tail {L : List RV} {Ls : List (List RV)} (h : ne (L :: Ls)) : ne Ls := by
  cases Ls with
  | nil => trivial
  | cons L' Ls => exact h.2
theorem lgDrp_inv (b : Int) : ∀ (Ls : List (List RV)) (o c : Int), lgOk o Ls → ne Ls → lgOk (lgDrp b o Ls c).2.1 (lgDrp b o Ls c).2.2 ∧ ne (lgDrp b o Ls c).2.2 ∧ lgN (lgDrp b o Ls c).2.1 (lgDrp b o Ls c).2.2 = lgN o Ls ∧
    (lgDrp b o Ls c).1 = c + ((lgDrp b o Ls c).2.1 - o) ∧ o ≤ (lgDrp b o Ls c).2.1 ∧ ((lgDrp b o Ls c).2.1 = o ∨ (lgDrp b o Ls c).2.1 ≤ b) ∧ lgR (lgDrp b o Ls c).2.1 (lgDrp b o Ls c).2.2 = (lgR o Ls).drop ((lgDrp b o Ls c).2.1 - o).toNat
  | [], o, c, _, _ => by simp [lgDrp, lgOk, ne, lgR]
  | L :: Ls, o, c, hok, hne => by
    obtain ⟨o0, o1, hk, hb, hL, hok'⟩ := lgOk_cons hok
    simp only [lgDrp]
    by_cases hq : L ≠ [] ∧ o + (L.length : Int) ≤ b
    · rw [if_pos hq]
      obtain ⟨h1, h2, h3, h4, h5, h6, h7⟩ := lgDrp_inv b Ls (o + (L.length : Int)) (c + (L.length : Int)) hok' (ne_tail hne)
      refine ⟨h1, h2, h3, by omega, by omega, .inr (by omega), ?_⟩
      rw [h7]
      simp only [lgR]
      have e : ((lgDrp b (o + (L.length : Int)) Ls (c + (L.length : Int))).2.1 - o).toNat = (recL o L).length + ((lgDrp b (o + (L.length : Int)) Ls (c + (L.length : Int))).2.1 - (o + (L.length : Int))).toNat := by rw [recL_len]; omega
      rw [e, List.drop_length_add_append]
    · rw [if_neg hq]
      exact ⟨hok, hne, rfl, by simp, Int.le_refl _, .inl rfl, by simp⟩
theorem drop_wf {lim : Int} {m : Nat} {o : Int} {Ls : List (List RV)} (h : WF lim m o Ls) (hm : m < 1000) (b : Int) : WF lim (m + 1) (lDrop b o Ls).2.1 (lDrop b o Ls).2.2 := by
  obtain ⟨h1, h2, h3, h4, h5, h6, h7⟩ := lgDrp_inv b Ls o 0 h.ok h.ne
  have hl := lgDrp_len b Ls o 0
  have ht := h.top
  have hll := h.len
  have ho := lgOk_o h.nn h.ok
  have hm0 := h.m0
  unfold lDrop
  by_cases he : (lgDrp b o Ls 0).2.2 = []
  · have e := lgDrp_end b Ls o 0 he
    simp only [he, if_pos]
    refine ⟨by simp, ⟨by omega, by omega, trivial, by simp [segB], trivial⟩, trivial, ?_, by simp, h.l0, h.l1, by omega⟩
    simp only [lgN, List.length_nil]; omega
  · simp only [if_neg he]
    exact ⟨he, h1, h2, by omega, by omega, h.l0, h.l1, by omega⟩
theorem lgCut_inv (f : Int) : ∀ (Ls : List (List RV)) (o : Int), lgOk o Ls → ne Ls → lgOk o (lgCut f o Ls) ∧ ne (lgCut f o Ls) ∧ lgN o (lgCut f o Ls) ≤ lgN o Ls ∧ (lgCut f o Ls).length ≤ Ls.length
  | [], o, _, _ => by simp [lgCut, lgOk, ne]
  | L :: Ls, o, hok, hne => by
    obtain ⟨o0, o1, hk, hb, hL, hok'⟩ := lgOk_cons hok
    simp only [lgCut]
    by_cases hq : o < f
    · rw [if_pos hq]
      obtain ⟨h1, h2, h3, h4⟩ := lgCut_inv f Ls (o + (L.length : Int)) hok' (ne_tail hne)
      have hkt : okL o (L.take (f - o).toNat) := by
        have := (okL_app (L.take (f - o).toNat) (L.drop (f - o).toNat) o).1 (by rw [List.take_append_drop]; exact hk)
        exact this.1
      have hbt : (segB o (L.take (f - o).toNat)).length ≤ 65536 := by
        have := posL_le o L (f - o).toNat
        have e : (segB o (L.take (f - o).toNat)).length = posL o L (f - o).toNat := rfl
        omega
      by_cases hc : L.length ≤ (f - o).toNat
      · rw [List.take_of_length_le hc]
        refine ⟨⟨o0, o1, hk, hb, h1⟩, ?_, by simp only [lgN]; exact h3, by simp; omega⟩
        cases hcc : lgCut f (o + (L.length : Int)) Ls with
        | nil => trivial
        | cons L' Ls' =>
          refine ⟨?_, by rw [← hcc]; exact h2⟩
          cases Ls with
          | nil => simp [lgCut] at hcc
          | cons L2 Ls2 => exact hne.1
      · rw [lgCut_out Ls (by omega)]
        have := lgN_le Ls (o + (L.length : Int))
        refine ⟨⟨o0, o1, hkt, hbt, trivial⟩, trivial, ?_, by simp⟩
        simp only [lgN, List.length_take]; omega
    · rw [if_neg hq]
      have := lgN_le (L :: Ls) o
      exact ⟨trivial, trivial, by simpa only [lgN] using this, by simp⟩
theorem cut_wf {lim : Int} {m : Nat} {o : Int} {Ls : List (List RV)} (h : WF lim m o Ls) (hm : m < 1000) (f : Int) : WF lim (m + 1) o (lCut f o Ls).2 := by
  obtain ⟨h1, h2, h3, h4⟩ := lgCut_inv f Ls o h.ok h.ne
  have ht := h.top
  have hll := h.len
  have ho := lgOk_o h.nn h.ok
  have hN := lgN_le Ls o
  unfold lCut
  split
  · exact h.more hm
  · split
    · exact h.more hm
    · by_cases he : lgCut f o Ls = []
      · simp only [he, if_pos]
        refine ⟨by simp, ⟨by omega, by omega, trivial, by simp [segB], trivial⟩, trivial, ?_, by simp, h.l0, h.l1, by omega⟩
        simp only [lgN, List.length_nil]; omega
      · simp only [if_neg he]
        exact ⟨he, h1, h2, by omega, by omega, h.l0, h.l1, by omega⟩
theorem lgOk_next : ∀ (Ls : List (List RV)) (o : Int), lgOk o Ls → ∀ x ∈ lgS o Ls, -9223372036854775808 ≤ x.2.1 ∧ x.2.1 ≤ 9223372036854775807
  | [], o, _, x, h => by simp [lgS] at h
  | L :: Ls, o, hok, x, h => by
    obtain ⟨o0, o1, hk, hb, hL, hok'⟩ := lgOk_cons hok
    simp only [lgS, List.mem_cons] at h
    rcases h with rfl | h
    · simp only [sg]; omega
    · exact lgOk_next Ls _ hok' x h
/-! ### the operations are few -/
theorem short_loop (A : List WAct) (hA : A.length ≤ 1000) : ∀ (d j k : Nat), j + d = A.length → d < k →
    loopN st7_0 k ((A, (j : Int)), ()) = some (.inr false) ∨ loopN st7_0 k ((A, (j : Int)), ()) = some (.inl ((), ())) := by
  intro d
  induction d with
  | zero =>
    intro j k hj hd
    cases k with
    | zero => omega
    | succ k =>
      refine .inr ?_
      rw [loopN_s]; generalize loopN st7_0 k = LL at *; dsimp only [st7_0]
      rw [cf (by (rw [Bool.eq_false_iff]; simp only [ne_eq, Bool.and_eq_true, Bool.or_eq_true, decide_eq_true_eq, beq_iff_eq, bne_iff_ne, Bool.not_eq_true', decide_eq_false_iff_not, and_true, true_and]; omega))]
  | succ d ih =>
    intro j k hj hd
    cases k with
    | zero => omega
    | succ k =>
      have ih' := ih (j + 1) k (by omega) (by omega)
      rw [loopN_s]; generalize loopN st7_0 k = LL at ih' ⊢; dsimp only [st7_0]
      have hin : (decide (0 ≤ (j : Int)) && decide ((j : Int) < (A.length : Int))) = true := by (simp only [ne_eq, Bool.and_eq_true, Bool.or_eq_true, decide_eq_true_eq, beq_iff_eq, bne_iff_ne, Bool.not_eq_true', decide_eq_false_iff_not, and_true, true_and]; omega)
      rw [ct (by (simp only [ne_eq, Bool.and_eq_true, Bool.or_eq_true, decide_eq_true_eq, beq_iff_eq, bne_iff_ne, Bool.not_eq_true', decide_eq_false_iff_not, and_true, true_and]; omega)), ct hin, i64w (n := (j : Int) + 1) (by omega) (by omega)]
      generalize A.getD (Int.toNat j) (0, 0, 0, 0, 0, [], []) = x
      by_cases hb : ((List.length x.2.2.2.2.2.1 : Nat) : Int) > 200
      · rw [ct (decide_eq_true hb)]; exact .inl rfl
      · rw [cf (decide_eq_false hb), ct hin]
        by_cases hb2 : ((List.length x.2.2.2.2.2.2 : Nat) : Int) > 200
        · rw [ct (decide_eq_true hb2)]; exact .inl rfl
        · rw [cf (decide_eq_false hb2)]; exact ih'
theorem short_eq (A : List WAct) : ∃ r, g7 A = some r ∧ (r = true → A.length ≤ 40) := by
  unfold g7
  by_cases h : ((List.length A : Nat) : Int) > 40
  · rw [ct (by (simp only [ne_eq, Bool.and_eq_true, Bool.or_eq_true, decide_eq_true_eq, beq_iff_eq, bne_iff_ne, Bool.not_eq_true', decide_eq_false_iff_not, and_true, true_and]; omega))]; exact ⟨false, rfl, by simp⟩
  · rw [cf (by (rw [Bool.eq_false_iff]; simp only [ne_eq, Bool.and_eq_true, Bool.or_eq_true, decide_eq_true_eq, beq_iff_eq, bne_iff_ne, Bool.not_eq_true', decide_eq_false_iff_not, and_true, true_and]; omega))]
    have := short_loop A (by omega) A.length 0 fuel (by omega) (by rw [fuel_eq]; omega)
    have this' : h7_0 ((A, 0), ()) = some (.inr false) ∨ h7_0 ((A, 0), ()) = some (.inl ((), ())) := this
    rcases this' with h1 | h1 <;> rw [h1]
    · exact ⟨false, rfl, by simp⟩
    · exact ⟨true, rfl, fun _ => by omega⟩
end Go.Proofs.Ytbncnkchedhnpaa.EVT

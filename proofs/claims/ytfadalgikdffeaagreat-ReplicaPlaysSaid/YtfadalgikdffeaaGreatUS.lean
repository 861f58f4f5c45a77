/- What functions compute, as printed (U, part S). -/
import Derived.Test.YtfadalgikdffeaaGreatUR
set_option linter.unusedVariables false
set_option maxRecDepth 100000
set_option maxHeartbeats 0
namespace Go.Proofs.YtfadalgikdffeaaGreat.EVT
open Go Go.EV
/-! ### broker/brokerlaw41.ReplicaPlays -/
noncomputable def c3 : Code := Tryz.f3.body.getD .skip
noncomputable def env3 : Env := mkEnv [(4, i4), (5, i5), (6, i6), (7, i7), (8, i8), (9, i9), (10, i10), (11, i11), (12, i12), (13, i13), (14, i14), (15, i15), (16, i16), (17, i17), (18, i18), (19, i19), (21, i21), (22, i22), (20, i20)]
abbrev ps3 : List PSh := [.d QS1, .d QS2]
abbrev D3 : Type := pairD (.ty .b) (osOf ps3)
def ns3_0 : NS := { slots := [(2, .pt 2 []), (31, .ty QS2), (32, .ty (.i .i64)), (33, .ty (.i .i64))], roots := [(2, .ty QS1)] }
def ex3_0 : List (Nat × NS) := [(0, { slots := [], roots := [] })]
noncomputable def st3_0 (ih : (((List QT1) × Int × Int) × ((Int × Int × Int × Int × Int × Int × List Int) × Int × List (Int × List UInt8) × List Int)) → Option (((Unit) × (Unit)) ⊕ Bool)) : (((List QT1) × Int × Int) × ((Int × Int × Int × Int × Int × Int × List Int) × Int × List (Int × List UInt8) × List Int)) → Option (((Unit) × (Unit)) ⊕ Bool) := fun ((t31, t32, t33), ((r2_0_0, r2_0_1, r2_0_2, r2_0_3, r2_0_4, r2_0_5, r2_0_6), r2_1, r2_2, r2_3)) =>
  cond (decide (t33 < t32))
    (cond (decide (0 ≤ t33) && decide (t33 < (↑t31.length : Int)))
      (cond ((t31.getD t33.toNat (0, [], 0, 0, 0, 0, 0, 0, 0, false, [])).1 == 0)
        (Option.bind (g8 r2_0_0 r2_0_1 r2_0_2 r2_0_3 r2_0_4 r2_0_5 r2_0_6 r2_1 r2_2 r2_3) fun v1 =>
        Option.bind (g9 r2_0_0 r2_0_1 r2_0_2 r2_0_3 r2_0_4 r2_0_5 r2_0_6 r2_1 r2_2 r2_3) fun v2 =>
        Option.bind (g12 v1.1.1.1 v1.1.1.2.1 v1.1.1.2.2.1 v1.1.1.2.2.2.1 v1.1.1.2.2.2.2.1 v1.1.1.2.2.2.2.2.1 v1.1.1.2.2.2.2.2.2 v1.1.2.1 v1.1.2.2.1 v1.1.2.2.2 v2.1.1.1 v2.1.1.2.1 v2.1.1.2.2.1 v2.1.1.2.2.2.1 v2.1.1.2.2.2.2.1 v2.1.1.2.2.2.2.2.1 v2.1.1.2.2.2.2.2.2 v2.1.2.1 v2.1.2.2.1 v2.1.2.2.2) fun v3 =>
        cond (!v3)
          (some (Sum.inr false))
          (Option.bind (g17 v1.2 v2.2) fun v4 =>
          cond (!v4)
            (some (Sum.inr false))
            (Option.bind (g18 v2.1.1.1 v2.1.1.2.1 v2.1.1.2.2.1 v2.1.1.2.2.2.1 v2.1.1.2.2.2.2.1 v2.1.1.2.2.2.2.2.1 v2.1.1.2.2.2.2.2.2 v2.1.2.1 v2.1.2.2.1 v2.1.2.2.2) fun v5 =>
            Option.bind (g19 v2.1.1.1 v2.1.1.2.1 v2.1.1.2.2.1 v2.1.1.2.2.2.1 v2.1.1.2.2.2.2.1 v2.1.1.2.2.2.2.2.1 v2.1.1.2.2.2.2.2.2 v2.1.2.1 v2.1.2.2.1 v2.1.2.2.2) fun v6 =>
            Option.bind (g17 v5 v6) fun v7 =>
            cond (!v7)
              (some (Sum.inr false))
              (Option.bind (g21 v2.1.1.1 v2.1.1.2.1 v2.1.1.2.2.1 v2.1.1.2.2.2.1 v2.1.1.2.2.2.2.1 v2.1.1.2.2.2.2.2.1 v2.1.1.2.2.2.2.2.2 v2.1.2.1 v2.1.2.2.1 v2.1.2.2.2) fun v8 =>
              Option.bind (g22 v2.1.1.1 v2.1.1.2.1 v2.1.1.2.2.1 v2.1.1.2.2.2.1 v2.1.1.2.2.2.2.1 v2.1.1.2.2.2.2.2.1 v2.1.1.2.2.2.2.2.2 v2.1.2.1 v2.1.2.2.1 v2.1.2.2.2) fun v9 =>
              Option.bind (g20 v8 v9) fun v10 =>
              cond (!v10)
                (some (Sum.inr false))
                (ih ((t31, t32, IntKind.i64.wrap (t33 + 1)), v2.1))))))
        (cond ((t31.getD t33.toNat (0, [], 0, 0, 0, 0, 0, 0, 0, false, [])).1 == 1)
          (Option.bind (g10 r2_0_0 r2_0_1 r2_0_2 r2_0_3 r2_0_4 r2_0_5 r2_0_6 r2_1 r2_2 r2_3 (t31.getD t33.toNat (0, [], 0, 0, 0, 0, 0, 0, 0, false, [])).2.1) fun v11 =>
          Option.bind (g11 r2_0_0 r2_0_1 r2_0_2 r2_0_3 r2_0_4 r2_0_5 r2_0_6 r2_1 r2_2 r2_3 (t31.getD t33.toNat (0, [], 0, 0, 0, 0, 0, 0, 0, false, [])).2.1) fun v12 =>
          cond (v11.2.1 != v12.2.1)
            (some (Sum.inr false))
            (cond (v11.2.2 != v12.2.2)
              (some (Sum.inr false))
              (cond (v12.2.2 != 0)
                (Option.bind (g12 v11.1.1.1 v11.1.1.2.1 v11.1.1.2.2.1 v11.1.1.2.2.2.1 v11.1.1.2.2.2.2.1 v11.1.1.2.2.2.2.2.1 v11.1.1.2.2.2.2.2.2 v11.1.2.1 v11.1.2.2.1 v11.1.2.2.2 v12.1.1.1 v12.1.1.2.1 v12.1.1.2.2.1 v12.1.1.2.2.2.1 v12.1.1.2.2.2.2.1 v12.1.1.2.2.2.2.2.1 v12.1.1.2.2.2.2.2.2 v12.1.2.1 v12.1.2.2.1 v12.1.2.2.2) fun v13 =>
                cond (!v13)
                  (some (Sum.inr false))
                  (Option.bind (g12 r2_0_0 r2_0_1 r2_0_2 r2_0_3 r2_0_4 r2_0_5 r2_0_6 r2_1 r2_2 r2_3 r2_0_0 r2_0_1 r2_0_2 r2_0_3 r2_0_4 r2_0_5 r2_0_6 r2_1 r2_2 r2_3) fun v14 =>
                  cond (!v14)
                    (some (Sum.inr false))
                    (Option.bind (g17 [] []) fun v15 =>
                    cond (!v15)
                      (some (Sum.inr false))
                      (Option.bind (g18 r2_0_0 r2_0_1 r2_0_2 r2_0_3 r2_0_4 r2_0_5 r2_0_6 r2_1 r2_2 r2_3) fun v16 =>
                      Option.bind (g19 r2_0_0 r2_0_1 r2_0_2 r2_0_3 r2_0_4 r2_0_5 r2_0_6 r2_1 r2_2 r2_3) fun v17 =>
                      Option.bind (g17 v16 v17) fun v18 =>
                      cond (!v18)
                        (some (Sum.inr false))
                        (Option.bind (g21 r2_0_0 r2_0_1 r2_0_2 r2_0_3 r2_0_4 r2_0_5 r2_0_6 r2_1 r2_2 r2_3) fun v19 =>
                        Option.bind (g22 r2_0_0 r2_0_1 r2_0_2 r2_0_3 r2_0_4 r2_0_5 r2_0_6 r2_1 r2_2 r2_3) fun v20 =>
                        Option.bind (g20 v19 v20) fun v21 =>
                        cond (!v21)
                          (some (Sum.inr false))
                          (ih ((t31, t32, IntKind.i64.wrap (t33 + 1)), (r2_0_0, r2_0_1, r2_0_2, r2_0_3, r2_0_4, r2_0_5, r2_0_6), r2_1, r2_2, r2_3)))))))
                (Option.bind (g12 v11.1.1.1 v11.1.1.2.1 v11.1.1.2.2.1 v11.1.1.2.2.2.1 v11.1.1.2.2.2.2.1 v11.1.1.2.2.2.2.2.1 v11.1.1.2.2.2.2.2.2 v11.1.2.1 v11.1.2.2.1 v11.1.2.2.2 v12.1.1.1 v12.1.1.2.1 v12.1.1.2.2.1 v12.1.1.2.2.2.1 v12.1.1.2.2.2.2.1 v12.1.1.2.2.2.2.2.1 v12.1.1.2.2.2.2.2.2 v12.1.2.1 v12.1.2.2.1 v12.1.2.2.2) fun v22 =>
                cond (!v22)
                  (some (Sum.inr false))
                  (Option.bind (g17 [] []) fun v23 =>
                  cond (!v23)
                    (some (Sum.inr false))
                    (Option.bind (g18 v12.1.1.1 v12.1.1.2.1 v12.1.1.2.2.1 v12.1.1.2.2.2.1 v12.1.1.2.2.2.2.1 v12.1.1.2.2.2.2.2.1 v12.1.1.2.2.2.2.2.2 v12.1.2.1 v12.1.2.2.1 v12.1.2.2.2) fun v24 =>
                    Option.bind (g19 v12.1.1.1 v12.1.1.2.1 v12.1.1.2.2.1 v12.1.1.2.2.2.1 v12.1.1.2.2.2.2.1 v12.1.1.2.2.2.2.2.1 v12.1.1.2.2.2.2.2.2 v12.1.2.1 v12.1.2.2.1 v12.1.2.2.2) fun v25 =>
                    Option.bind (g17 v24 v25) fun v26 =>
                    cond (!v26)
                      (some (Sum.inr false))
                      (Option.bind (g21 v12.1.1.1 v12.1.1.2.1 v12.1.1.2.2.1 v12.1.1.2.2.2.1 v12.1.1.2.2.2.2.1 v12.1.1.2.2.2.2.2.1 v12.1.1.2.2.2.2.2.2 v12.1.2.1 v12.1.2.2.1 v12.1.2.2.2) fun v27 =>
                      Option.bind (g22 v12.1.1.1 v12.1.1.2.1 v12.1.1.2.2.1 v12.1.1.2.2.2.1 v12.1.1.2.2.2.2.1 v12.1.1.2.2.2.2.2.1 v12.1.1.2.2.2.2.2.2 v12.1.2.1 v12.1.2.2.1 v12.1.2.2.2) fun v28 =>
                      Option.bind (g20 v27 v28) fun v29 =>
                      cond (!v29)
                        (some (Sum.inr false))
                        (ih ((t31, t32, IntKind.i64.wrap (t33 + 1)), v12.1)))))))))
          (cond ((t31.getD t33.toNat (0, [], 0, 0, 0, 0, 0, 0, 0, false, [])).1 == 2)
            (Option.bind (g13 r2_0_0 r2_0_1 r2_0_2 r2_0_3 r2_0_4 r2_0_5 r2_0_6 r2_1 r2_2 r2_3 (t31.getD t33.toNat (0, [], 0, 0, 0, 0, 0, 0, 0, false, [])).2.2.1 (t31.getD t33.toNat (0, [], 0, 0, 0, 0, 0, 0, 0, false, [])).2.2.2.1 (t31.getD t33.toNat (0, [], 0, 0, 0, 0, 0, 0, 0, false, [])).2.2.2.2.1 (t31.getD t33.toNat (0, [], 0, 0, 0, 0, 0, 0, 0, false, [])).2.2.2.2.2.1 (t31.getD t33.toNat (0, [], 0, 0, 0, 0, 0, 0, 0, false, [])).2.2.2.2.2.2.1 (t31.getD t33.toNat (0, [], 0, 0, 0, 0, 0, 0, 0, false, [])).2.2.2.2.2.2.2.1 (t31.getD t33.toNat (0, [], 0, 0, 0, 0, 0, 0, 0, false, [])).2.2.2.2.2.2.2.2.1 (t31.getD t33.toNat (0, [], 0, 0, 0, 0, 0, 0, 0, false, [])).2.2.2.2.2.2.2.2.2.1 (t31.getD t33.toNat (0, [], 0, 0, 0, 0, 0, 0, 0, false, [])).2.2.2.2.2.2.2.2.2.2) fun v30 =>
            Option.bind (g14 r2_0_0 r2_0_1 r2_0_2 r2_0_3 r2_0_4 r2_0_5 r2_0_6 r2_1 r2_2 r2_3 (t31.getD t33.toNat (0, [], 0, 0, 0, 0, 0, 0, 0, false, [])).2.2.1 (t31.getD t33.toNat (0, [], 0, 0, 0, 0, 0, 0, 0, false, [])).2.2.2.1 (t31.getD t33.toNat (0, [], 0, 0, 0, 0, 0, 0, 0, false, [])).2.2.2.2.1 (t31.getD t33.toNat (0, [], 0, 0, 0, 0, 0, 0, 0, false, [])).2.2.2.2.2.1 (t31.getD t33.toNat (0, [], 0, 0, 0, 0, 0, 0, 0, false, [])).2.2.2.2.2.2.1 (t31.getD t33.toNat (0, [], 0, 0, 0, 0, 0, 0, 0, false, [])).2.2.2.2.2.2.2.1 (t31.getD t33.toNat (0, [], 0, 0, 0, 0, 0, 0, 0, false, [])).2.2.2.2.2.2.2.2.1 (t31.getD t33.toNat (0, [], 0, 0, 0, 0, 0, 0, 0, false, [])).2.2.2.2.2.2.2.2.2.1 (t31.getD t33.toNat (0, [], 0, 0, 0, 0, 0, 0, 0, false, [])).2.2.2.2.2.2.2.2.2.2) fun v31 =>
            Option.bind (g12 v30.1.1.1 v30.1.1.2.1 v30.1.1.2.2.1 v30.1.1.2.2.2.1 v30.1.1.2.2.2.2.1 v30.1.1.2.2.2.2.2.1 v30.1.1.2.2.2.2.2.2 v30.1.2.1 v30.1.2.2.1 v30.1.2.2.2 v31.1.1.1 v31.1.1.2.1 v31.1.1.2.2.1 v31.1.1.2.2.2.1 v31.1.1.2.2.2.2.1 v31.1.1.2.2.2.2.2.1 v31.1.1.2.2.2.2.2.2 v31.1.2.1 v31.1.2.2.1 v31.1.2.2.2) fun v32 =>
            cond (!v32)
              (some (Sum.inr false))
              (Option.bind (g17 v30.2 v31.2) fun v33 =>
              cond (!v33)
                (some (Sum.inr false))
                (Option.bind (g18 v31.1.1.1 v31.1.1.2.1 v31.1.1.2.2.1 v31.1.1.2.2.2.1 v31.1.1.2.2.2.2.1 v31.1.1.2.2.2.2.2.1 v31.1.1.2.2.2.2.2.2 v31.1.2.1 v31.1.2.2.1 v31.1.2.2.2) fun v34 =>
                Option.bind (g19 v31.1.1.1 v31.1.1.2.1 v31.1.1.2.2.1 v31.1.1.2.2.2.1 v31.1.1.2.2.2.2.1 v31.1.1.2.2.2.2.2.1 v31.1.1.2.2.2.2.2.2 v31.1.2.1 v31.1.2.2.1 v31.1.2.2.2) fun v35 =>
                Option.bind (g17 v34 v35) fun v36 =>
                cond (!v36)
                  (some (Sum.inr false))
                  (Option.bind (g21 v31.1.1.1 v31.1.1.2.1 v31.1.1.2.2.1 v31.1.1.2.2.2.1 v31.1.1.2.2.2.2.1 v31.1.1.2.2.2.2.2.1 v31.1.1.2.2.2.2.2.2 v31.1.2.1 v31.1.2.2.1 v31.1.2.2.2) fun v37 =>
                  Option.bind (g22 v31.1.1.1 v31.1.1.2.1 v31.1.1.2.2.1 v31.1.1.2.2.2.1 v31.1.1.2.2.2.2.1 v31.1.1.2.2.2.2.2.1 v31.1.1.2.2.2.2.2.2 v31.1.2.1 v31.1.2.2.1 v31.1.2.2.2) fun v38 =>
                  Option.bind (g20 v37 v38) fun v39 =>
                  cond (!v39)
                    (some (Sum.inr false))
                    (ih ((t31, t32, IntKind.i64.wrap (t33 + 1)), v31.1))))))
            (Option.bind (g15 r2_0_0 r2_0_1 r2_0_2 r2_0_3 r2_0_4 r2_0_5 r2_0_6 r2_1 r2_2 r2_3) fun v40 =>
            Option.bind (g16 r2_0_0 r2_0_1 r2_0_2 r2_0_3 r2_0_4 r2_0_5 r2_0_6 r2_1 r2_2 r2_3) fun v41 =>
            Option.bind (g12 v40.1.1 v40.1.2.1 v40.1.2.2.1 v40.1.2.2.2.1 v40.1.2.2.2.2.1 v40.1.2.2.2.2.2.1 v40.1.2.2.2.2.2.2 v40.2.1 v40.2.2.1 v40.2.2.2 v41.1.1 v41.1.2.1 v41.1.2.2.1 v41.1.2.2.2.1 v41.1.2.2.2.2.1 v41.1.2.2.2.2.2.1 v41.1.2.2.2.2.2.2 v41.2.1 v41.2.2.1 v41.2.2.2) fun v42 =>
            cond (!v42)
              (some (Sum.inr false))
              (Option.bind (g17 [] []) fun v43 =>
              cond (!v43)
                (some (Sum.inr false))
                (Option.bind (g18 v41.1.1 v41.1.2.1 v41.1.2.2.1 v41.1.2.2.2.1 v41.1.2.2.2.2.1 v41.1.2.2.2.2.2.1 v41.1.2.2.2.2.2.2 v41.2.1 v41.2.2.1 v41.2.2.2) fun v44 =>
                Option.bind (g19 v41.1.1 v41.1.2.1 v41.1.2.2.1 v41.1.2.2.2.1 v41.1.2.2.2.2.1 v41.1.2.2.2.2.2.1 v41.1.2.2.2.2.2.2 v41.2.1 v41.2.2.1 v41.2.2.2) fun v45 =>
                Option.bind (g17 v44 v45) fun v46 =>
                cond (!v46)
                  (some (Sum.inr false))
                  (Option.bind (g21 v41.1.1 v41.1.2.1 v41.1.2.2.1 v41.1.2.2.2.1 v41.1.2.2.2.2.1 v41.1.2.2.2.2.2.1 v41.1.2.2.2.2.2.2 v41.2.1 v41.2.2.1 v41.2.2.2) fun v47 =>
                  Option.bind (g22 v41.1.1 v41.1.2.1 v41.1.2.2.1 v41.1.2.2.2.1 v41.1.2.2.2.2.1 v41.1.2.2.2.2.2.1 v41.1.2.2.2.2.2.2 v41.2.1 v41.2.2.1 v41.2.2.2) fun v48 =>
                  Option.bind (g20 v47 v48) fun v49 =>
                  cond (!v49)
                    (some (Sum.inr false))
                    (ih ((t31, t32, IntKind.i64.wrap (t33 + 1)), v41)))))))))
      (none))
    (some (Sum.inl ((), ())))
noncomputable def h3_0 : (((List QT1) × Int × Int) × ((Int × Int × Int × Int × Int × Int × List Int) × Int × List (Int × List UInt8) × List Int)) → Option (((Unit) × (Unit)) ⊕ Bool) := loopN st3_0 fuel
noncomputable def l3_0 : LI D3 := ⟨ns3_0, ex3_0, h3_0⟩
noncomputable def lv3 : Nat → Option (LI D3) := fun q => if q = 4 then some l3_0 else (fun _ => none) q
noncomputable def g3 (a0_0_0 : Int) (a0_0_1 : Int) (a0_0_2 : Int) (a0_0_3 : Int) (a0_0_4 : Int) (a0_0_5 : Int) (a0_0_6 : List Int) (a0_1 : Int) (a0_2 : List (Int × List UInt8)) (a0_3 : List Int) (a1 : List QT1) : Option (Bool) :=
  Option.bind (g4 a0_0_0 a0_0_1 a0_0_2 a0_0_3 a0_0_4 a0_0_5 a0_0_6 a0_1 a0_2 a0_3) fun v1 =>
  cond (!v1)
    (Option.bind (g7) fun v2 =>
    some (v2))
    (Option.bind (g5 a1) fun v3 =>
    cond (!v3)
      (Option.bind (g7) fun v4 =>
      some (v4))
      (Option.bind (g6 a0_0_0 a0_0_1 a0_0_2 a0_0_3 a0_0_4 a0_0_5 a0_0_6 a0_1 a0_2 a0_3) fun v5 =>
      cond (v5 != 0)
        (Option.bind (g7) fun v6 =>
        some (v6))
        (Option.bind (h3_0 ((a1, (↑a1.length : Int), 0), (a0_0_0, a0_0_1, a0_0_2, a0_0_3, a0_0_4, a0_0_5, a0_0_6), a0_1, a0_2, a0_3)) fun v7 =>
        match v7 with
        | .inl x8 =>
          Option.bind (g7) fun v9 =>
          some (v9)
        | .inr x8 =>
          some (x8))))
noncomputable def i3 : FI := ⟨ps3, .ty .b, fun (((a0_0_0, a0_0_1, a0_0_2, a0_0_3, a0_0_4, a0_0_5, a0_0_6), a0_1, a0_2, a0_3), a1) => g3 a0_0_0 a0_0_1 a0_0_2 a0_0_3 a0_0_4 a0_0_5 a0_0_6 a0_1 a0_2 a0_3 a1⟩
theorem s3_0 : st3_0 = stepEval T Y env3 an lv3 (finO T true ps3 (.ty .b) Tryz.f3.results.toList) (loopAt c3 0) ns3_0 ex3_0 := by kernel_rfl
theorem e3 : (fun a => i3.G a) = fnEval T Y env3 an i3.ps i3.rs true Tryz.f3.results.toList lv3 c3 := by kernel_rfl
theorem lo3 : loopsOf c3 = [loopAt c3 0] := by kernel_rfl
theorem ll3 : LoopsOk T Y env3 an lv3 (finO T true ps3 (.ty .b) Tryz.f3.results.toList) c3 := loopsOk_of (by rw [lo3]; exact ⟨loop1 (li := l3_0) (by kernel_rfl) (by kernel_rfl) s3_0, trivial⟩)
theorem k3 : FnOk Tryz.prog 3 i3 :=
  fn_ok (T := T) (Y := Y) (an := an) (env := env3) (fr := true) (lenv := lv3) mixed tok.1 tok.2 (envCons k4 (envCons k5 (envCons k6 (envCons k7 (envCons k8 (envCons k9 (envCons k10 (envCons k11 (envCons k12 (envCons k13 (envCons k14 (envCons k15 (envCons k16 (envCons k17 (envCons k18 (envCons k19 (envCons k21 (envCons k22 (envCons k20 (envNil)))))))))))))))))))) (fn := Tryz.f3) (c := c3) (by kernel_rfl) (by kernel_rfl) (by kernel_rfl) ll3 (fun a => congrFun e3 a)
end Go.Proofs.YtfadalgikdffeaaGreat.EVT

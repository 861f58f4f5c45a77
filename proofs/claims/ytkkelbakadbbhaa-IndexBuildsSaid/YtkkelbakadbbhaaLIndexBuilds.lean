/- The law IndexBuilds: both build the same marks, and agree on which marks are a segment's. -/
import Derived.Test.YtkkelbakadbbhaaQC
import Derived.Test.YtkkelbakadbbhaaUJ
set_option linter.unusedVariables false
set_option linter.unusedSimpArgs false
namespace Go.Proofs.Ytkkelbakadbbhaa.EVT
open Go Go.EV

theorem law_builds (o nx : Int) (b : List UInt8) (e : Int) (l : List Mark) : g9 o nx b e l = some true := by
  unfold g9
  obtain ⟨v, hv1, hv2⟩ := valid_eq o nx b l
  rw [awake33, hv1]
  simp only [Option.bind_some]
  cases v with
  | false => rfl
  | true =>
    obtain ⟨h1, h2, h3, h4, L, hk, rfl, rfl⟩ := hv2 rfl
    have hL := segB_len L o hk
    rw [cf (b := !true) rfl, Build_eq hk rfl (by omega), ref_Build_eq hk rfl (by omega)]
    simp only [Option.bind_some]
    have hbl := bldM_len (evr e) o L L.length
    rw [Same_eq _ (by omega)]
    simp only [Option.bind_some]
    obtain ⟨r, k1, k2⟩ := index_Check_eq hk rfl (by omega) (o + (L.length : Int)) l (by omega)
    obtain ⟨r', k3, k4⟩ := ref_index_Check_eq hk rfl (by omega) (o + (L.length : Int)) l (by omega)
    have e1 : r = r' := Bool.eq_iff_iff.2 (k2.trans k4.symm)
    subst e1
    rw [ct rfl, k1]
    simp only [Option.bind_some]
    rw [k3]
    simp
theorem IndexBuilds {a0 : Ty.den (.st (.pr (.i .i64) (.pr (.i .i64) (.sl .u8))))} {a1 : Ty.den (.i .i64)} {a2 : Ty.den (.sl (.st (.pr (.i .i64) (.i .i64))))} (h0 : Bd _ a0) (h1 : Bd _ a1) (h2 : Bd _ a2) : i9.G (a0, a1, a2) = some true := law_builds a0.1 a0.2.1 a0.2.2 a1 a2
end Go.Proofs.Ytkkelbakadbbhaa.EVT

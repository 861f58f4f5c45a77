/- The law IndexReads: both read the same records, in as many steps. -/
import Derived.Test.YtkkelbakadbbhaaQD
import Derived.Test.YtkkelbakadbbhaaUJ
set_option linter.unusedVariables false
set_option linter.unusedSimpArgs false
namespace Go.Proofs.Ytkkelbakadbbhaa.EVT
open Go Go.EV

theorem law_reads (o nx : Int) (b : List UInt8) (l : List Mark) (f n : Int) : g11 o nx b l f n = some true := by
  unfold g11
  obtain ⟨v, hv1, hv2⟩ := valid_eq o nx b l
  rw [awake33, hv1]
  simp only [Option.bind_some]
  cases v with
  | false => rfl
  | true =>
    obtain ⟨h1, h2, h3, h4, L, hk, rfl, rfl⟩ := hv2 rfl
    have hL := segB_len L o hk
    obtain ⟨r', k3, k4⟩ := ref_index_Check_eq hk rfl (by omega) (o + (L.length : Int)) l (by omega)
    rw [cf (b := !true) rfl, k3]
    simp only [Option.bind_some]
    cases r' with
    | false => rfl
    | true =>
      have hg := k4.1 rfl
      have hlen := rdR_len f n (recL o L) []
      rw [recL_len] at hlen
      simp only [List.length_nil] at hlen
      obtain ⟨c, c1, c2⟩ := Steps_eq hk rfl (by omega) h3 h4 f (by omega) hg
      rw [cf (b := !true) rfl, Read_eq hk rfl (by omega) _ f n (by omega) hg, ref_Read_eq hk rfl (by omega)]
      simp only [Option.bind_some]
      rw [SameR_eq _ (by omega)]
      simp only [Option.bind_some]
      rw [ct rfl, c1]
      simp only [Option.bind_some]
      rw [c2]
      simp
theorem IndexReads {a0 : Ty.den (.st (.pr (.i .i64) (.pr (.i .i64) (.sl .u8))))} {a1 : Ty.den (.sl (.st (.pr (.i .i64) (.i .i64))))} {a2 : Ty.den (.st (.pr (.i .i64) (.i .i64)))} (h0 : Bd _ a0) (h1 : Bd _ a1) (h2 : Bd _ a2) : i11.G (a0, a1, a2) = some true := law_reads a0.1 a0.2.1 a0.2.2 a1 a2.1 a2.2
end Go.Proofs.Ytkkelbakadbbhaa.EVT

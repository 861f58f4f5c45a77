/- The laws' examples hold: packages pack and frame. -/
import Derived.Test.YtkklehfcadkikaaSc
import Derived.Test.YtkklehfcadkikaaJbrokerlaw03awake
set_option linter.unusedVariables false
set_option linter.unusedSimpArgs false
namespace Go.Proofs.Ytkklehfcadkikaa.Sp
open Go.RowKit Go.Proofs.YtkklehfcadkikaaW.PrintWords Go.Proofs.YtkklehfcadkikaaW.PrintLast Go.Proofs.YtkklehfcadkikaaW.PrintMore Go.Proofs.Ytkklehfcadkikaa.J
theorem awake03 : Ev (fun k => brokerlaw03_awake.f k) true := Ev.of (fun k => brokerlaw03_awake.mono k) (k := 40) (by kernel_rfl)
end Go.Proofs.Ytkklehfcadkikaa.Sp

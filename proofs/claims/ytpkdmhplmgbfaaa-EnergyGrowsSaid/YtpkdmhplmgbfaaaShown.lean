/- What the program says of the document's examples on energies, reckoned out: cupellaw34.shown answers true. -/
import Derived.Test.YtpkdmhplmgbfaaaAx4
set_option linter.unusedVariables false
namespace Go.Proofs.Ytpkdmhplmgbfaaa.A
open Go.RowKit Go.Proofs.YtpkdmhplmgbfaaaW.PrintWords Go.Proofs.YtpkdmhplmgbfaaaW.PrintLast Go.Proofs.YtpkdmhplmgbfaaaW.PrintMore
theorem shown_true : cupellaw34_shown.f 30 = some true := by decide +kernel
theorem shown_ev : Ev (fun k => cupellaw34_shown.f k) true := Ev.of cupellaw34_shown.mono shown_true
end Go.Proofs.Ytpkdmhplmgbfaaa.A

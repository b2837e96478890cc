/- energy.Choose and the reference's Choose answer alike: for every list of energies and every state, the law EnergyChoices answers true. No condition. -/
import Derived.Test.YtpkdmhplmgbfaaaPl2
namespace Go.Proofs.Ytpkdmhplmgbfaaa.Pure
open Go.Proofs.Ytpkdmhplmgbfaaa.A
theorem EnergyChoices : cupellaw34_EnergyChoices.Pure := A.EnergyChoices
end Go.Proofs.Ytpkdmhplmgbfaaa.Pure

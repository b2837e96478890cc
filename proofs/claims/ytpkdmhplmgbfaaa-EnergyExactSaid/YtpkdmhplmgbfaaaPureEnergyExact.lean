/- EnergyExact: where the rates are all zero and no cost is unmeasured, the energies that TopEnergies' shares sum to the whole -/
import Derived.Test.YtpkdmhplmgbfaaaPl7
namespace Go.Proofs.Ytpkdmhplmgbfaaa.Pure
open Go.Proofs.Ytpkdmhplmgbfaaa.A
theorem EnergyExact : cupellaw34_EnergyExact.Pure := A.EnergyExact
end Go.Proofs.Ytpkdmhplmgbfaaa.Pure

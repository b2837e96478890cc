/- energy.Shares and the reference's Shares answer alike: for every list of energies and every number of runs, the law EnergyShares answers true. No condition. -/
import Derived.Test.YtpkdmhplmgbfaaaPl6
namespace Go.Proofs.Ytpkdmhplmgbfaaa.Pure
open Go.Proofs.Ytpkdmhplmgbfaaa.A
theorem EnergyShares : cupellaw34_EnergyShares.Pure := A.EnergyShares
end Go.Proofs.Ytpkdmhplmgbfaaa.Pure

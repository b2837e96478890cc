/- The reference's Key is the program's. -/
import Derived.Test.YtndennmpnomjnaaDoorPe
import Derived.Test.YtndennmpnomjnaaDoorPc
set_option linter.all false
set_option linter.unusedVariables false
namespace Go.Proofs.YtndennmpnomjnaaDoor.A
open Go.RowKit Go.Lib Go.Proofs.YtndennmpnomjnaaDoorW.PrintWords Go.Proofs.YtndennmpnomjnaaDoorW.PrintMore
/-! ### Numbers -/
/-! ### The text of a difference -/
theorem rdT45_mem {l : List S45} {i : Int} (h0 : 0 ≤ i) (h1 : i < l.length) : rd_T45 l i ∈ l := by
 unfold rd_T45
 rw [List.getD_eq_getElem?_getD, List.getElem?_eq_getElem (by omega)]
 exact List.getElem_mem _
/-- What is asked of one outcome. -/
def Tame (o : S45) : Prop := o.f0.size ≤ 1010 ∧ -9223372036854775808 ≤ o.f1.f2 ∧ o.f1.f2 ≤ 9223372036854775807
/-! ### The key -/
theorem os_drop {l : List S45} {i : Nat} (h : i < l.length) : l.drop i = rd_T45 l (i : Int) :: l.drop (i + 1) := by
 rw [List.drop_eq_getElem_cons h]
 simp [rd_T45, h]
end Go.Proofs.YtndennmpnomjnaaDoor.A

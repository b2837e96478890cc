/- Groups of the program and of the reference, their results as rows alone. -/
import Derived.Test.YtndennmpnomjnaaDoorGr
import Derived.Test.YtndennmpnomjnaaDoorAx9
set_option linter.all false
namespace Go.Proofs.YtndennmpnomjnaaDoor.A
open Go.RowKit Go.Proofs.YtndennmpnomjnaaDoorW.PrintWords Go.Proofs.YtndennmpnomjnaaDoorW.PrintLast Go.Proofs.YtndennmpnomjnaaDoorW.PrintMore
def gGroups.f (k : Nat) (l0 : List ByteArray) : Option ((List S35) × Int) := groups_Groups.f k l0
theorem gGroups.mono : ∀ a0 k, LeO (gGroups.f k a0) (gGroups.f (k + 1) a0) := groups_Groups.mono
theorem gGroups.calls (k : Nat) (A0 : Option Addr) (c0 : Nat) (l0 : List ByteArray) (r1 : List (S35)) (r2 : Int) (w : World) (hr0 : Kd.C Kd.string w A0 l0.length l0) (hc0 : l0.length ≤ c0) (h : gGroups.f k l0 = some (r1, r2)) :
  Calls Tryd.prog 12 #[.slice A0 l0.length c0] w fun e w' => ∃ v0_ : Value, e = .returned (.tuple #[v0_, .int .i64 r2]) ∧ Kd.S k35 35 w' w.heap.size (fun _ => True) v0_ r1 ∧ Below w.heap.size w w' :=
 (groups_Groups.calls k A0 c0 l0 r1 r2 w hr0 hc0 h).mono fun _ _ ⟨v, he, hs, hb⟩ => ⟨v, he, hs, hb⟩
def rGroups.f (k : Nat) (l0 : List ByteArray) : Option ((List S35) × Int) := cupelref35_Groups.f k l0
theorem rGroups.mono : ∀ a0 k, LeO (rGroups.f k a0) (rGroups.f (k + 1) a0) := cupelref35_Groups.mono
end Go.Proofs.YtndennmpnomjnaaDoor.A

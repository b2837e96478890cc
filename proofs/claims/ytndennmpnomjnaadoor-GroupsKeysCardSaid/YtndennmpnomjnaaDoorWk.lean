/- GroupsKeys' call, whatever the outcomes: it returns true. -/
import Derived.Test.YtndennmpnomjnaaDoorPg
set_option linter.all false
namespace Go.Proofs.YtndennmpnomjnaaDoor.A
open Go.RowKit Go.Proofs.YtndennmpnomjnaaDoorW.PrintWords
theorem keys_calls (A0 : Option Addr) (c0 : Nat) (l0 : List S45) (a1 : Int) (w : World) (hr0 : Kd.C k45 w A0 l0.length l0) (hc0 : l0.length ≤ c0) (h0 : -9223372036854775808 ≤ a1) (h1 : a1 ≤ 9223372036854775807) (hE : Env w) (hs : ∀ o ∈ l0, -9223372036854775808 ≤ o.f1.f2 ∧ o.f1.f2 ≤ 9223372036854775807) :
  Calls Tryd.prog 3 #[.slice A0 l0.length c0, .int .i64 a1] w fun e w' => e = .returned (.bool true) ∧ Below w.heap.size w w' := by
 obtain ⟨K, hK⟩ := keys_ev l0 a1 h0 h1 hs
 exact cupellaw35_GroupsKeys.calls K A0 c0 l0 a1 true w hr0 hc0 (hK K (Nat.le_refl _)) hE
end Go.Proofs.YtndennmpnomjnaaDoor.A

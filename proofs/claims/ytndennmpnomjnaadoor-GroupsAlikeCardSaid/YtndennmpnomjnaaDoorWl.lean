/- GroupsAlike's call, whatever the outcomes: it returns true. -/
import Derived.Test.YtndennmpnomjnaaDoorPi
set_option linter.all false
namespace Go.Proofs.YtndennmpnomjnaaDoor.A
open Go.RowKit Go.Proofs.YtndennmpnomjnaaDoorW.PrintWords
theorem alike_calls (A0 : Option Addr) (c0 : Nat) (l0 : List S45) (a1 a2 : Int) (w : World) (hr0 : Kd.C k45 w A0 l0.length l0) (hc0 : l0.length ≤ c0) (hE : Env w) (hs : ∀ o ∈ l0, -9223372036854775808 ≤ o.f1.f2 ∧ o.f1.f2 ≤ 9223372036854775807) (hn : ∀ o ∈ l0, In64 o.f1.f0) :
  Calls Tryd.prog 7 #[.slice A0 l0.length c0, .int .i64 a1, .int .i64 a2] w fun e w' => e = .returned (.bool true) ∧ Below w.heap.size w w' := by
 obtain ⟨K, hK⟩ := alike_ev l0 a1 a2 hs hn
 exact cupellaw35_GroupsAlike.calls K A0 c0 l0 a1 a2 true w hr0 hc0 (hK K (Nat.le_refl _)) hE
end Go.Proofs.YtndennmpnomjnaaDoor.A

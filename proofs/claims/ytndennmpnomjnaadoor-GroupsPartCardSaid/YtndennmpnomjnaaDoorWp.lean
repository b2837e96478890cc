/- GroupsPart's call, whatever the keys: it returns true. -/
import Derived.Test.YtndennmpnomjnaaDoorPh
set_option linter.all false
namespace Go.Proofs.YtndennmpnomjnaaDoor.A
open Go.RowKit Go.Proofs.YtndennmpnomjnaaDoorW.PrintWords
theorem part_law_calls (A0 : Option Addr) (c0 : Nat) (l0 : List ByteArray) (A1 : Option Addr) (c1 : Nat) (l1 : List Int) (w : World) (hr0 : Kd.C Kd.string w A0 l0.length l0) (hc0 : l0.length ≤ c0) (hr1 : Kd.C (Kd.int .i64) w A1 l1.length l1) (hc1 : l1.length ≤ c1) (hE : Env w) (hs : ∀ s ∈ l0, s.size ≤ maxLen) :
  Calls Tryd.prog 6 #[.slice A0 l0.length c0, .slice A1 l1.length c1] w fun e w' => e = .returned (.bool true) ∧ Below w.heap.size w w' := by
 obtain ⟨K, hK⟩ := part_law_ev l0 l1 hs
 exact cupellaw35_GroupsPart.calls K A0 c0 l0 A1 c1 l1 true w hr0 hc0 hr1 hc1 (hK K (Nat.le_refl _)) hE
end Go.Proofs.YtndennmpnomjnaaDoor.A

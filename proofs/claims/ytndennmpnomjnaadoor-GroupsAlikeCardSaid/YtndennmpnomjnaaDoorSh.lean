/- shown() of layer 35 answers true. -/
import Derived.Test.YtndennmpnomjnaaDoorBx1
import Derived.KernelRfl
set_option linter.all false
set_option maxRecDepth 100000
namespace Go.Proofs.YtndennmpnomjnaaDoor.A
open Go.Proofs.YtndennmpnomjnaaDoorW.PrintWords
def shL : List S45 := [⟨⟨#[115, 111, 117, 114, 99, 101]⟩, ⟨[1], 1, 0⟩⟩, ⟨⟨#[109, 97, 99, 104, 105, 110, 101, 32, 50, 32, 51]⟩, ⟨[1], 2, 2⟩⟩, ⟨⟨#[109, 97, 99, 104, 105, 110, 101, 32, 50, 32, 52]⟩, ⟨[1], 2, 2⟩⟩]
def shD : List S57 := [⟨0, 1, 3, 1⟩, ⟨0, 2, 3, 1⟩]
theorem sh1 : observe_Differ.f 30 shL = some (shD, 0) := by kernel_rfl
theorem sh2 : KOk shL shD := by decide +kernel
theorem sh3 : oddAny shL = false := by decide +kernel
theorem sh4 : sortD shD = shD := List.mergeSort_of_pairwise (by decide +kernel)
theorem sh6 : groups_Key.f 30 shL 7 = some (keyB (keyList shL 7 shD), 0) := by
 unfold groups_Key.f
 rw [sh1, Option.bind_some]
 simp only
 rw [if_pos sh2, if_pos trivial, if_neg (by rw [sh3]; decide), sh4]
theorem sh7 : groups_Key.f 30 shL 16 = some (⟨#[]⟩, 2) := by
 unfold groups_Key.f
 rw [sh1, Option.bind_some]
 simp only
 rw [if_pos sh2, if_pos trivial, if_pos (by decide)]
theorem shown30 : cupellaw35_shown.f 30 = some true := by
 unfold cupellaw35_shown.f
 rw [Option.bind_some]
 show (groups_Key.f 30 shL 7).bind _ = _
 rw [sh6, Option.bind_some]
 show (groups_Key.f 30 shL 16).bind _ = _
 rw [sh7, Option.bind_some]
 decide +kernel
/-- From some number of rounds on. -/
def Ev {α : Type} (f : Nat → Option α) (r : α) : Prop := ∃ K, ∀ k, K ≤ k → f k = some r
theorem ev_of {α : Type} {f : Nat → Option α} {r : α} (hm : ∀ k, LeO (f k) (f (k + 1))) (K : Nat) (h : f K = some r) : Ev f r :=
 ⟨K, fun k hk => by
  obtain ⟨d, rfl⟩ := Nat.exists_eq_add_of_le hk
  induction d with
  | zero => exact h
  | succ d ih => exact hm _ _ (ih (Nat.le_add_right _ _))⟩
theorem shown_ev : Ev (fun k => cupellaw35_shown.f k) true := ev_of (fun k => cupellaw35_shown.mono k) 30 shown30
end Go.Proofs.YtndennmpnomjnaaDoor.A

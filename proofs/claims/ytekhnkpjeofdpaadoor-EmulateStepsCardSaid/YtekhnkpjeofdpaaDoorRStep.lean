/- The reference's machine (cupelref23): Step: the contract over the same plain machine. -/
import Derived.Test.YtekhnkpjeofdpaaDoorRStepX
import Derived.Test.YtekhnkpjeofdpaaDoorRStepY
set_option linter.unusedVariables false
namespace Go.Proofs.YtekhnkpjeofdpaaDoor.A
theorem rstep_calls {P : Rg} {w : World} {g : Nat} {m : Mac} (k : Nat) (h : IsM 46 P w g m) (hP : ∀ k, w.heap.size ≤ k → P k) (m' : Mac) (hcl : m.code.length ≤ 20000) (hdep : m.depth = (m.kept.length : Int)) (hm : stepF (k + 21) m = some m') :
    Calls Tryd.prog 17 #[.pointer (some ⟨g, 0, none⟩)] w fun e w' => e = .returned (.tuple #[]) ∧ IsM 46 P w' g m' ∧ Chg P w w' := by
  obtain ⟨t, ht, hd⟩ := decode_total (k + 21) m.code hcl m.at_ (by omega)
  rw [← decode_ref k k m.code hcl m.at_] at ht
  by_cases c : t.2.2.2.2.2.2 = 0 ∧ t.1 ≠ 11 ∧ t.1 < 15
  · have hp := (hd c.1).1.1
    exact rstep_X k h hP m' hcl hdep (fun u hu => by
      obtain rfl := Option.some.inj (hu.symm.trans ht)
      exact ⟨c.1, by omega⟩) hm
  · exact rstep_Y k h hP m' hcl hdep (fun u hu => by
      obtain rfl := Option.some.inj (hu.symm.trans ht)
      intro h0
      have hp := (hd h0).1.1
      by_cases h1 : u.1 = 11
      · exact .inl h1
      · have : ¬ u.1 < 15 := fun h2 => c ⟨h0, h1, h2⟩
        exact .inr (by omega)) hm
end Go.Proofs.YtekhnkpjeofdpaaDoor.A

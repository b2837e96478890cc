/- TargetCanon: the row and its tied card: whatever the input, the law returns true. -/
import Derived.ChangeMaps5
import Derived.Test.YtlaijeeeblcinaaDoorBase
import Derived.Test.YtlaijeeeblcinaaDoorLc
import Derived.Test.YtlaijeeeblcinaaDoorRowKd
set_option linter.all false
set_option linter.unusedVariables false
set_option maxRecDepth 100000
namespace Go.Proofs.YtlaijeeeblcinaaDoor.A.TargetCanon
open Go.ChangeShapes Go.WideShapes Go.RowKit Go.Proofs.YtlaijeeeblcinaaDoorW.PrintWords
theorem law_lifted (os : Os) (started : os.Started) (H : Type) (enc : TypeId × Value → H) :
  ReturnsInHanded {} Tryd.checked os 8 .any (fun w args => (Rows.targetCanonSpec.pre enc Tryd.prog Tryd.f8 [] false w args ∧ laidMetH Tryd.prog laidL w) ∧ sizedMet enc Tryd.prog Tryd.f8 (OpenSpec.ofChange Rows.targetCanonSpec) false w args)
   (Rows.targetCanonSpec.post enc Tryd.prog Tryd.f8 false true false false) := by
 refine returnsInHanded_of_calls (C := Tryd.checked) ownKnob20 started (by kernel_rfl)
  (ChangeSpec.witness_at (enc := enc) (C := Tryd.checked) (os := os) (X := fun w _ => laidMetH Tryd.prog laidL w) false (laidWorld os) #[.string ⟨#[]⟩] 8 rfl (by kernel_rfl) (by kernel_rfl) (by kernel_rfl) (by kernel_rfl) (by kernel_rfl) (laidWorld_met os _)) ?_
 intro w tape i _ hshape _ hok hpre _
 obtain ⟨_, _, _, fn', hfn', _, _, _, _, hval0⟩ := hok
 obtain rfl : fn' = Tryd.f8 := Option.some.inj (hfn'.symm.trans Tryd.func8)
 obtain ⟨⟨⟨ds, gs, before, hw0, hc⟩, hx⟩, hz⟩ := hpre
 have hW := DataW.Whole.of_heap (w' := w.forCall tape i) (by rfl) hw0
 have hT : Env (w.forCall tape i) := env_of_laid (by rfl) hshape hx
 have hval : ∀ (j : Nat) t v, Tryd.f8.params[j]? = some t → i.args[j]? = some v → Value.okWide Tryd.prog (w.forCall tape i) .any w.heap.size t v := hval0
 have hW' := hW
 obtain ⟨p, q, hA0, hV0, rfl, hfz, hnd⟩ := hW
 have hA : DataW.TrodAll enc Tryd.prog (w.forCall tape i) 0 (fun _ => true) true Tryd.f8.params.toList i.args.toList ds p := hA0
 have hV : DataW.TrodVars enc Tryd.prog (w.forCall tape i) (fun _ => true) [] gs q := hV0
 rw [Tryd.params8] at hA hval
 generalize w.forCall tape i = W at *
 generalize i.args = args at *
 obtain ⟨v0, vs0, d0, ds0, p0, q0, hargs, rfl, rfl, h0, r0⟩ := trodAll_cons hA
 obtain ⟨rfl, rfl, rfl⟩ := trodAll_nil r0
 obtain rfl : args = #[v0] := by cases args; simp_all
 obtain ⟨rfl, rfl⟩ : gs = [] ∧ q = [] := by
  cases gs with
  | nil => exact ⟨rfl, hV⟩
  | cons g r => exact absurd hV (by intro h; cases h)
 obtain ⟨a0, rfl, rfl, rfl, w0⟩ := Go.ChangeMaps.open_string Tryd.underlying9 (hval 0 9 v0 rfl rfl) h0
 refine (cupellaw20_TargetCanon.calls 60000 a0 true _ (canon_k a0 60000 (Nat.le_refl _)) hT).mono fun e W' ⟨he, hb⟩ => ?_
 subst he
 refine ChangeSpec.post_blind ?_
 exact ⟨_, _, _, [], _, [], hW', trodAll_mk1 (shut_bool Tryd.underlying4 true), (trodAll_cons_mk (Go.ChangeMaps.shut_string Tryd.underlying9 w0) trodAll_mk0), rfl, hb.frame _, fun h => by cases h⟩
theorem law_row : Rows.TargetCanonSaid :=
 OpenClaim.holds_of_wide 8 Tryd.f8 rfl rfl rfl rfl rfl rfl rfl ⟨rfl, rfl, rfl, rfl, rfl⟩ rfl rfl rfl rfl rfl (by kernel_rfl) Tryd.func8 (by kernel_rfl)
  (of_decide_eq_true (by kernel_rfl)) (by unfold Func.isWrapper; rw [if_neg (of_decide_eq_false (by kernel_rfl))]; exact ⟨rfl, rfl⟩)
  (fun os started H enc _ => law_lifted os started H enc)
theorem law_card : Rows.TargetCanonCardSaid :=
 Claim7.holds_tied_plain_at .later [] [.data, .data, .data, .sentinel, .sentinel, .data, .widerDeep] true (true, "bf4222c34dcd2dd5817e68d980566bad24dd9caffcc8ffece3bf14de2a76b292") true
  law_row (fun _ h => by cases h) (by kernel_rfl) (fun _ h => by cases h) targetCanon_row_tie rfl ⟨rfl, rfl⟩ (by kernel_rfl) rfl
  (fun f fn hf hfn => by
   obtain rfl : f = 8 := Option.some.inj ((show Tryd.prog.funcNamed "cupel/cupellaw20.TargetCanon" = some 8 by kernel_rfl).symm.trans hf) |>.symm
   obtain rfl : fn = Tryd.f8 := (Option.some.inj (Tryd.func8.symm.trans hfn)).symm
   exact ⟨by kernel_rfl, fun j t ht => by
    rw [Tryd.params8] at ht
    have h3 : t = 9 := by
     match j, ht with
     | 0, ht => have e := Option.some.inj ht; exact e.symm
     | j + 1, ht => exact absurd ht (by simp)
    rcases h3 with rfl
    ·exact (show Tryd.prog.wantsStandIn 9 = false by kernel_rfl)⟩)
  (by kernel_rfl)
end Go.Proofs.YtlaijeeeblcinaaDoor.A.TargetCanon
namespace Go.Proofs.YtlaijeeeblcinaaDoor
/-- TargetCanon, on its tied card. -/
theorem targetCanon_holds : Rows.TargetCanonCardSaid := A.TargetCanon.law_card
#print axioms targetCanon_holds
end Go.Proofs.YtlaijeeeblcinaaDoor

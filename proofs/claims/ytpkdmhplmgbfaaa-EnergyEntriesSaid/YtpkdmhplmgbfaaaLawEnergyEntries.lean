-- Written by wip/tools/lawrow.py, a program of this work. Not trusted: Lean checks it.
import Derived.Test.YtpkdmhplmgbfaaaRows
import Derived.Test.YtpkdmhplmgbfaaaPl8
import Derived.Test.YtpkdmhplmgbfaaaRowKd
import Derived.WalkKit
import Derived.ProofKit
import Derived.OpenShut
import Derived.ShutString
import Derived.ChangeOld
import Derived.Below
import Derived.SizedLaws
import Derived.Test.YtpkdmhplmgbfaaaWSized
namespace Go.Proofs.Ytpkdmhplmgbfaaa.energyEntries
open Go.ChangeShapes Go.WideShapes Go.ChangeAt Go.RowKit Go.Proofs.YtpkdmhplmgbfaaaW.PrintWords
open Go.ChangeMaps (open_string shut_string)
set_option linter.unusedVariables false
theorem own : ownKnob Try.prog.godebug = none := by kernel_rfl
theorem laidOut : laidOutB Try.prog = true := by kernel_rfl
def wf40 (x : A.S40) : Prop := (Lit.int .i64 x.f0).wf = true ∧ (Lit.int .i64 x.f1).wf = true ∧ (Lit.int .i64 x.f2).wf = true ∧ (Lit.int .i64 x.f3).wf = true
theorem opens3 : RowKd.Opens Try.prog 3 (Kd.int .i64) (fun n => (Lit.int .i64 n).wf = true) := RowKd.opens_int Try.underlying3
theorem opens40 : RowKd.Opens Try.prog 40 A.k40 wf40 :=
  RowKd.opens_iso (fun x : A.S40 => (x.f0, x.f1, x.f2, x.f3)) (fun y => (⟨y.1, y.2.1, y.2.2.1, y.2.2.2⟩ : A.S40)) (fun _ => rfl)
    (RowKd.opens_struct Try.underlying40 (by kernel_rfl) (RowKd.opens_field rfl (by kernel_rfl) opens3 (RowKd.opens_field rfl (by kernel_rfl) opens3 (RowKd.opens_field rfl (by kernel_rfl) opens3 (RowKd.opens_last rfl (by kernel_rfl) opens3)))))
theorem opens22 : RowKd.Opens Try.prog 22 (Kd.slice 40 A.k40) (fun l => l.length ≤ maxLen ∧ ∀ x ∈ l, wf40 x) := RowKd.opens_slice 40 Try.underlying22 (by kernel_rfl) opens40
theorem entries {W : World} {a : Option Addr} {cap : Nat} {l : List A.S40} (hc : l.length ≤ cap) (hr : Kd.C A.k40 W a l.length l) :
    Calls Try.prog 3 #[.slice a l.length cap] W fun e w' => e = .returned (.bool true) ∧ Below W.heap.size W w' := by
  obtain ⟨k, h⟩ := A.EnergyEntries l
  exact A.cupellaw34_EnergyEntries.calls k a cap l true W hr hc h

set_option maxRecDepth 100000 in
theorem lifted (os : Os) (started : os.Started) (H : Type) (enc : TypeId × Value → H) :
    ReturnsInHanded {} Try.checked os 3 .any (Rows.energyEntriesSpec.pre6 enc Try.prog Try.f3 Rows.energyEntriesRow.domain false) (Rows.energyEntriesSpec.post enc Try.prog Try.f3 false true false false) := by
  refine returnsInHanded_of_change_sized (C := Try.checked) own started (by kernel_rfl) Try.func3
    (ChangeSpec.witness6 (enc := enc) (C := Try.checked) false ⟨#[], #[.slice none 0 0], []⟩ 8 (by kernel_rfl) (by kernel_rfl) (by kernel_rfl) (by kernel_rfl)) ?_
  intro W base args ds gs before hval0 hW hcnd hsz0 _
  have hsz : (DataW.weightsEach Try.prog (Try.f3.params.toList ++ Rows.energyEntriesSpec.plain.varTypes Try.prog) (ds ++ gs)).all (· ≤ reachBytes) = true := hsz0
  have hval : ∀ (j : Nat) t v, Try.f3.params[j]? = some t → args[j]? = some v → Value.okWide Try.prog W .any base t v := hval0
  have hW' := hW
  obtain ⟨p, q, hA0, hV, rfl, hfz, hnd⟩ := hW
  have hA : DataW.TrodAll enc Try.prog W 0 (fun _ => true) true Try.f3.params.toList args.toList ds p := hA0
  rw [Try.params3] at hA hval hsz
  obtain ⟨v0, vs0, d0, ds0, p0, q0, hargs, rfl, rfl, h0, r0⟩ := trodAll_cons hA
  obtain ⟨rfl, rfl, rfl⟩ := trodAll_nil r0
  obtain rfl : args = #[v0] := by cases args; simp_all
  obtain ⟨rfl, rfl⟩ := trodVars_none hV
  obtain ⟨a0, len0, cap0, rfl⟩ := okWide_slice Try.underlying22 (hval 0 22 v0 rfl rfl)
  have k0 := h0
  have lt0 : ∀ x ∈ p0, x.block < W.heap.size := by obtain ⟨m, hm⟩ := k0; exact DataW.trod_lt m _ _ _ hm
  obtain ⟨l0, rfl, hc0, hr0, w0⟩ := RowKd.open_slice opens22 h0
  clear hA0 hval0 hsz0
  refine (entries hc0 hr0).mono fun e W' ⟨he, bel⟩ => ?_
  subst he
  exact ⟨_, rfl, _, _, _, [], _, [], hW', trodAll_mk1 (shut_bool Try.underlying4 _), (trodAll_cons_mk (Below.trod laidOut (by kernel_rfl) (of_decide_eq_true (by kernel_rfl)) k0 bel lt0) trodAll_mk0), rfl, bel.frame _, fun h => by cases h⟩
theorem over : Rows.energyEntriesRow.holds Try.pinned (OpenSpec.ofChange Rows.energyEntriesSpec) :=
  OpenClaim.holds_of_wide 3 Try.f3 rfl rfl rfl rfl rfl rfl rfl ⟨rfl, rfl, rfl, rfl, rfl⟩ rfl rfl rfl rfl rfl (by kernel_rfl) Try.func3 (by kernel_rfl)
    (of_decide_eq_true (by kernel_rfl)) (by unfold Func.isWrapper; first | (rw [if_pos (by decide +kernel)]; kernel_rfl) | (rw [if_neg (by decide +kernel)]; exact ⟨rfl, rfl⟩))
    (fun os started H enc _ => lifted os started H enc)
theorem proved : Rows.EnergyEntriesSaid := over
#print axioms proved
end Go.Proofs.Ytpkdmhplmgbfaaa.energyEntries
namespace Go.Proofs.Ytpkdmhplmgbfaaa
/-- The row, under a short name, for the claim. -/
theorem energyEntries_holds : Rows.EnergyEntriesSaid := energyEntries.proved
end Go.Proofs.Ytpkdmhplmgbfaaa

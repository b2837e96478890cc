-- Written by wip/tools/lawrow.py, a program of this work. Not trusted: Lean checks it.
import Derived.Test.YtpkdmhplmgbfaaaRows
import Derived.Test.YtpkdmhplmgbfaaaPl8
import Derived.Test.YtpkdmhplmgbfaaaRowKd
import Derived.WalkKit
import Derived.ProofKit
import Derived.OpenShut
import Derived.ShutString
import Derived.ChangeOld
import Derived.Below
import Derived.SizedLaws
import Derived.Test.YtpkdmhplmgbfaaaWSized
namespace Go.Proofs.Ytpkdmhplmgbfaaa.energyGrows
open Go.ChangeShapes Go.WideShapes Go.ChangeAt Go.RowKit Go.Proofs.YtpkdmhplmgbfaaaW.PrintWords
open Go.ChangeMaps (open_string shut_string)
set_option linter.unusedVariables false
theorem own : ownKnob Try.prog.godebug = none := by kernel_rfl
theorem laidOut : laidOutB Try.prog = true := by kernel_rfl
def wf40 (x : A.S40) : Prop := (Lit.int .i64 x.f0).wf = true ∧ (Lit.int .i64 x.f1).wf = true ∧ (Lit.int .i64 x.f2).wf = true ∧ (Lit.int .i64 x.f3).wf = true
theorem opens3 : RowKd.Opens Try.prog 3 (Kd.int .i64) (fun n => (Lit.int .i64 n).wf = true) := RowKd.opens_int Try.underlying3
theorem opens40 : RowKd.Opens Try.prog 40 A.k40 wf40 :=
  RowKd.opens_iso (fun x : A.S40 => (x.f0, x.f1, x.f2, x.f3)) (fun y => (⟨y.1, y.2.1, y.2.2.1, y.2.2.2⟩ : A.S40)) (fun _ => rfl)
    (RowKd.opens_struct Try.underlying40 (by kernel_rfl) (RowKd.opens_field rfl (by kernel_rfl) opens3 (RowKd.opens_field rfl (by kernel_rfl) opens3 (RowKd.opens_field rfl (by kernel_rfl) opens3 (RowKd.opens_last rfl (by kernel_rfl) opens3)))))
/-- how much more: four numbers of 16 bits -/
def k43 : Kd (Int × Int × Int × Int) := Kd.pair (Kd.int .u16) (Kd.pair (Kd.int .u16) (Kd.pair (Kd.int .u16) (Kd.int .u16)))
theorem k43_open {w : World} {x : Int × Int × Int × Int} {cs : List Value} (h : k43.K w x cs) : cs = [.int .u16 x.1, .int .u16 x.2.1, .int .u16 x.2.2.1, .int .u16 x.2.2.2] := by
  obtain ⟨_, _, rfl, rfl, ⟨_, _, rfl, rfl, ⟨_, _, rfl, rfl, rfl⟩⟩⟩ := h
  exact rfl
def u16 (x : Int) : Prop := (Lit.int .u16 x).wf = true
def wf43 (x : Int × Int × Int × Int) : Prop := u16 x.1 ∧ u16 x.2.1 ∧ u16 x.2.2.1 ∧ u16 x.2.2.2
theorem opens41 : RowKd.Opens Try.prog 41 (Kd.int .u16) (fun n => (Lit.int .u16 n).wf = true) := RowKd.opens_int Try.underlying41
theorem opens43 : RowKd.Opens Try.prog 43 k43 wf43 :=
  RowKd.opens_struct Try.underlying43 (by kernel_rfl) (RowKd.opens_field rfl (by kernel_rfl) opens41 (RowKd.opens_field rfl (by kernel_rfl) opens41 (RowKd.opens_field rfl (by kernel_rfl) opens41 (RowKd.opens_last rfl (by kernel_rfl) opens41))))
theorem u16_bounds {x : Int} (h : u16 x) : 0 ≤ x ∧ x ≤ 65535 := by
  simp [u16, Lit.wf, IntKind.min, IntKind.max, IntKind.bits, IntKind.signed] at h
  omega
theorem grows {W : World} {x : A.S40} {y : Int × Int × Int × Int} (hy : wf43 y) :
    Calls Try.prog 8 #[.agg #[.int .i64 x.f0, .int .i64 x.f1, .int .i64 x.f2, .int .i64 x.f3], .agg #[.int .u16 y.1, .int .u16 y.2.1, .int .u16 y.2.2.1, .int .u16 y.2.2.2]] W fun e w' => e = .returned (.bool true) ∧ Below W.heap.size W w' := by
  obtain ⟨k, h⟩ := A.EnergyGrows x.f0 x.f1 x.f2 x.f3 y.1 y.2.1 y.2.2.1 y.2.2.2 (u16_bounds hy.1) (u16_bounds hy.2.1) (u16_bounds hy.2.2.1) (u16_bounds hy.2.2.2)
  exact A.cupellaw34_EnergyGrows.calls k _ _ _ _ _ _ _ _ true W h

set_option maxRecDepth 100000 in
theorem lifted (os : Os) (started : os.Started) (H : Type) (enc : TypeId × Value → H) :
    ReturnsInHanded {} Try.checked os 8 .any (Rows.energyGrowsSpec.pre6 enc Try.prog Try.f8 Rows.energyGrowsRow.domain false) (Rows.energyGrowsSpec.post enc Try.prog Try.f8 false true false false) := by
  refine returnsInHanded_of_change_sized (C := Try.checked) own started (by kernel_rfl) Try.func8
    (ChangeSpec.witness6 (enc := enc) (C := Try.checked) false ⟨#[], #[.agg #[.int .i64 0, .int .i64 0, .int .i64 0, .int .i64 0], .agg #[.int .u16 0, .int .u16 0, .int .u16 0, .int .u16 0]], []⟩ 8 (by kernel_rfl) (by kernel_rfl) (by kernel_rfl) (by kernel_rfl)) ?_
  intro W base args ds gs before hval0 hW hcnd hsz0 _
  have hsz : (DataW.weightsEach Try.prog (Try.f8.params.toList ++ Rows.energyGrowsSpec.plain.varTypes Try.prog) (ds ++ gs)).all (· ≤ reachBytes) = true := hsz0
  have hval : ∀ (j : Nat) t v, Try.f8.params[j]? = some t → args[j]? = some v → Value.okWide Try.prog W .any base t v := hval0
  have hW' := hW
  obtain ⟨p, q, hA0, hV, rfl, hfz, hnd⟩ := hW
  have hA : DataW.TrodAll enc Try.prog W 0 (fun _ => true) true Try.f8.params.toList args.toList ds p := hA0
  rw [Try.params8] at hA hval hsz
  obtain ⟨v0, vs0, d0, ds0, p0, q0, hargs, rfl, rfl, h0, r0⟩ := trodAll_cons hA
  obtain ⟨v1, vs1, d1, ds1, p1, q1, rfl, rfl, rfl, h1, r1⟩ := trodAll_cons r0
  obtain ⟨rfl, rfl, rfl⟩ := trodAll_nil r1
  obtain rfl : args = #[v0, v1] := by cases args; simp_all
  obtain ⟨rfl, rfl⟩ := trodVars_none hV
  obtain ⟨c0, rfl, sz0⟩ := okWide_struct Try.underlying40 (hval 0 40 v0 rfl rfl)
  have k0 := h0
  have lt0 : ∀ x ∈ p0, x.block < W.heap.size := by obtain ⟨m, hm⟩ := k0; exact DataW.trod_lt m _ _ _ hm
  obtain ⟨y0, ky0, w0⟩ := RowKd.open_agg opens40 h0
  have e0 := A.k40_open ky0
  obtain rfl : c0 = #[.int .i64 y0.f0, .int .i64 y0.f1, .int .i64 y0.f2, .int .i64 y0.f3] := Array.ext' e0
  obtain ⟨c1, rfl, sz1⟩ := okWide_struct Try.underlying43 (hval 1 43 v1 rfl rfl)
  have k1 := h1
  have lt1 : ∀ x ∈ p1, x.block < W.heap.size := by obtain ⟨m, hm⟩ := k1; exact DataW.trod_lt m _ _ _ hm
  obtain ⟨y1, ky1, w1⟩ := RowKd.open_agg opens43 h1
  have e1 := k43_open ky1
  obtain rfl : c1 = #[.int .u16 y1.1, .int .u16 y1.2.1, .int .u16 y1.2.2.1, .int .u16 y1.2.2.2] := Array.ext' e1
  clear hA0 hval0 hsz0
  refine (grows w1).mono fun e W' ⟨he, bel⟩ => ?_
  subst he
  exact ⟨_, rfl, _, _, _, [], _, [], hW', trodAll_mk1 (shut_bool Try.underlying4 _), (trodAll_cons_mk (Below.trod laidOut (by kernel_rfl) (of_decide_eq_true (by kernel_rfl)) k0 bel lt0) (trodAll_cons_mk (Below.trod laidOut (by kernel_rfl) (of_decide_eq_true (by kernel_rfl)) k1 bel lt1) trodAll_mk0)), rfl, bel.frame _, fun h => by cases h⟩
theorem over : Rows.energyGrowsRow.holds Try.pinned (OpenSpec.ofChange Rows.energyGrowsSpec) :=
  OpenClaim.holds_of_wide 8 Try.f8 rfl rfl rfl rfl rfl rfl rfl ⟨rfl, rfl, rfl, rfl, rfl⟩ rfl rfl rfl rfl rfl (by kernel_rfl) Try.func8 (by kernel_rfl)
    (of_decide_eq_true (by kernel_rfl)) (by unfold Func.isWrapper; first | (rw [if_pos (by decide +kernel)]; kernel_rfl) | (rw [if_neg (by decide +kernel)]; exact ⟨rfl, rfl⟩))
    (fun os started H enc _ => lifted os started H enc)
theorem proved : Rows.EnergyGrowsSaid := over
#print axioms proved
end Go.Proofs.Ytpkdmhplmgbfaaa.energyGrows
namespace Go.Proofs.Ytpkdmhplmgbfaaa
/-- The row, under a short name, for the claim. -/
theorem energyGrows_holds : Rows.EnergyGrowsSaid := energyGrows.proved
end Go.Proofs.Ytpkdmhplmgbfaaa

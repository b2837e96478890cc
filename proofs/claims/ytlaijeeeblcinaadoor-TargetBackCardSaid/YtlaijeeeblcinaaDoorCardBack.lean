/- TargetBack: the row and its tied card: whatever the input, the law returns true. -/
import Derived.Test.YtlaijeeeblcinaaDoorBase
import Derived.Test.YtlaijeeeblcinaaDoorLb
import Derived.Test.YtlaijeeeblcinaaDoorRowKd
set_option linter.all false
set_option linter.unusedVariables false
set_option maxRecDepth 100000
namespace Go.Proofs.YtlaijeeeblcinaaDoor.A.TargetBack
open Go.ChangeShapes Go.WideShapes Go.RowKit Go.Proofs.YtlaijeeeblcinaaDoorW.PrintWords
theorem laidOut : laidOutB Tryd.prog = true := by kernel_rfl
def wfi (n : Int) : Prop := (Lit.int .i64 n).wf = true
theorem bnd64 {v : Int} (h : (Lit.int .i64 v).wf = true) : -9223372036854775808 ≤ v ∧ v ≤ 9223372036854775807 := by
 simp only [Lit.wf, Bool.and_eq_true, decide_eq_true_eq] at h
 exact h
theorem opens3 : RowKd.Opens Tryd.prog 3 (Kd.int .i64) wfi := RowKd.opens_int Tryd.underlying3
theorem opens2 : RowKd.Opens Tryd.prog 2 (Kd.int .i64) (fun n => (Lit.int .i64 n).wf = true) := RowKd.opens_int Tryd.underlying2
def wf26 (x : A.S26) : Prop := (Lit.int .i64 x.f0).wf = true ∧ (Lit.int .i64 x.f1).wf = true ∧ (Lit.int .i64 x.f2).wf = true ∧ (Lit.int .i64 x.f3).wf = true ∧ (Lit.int .i64 x.f4).wf = true
theorem opens26 : RowKd.Opens Tryd.prog 26 A.k26 wf26 :=
 RowKd.opens_iso (fun x : A.S26 => (x.f0, x.f1, x.f2, x.f3, x.f4)) (fun y => (⟨y.1, y.2.1, y.2.2.1, y.2.2.2.1, y.2.2.2.2⟩ : A.S26)) (fun _ => rfl)
  (RowKd.opens_struct Tryd.underlying26 (by kernel_rfl) (RowKd.opens_field rfl (by kernel_rfl) opens3 (RowKd.opens_field rfl (by kernel_rfl) opens3 (RowKd.opens_field rfl (by kernel_rfl) opens3 (RowKd.opens_field rfl (by kernel_rfl) opens3 (RowKd.opens_last rfl (by kernel_rfl) opens2))))))
theorem opens22 : RowKd.Opens Tryd.prog 22 (Kd.slice 26 A.k26) (fun l => l.length ≤ maxLen ∧ ∀ x ∈ l, wf26 x) := RowKd.opens_slice 26 Tryd.underlying22 (by kernel_rfl) opens26
theorem law_lifted (os : Os) (started : os.Started) (H : Type) (enc : TypeId × Value → H) :
  ReturnsInHanded {} Tryd.checked os 7 .any (fun w args => (Rows.targetBackSpec.pre enc Tryd.prog Tryd.f7 [] false w args ∧ laidMetH Tryd.prog laidL w) ∧ sizedMet enc Tryd.prog Tryd.f7 (OpenSpec.ofChange Rows.targetBackSpec) false w args)
   (Rows.targetBackSpec.post enc Tryd.prog Tryd.f7 false true false false) := by
 refine returnsInHanded_of_calls (C := Tryd.checked) ownKnob20 started (by kernel_rfl)
  (ChangeSpec.witness_at (enc := enc) (C := Tryd.checked) (os := os) (X := fun w _ => laidMetH Tryd.prog laidL w) false (laidWorld os) #[.slice none 0 0, .agg #[.int .i64 0, .int .i64 0, .int .i64 0, .int .i64 0, .int .i64 0]] 8 rfl (by kernel_rfl) (by kernel_rfl) (by kernel_rfl) (by kernel_rfl) (by kernel_rfl) (laidWorld_met os _)) ?_
 intro w tape i _ hshape _ hok hpre _
 obtain ⟨_, _, _, fn', hfn', _, _, _, _, hval0⟩ := hok
 obtain rfl : fn' = Tryd.f7 := Option.some.inj (hfn'.symm.trans Tryd.func7)
 obtain ⟨⟨⟨ds, gs, before, hw0, hc⟩, hx⟩, hz⟩ := hpre
 have hW := DataW.Whole.of_heap (w' := w.forCall tape i) (by rfl) hw0
 have hT : Env (w.forCall tape i) := env_of_laid (by rfl) hshape hx
 have hval : ∀ (j : Nat) t v, Tryd.f7.params[j]? = some t → i.args[j]? = some v → Value.okWide Tryd.prog (w.forCall tape i) .any w.heap.size t v := hval0
 have hW' := hW
 obtain ⟨p, q, hA0, hV0, rfl, hfz, hnd⟩ := hW
 have hA : DataW.TrodAll enc Tryd.prog (w.forCall tape i) 0 (fun _ => true) true Tryd.f7.params.toList i.args.toList ds p := hA0
 have hV : DataW.TrodVars enc Tryd.prog (w.forCall tape i) (fun _ => true) [] gs q := hV0
 rw [Tryd.params7] at hA hval
 generalize w.forCall tape i = W at *
 generalize i.args = args at *
 obtain ⟨v0, vs0, d0, ds0, p0, q0, hargs, rfl, rfl, h0, r0⟩ := trodAll_cons hA
 obtain ⟨v1, vs1, d1, ds1, p1, q1, rfl, rfl, rfl, h1, r1⟩ := trodAll_cons r0
 obtain ⟨rfl, rfl, rfl⟩ := trodAll_nil r1
 obtain rfl : args = #[v0, v1] := by cases args; simp_all
 obtain ⟨rfl, rfl⟩ : gs = [] ∧ q = [] := by
  cases gs with
  | nil => exact ⟨rfl, hV⟩
  | cons g r => exact absurd hV (by intro h; cases h)
 obtain ⟨B0, len0, cap0, rfl⟩ := okWide_slice Tryd.underlying22 (hval 0 22 v0 rfl rfl)
 have k0 := h0
 have lt0 : ∀ x ∈ p0, x.block < W.heap.size := by obtain ⟨m, hm⟩ := k0; exact DataW.trod_lt m _ _ _ hm
 obtain ⟨l0, rfl, hcl0, hcr0, w0⟩ := RowKd.open_slice opens22 h0
 obtain ⟨cs1, rfl, sz1⟩ := okWide_struct Tryd.underlying26 (hval 1 26 v1 rfl rfl)
 have k1 := h1
 have lt1 : ∀ x ∈ p1, x.block < W.heap.size := by obtain ⟨m, hm⟩ := k1; exact DataW.trod_lt m _ _ _ hm
 obtain ⟨y1, ky1, w1⟩ := RowKd.open_agg opens26 h1
 obtain rfl : cs1 = #[.int .i64 y1.f0, .int .i64 y1.f1, .int .i64 y1.f2, .int .i64 y1.f3, .int .i64 y1.f4] := Array.ext' (k26_open ky1)
 refine (cupellaw20_TargetBack.calls 61000 B0 cap0 l0 y1.f0 y1.f1 y1.f2 y1.f3 y1.f4 true W hcr0 hcl0 (back_k l0 y1 (fun y hy => bnd64 (w0.2 y hy).2.2.2.2) (bnd64 w1.2.2.2.2) 61000 (Nat.le_refl _)) hT).mono fun e W' ⟨he, hb⟩ => ?_
 subst he
 refine ChangeSpec.post_blind ?_
 exact ⟨_, _, _, [], _, [], hW', trodAll_mk1 (shut_bool Tryd.underlying4 true), (trodAll_cons_mk (Below.trod laidOut (by kernel_rfl) (of_decide_eq_true (by kernel_rfl)) k0 hb lt0) (trodAll_cons_mk (Below.trod laidOut (by kernel_rfl) (of_decide_eq_true (by kernel_rfl)) k1 hb lt1) trodAll_mk0)), rfl, hb.frame _, fun h => by cases h⟩
theorem law_row : Rows.TargetBackSaid :=
 OpenClaim.holds_of_wide 7 Tryd.f7 rfl rfl rfl rfl rfl rfl rfl ⟨rfl, rfl, rfl, rfl, rfl⟩ rfl rfl rfl rfl rfl (by kernel_rfl) Tryd.func7 (by kernel_rfl)
  (of_decide_eq_true (by kernel_rfl)) (by unfold Func.isWrapper; rw [if_neg (of_decide_eq_false (by kernel_rfl))]; exact ⟨rfl, rfl⟩)
  (fun os started H enc _ => law_lifted os started H enc)
theorem law_card : Rows.TargetBackCardSaid :=
 Claim7.holds_tied_plain_at .later [] [.data, .data, .data, .sentinel, .sentinel, .data, .widerDeep] true (true, "bf4222c34dcd2dd5817e68d980566bad24dd9caffcc8ffece3bf14de2a76b292") true
  law_row (fun _ h => by cases h) (by kernel_rfl) (fun _ h => by cases h) targetBack_row_tie rfl ⟨rfl, rfl⟩ (by kernel_rfl) rfl
  (fun f fn hf hfn => by
   obtain rfl : f = 7 := Option.some.inj ((show Tryd.prog.funcNamed "cupel/cupellaw20.TargetBack" = some 7 by kernel_rfl).symm.trans hf) |>.symm
   obtain rfl : fn = Tryd.f7 := (Option.some.inj (Tryd.func7.symm.trans hfn)).symm
   exact ⟨by kernel_rfl, fun j t ht => by
    rw [Tryd.params7] at ht
    have h3 : t = 22 ∨ t = 26 := by
     match j, ht with
     | 0, ht => have e := Option.some.inj ht; exact .inl e.symm
     | 1, ht => have e := Option.some.inj ht; exact .inr e.symm
     | j + 2, ht => exact absurd ht (by simp)
    rcases h3 with rfl | rfl
    ·exact (show Tryd.prog.wantsStandIn 22 = false by kernel_rfl)
    ·exact (show Tryd.prog.wantsStandIn 26 = false by kernel_rfl)⟩)
  (by kernel_rfl)
end Go.Proofs.YtlaijeeeblcinaaDoor.A.TargetBack
namespace Go.Proofs.YtlaijeeeblcinaaDoor
/-- TargetBack, on its tied card. -/
theorem targetBack_holds : Rows.TargetBackCardSaid := A.TargetBack.law_card
#print axioms targetBack_holds
end Go.Proofs.YtlaijeeeblcinaaDoor

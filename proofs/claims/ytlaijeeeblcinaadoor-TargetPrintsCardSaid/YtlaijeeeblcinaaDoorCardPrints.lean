/- TargetPrints: the row and its tied card: whatever the input, the law returns true. -/
import Derived.Test.YtlaijeeeblcinaaDoorBase
import Derived.Test.YtlaijeeeblcinaaDoorLp
import Derived.Test.YtlaijeeeblcinaaDoorRowKd
set_option linter.all false
set_option linter.unusedVariables false
set_option maxRecDepth 100000
namespace Go.Proofs.YtlaijeeeblcinaaDoor.A.TargetPrints
open Go.ChangeShapes Go.WideShapes Go.RowKit Go.Proofs.YtlaijeeeblcinaaDoorW.PrintWords
theorem laidOut : laidOutB Tryd.prog = true := by kernel_rfl
/-- an image: its words, its data, where it begins -/
def k35i : Kd (List Int × List Int × Int) := Kd.pair (Kd.slice 48 (Kd.int .u64)) (Kd.pair (Kd.slice 2 (Kd.int .i64)) (Kd.int .i64))
theorem k35i_open {w : World} {x : List Int × List Int × Int} {cs : List Value} (h : k35i.K w x cs) : ∃ A0 c0 A1 c1, cs = [.slice A0 x.1.length c0, .slice A1 x.2.1.length c1, .int .i64 x.2.2] ∧ x.1.length ≤ c0 ∧ Kd.C (Kd.int .u64) w A0 x.1.length x.1 ∧ x.2.1.length ≤ c1 ∧ Kd.C (Kd.int .i64) w A1 x.2.1.length x.2.1 := by
 obtain ⟨_, _, rfl, ⟨A0, c0, rfl, h0, h1⟩, ⟨_, _, rfl, ⟨A1, c1, rfl, h2, h3⟩, rfl⟩⟩ := h
 exact ⟨A0, c0, A1, c1, rfl, h0, h1, h2, h3⟩
def wfl (k : IntKind) (l : List Int) : Prop := l.length ≤ maxLen ∧ ∀ x ∈ l, (Lit.int k x).wf = true
def wfi (n : Int) : Prop := (Lit.int .i64 n).wf = true
def wf35 (x : List Int × List Int × Int) : Prop := wfl .u64 x.1 ∧ wfl .i64 x.2.1 ∧ wfi x.2.2
theorem bnd64 {v : Int} (h : (Lit.int .i64 v).wf = true) : -9223372036854775808 ≤ v ∧ v ≤ 9223372036854775807 := by
 simp only [Lit.wf, Bool.and_eq_true, decide_eq_true_eq] at h
 exact h
theorem data_i64 {x : List Int × List Int × Int} (h : wf35 x) (v : Int) (hv : v ∈ x.2.1) : -9223372036854775808 ≤ v ∧ v ≤ 9223372036854775807 := bnd64 (h.2.1.2 v hv)
theorem opens3 : RowKd.Opens Tryd.prog 3 (Kd.int .i64) wfi := RowKd.opens_int Tryd.underlying3
theorem opens2 : RowKd.Opens Tryd.prog 2 (Kd.int .i64) (fun n => (Lit.int .i64 n).wf = true) := RowKd.opens_int Tryd.underlying2
theorem opens48 : RowKd.Opens Tryd.prog 48 (Kd.int .u64) (fun n => (Lit.int .u64 n).wf = true) := RowKd.opens_int Tryd.underlying48
theorem opens27 : RowKd.Opens Tryd.prog 27 (Kd.slice 48 (Kd.int .u64)) (wfl .u64) := RowKd.opens_slice 48 Tryd.underlying27 (by kernel_rfl) opens48
theorem opens33 : RowKd.Opens Tryd.prog 33 (Kd.slice 2 (Kd.int .i64)) (wfl .i64) := RowKd.opens_slice 2 Tryd.underlying33 (by kernel_rfl) opens2
theorem opens35 : RowKd.Opens Tryd.prog 35 k35i wf35 :=
 RowKd.opens_struct Tryd.underlying35 (by kernel_rfl) (RowKd.opens_field rfl (by kernel_rfl) opens27 (RowKd.opens_field rfl (by kernel_rfl) opens33 (RowKd.opens_last rfl (by kernel_rfl) opens3)))
theorem law_lifted (os : Os) (started : os.Started) (H : Type) (enc : TypeId × Value → H) :
  ReturnsInHanded {} Tryd.checked os 6 .any (fun w args => (Rows.targetPrintsSpec.pre enc Tryd.prog Tryd.f6 [] false w args ∧ laidMetH Tryd.prog laidL w) ∧ sizedMet enc Tryd.prog Tryd.f6 (OpenSpec.ofChange Rows.targetPrintsSpec) false w args)
   (Rows.targetPrintsSpec.post enc Tryd.prog Tryd.f6 false true false false) := by
 refine returnsInHanded_of_calls (C := Tryd.checked) ownKnob20 started (by kernel_rfl)
  (ChangeSpec.witness_at (enc := enc) (C := Tryd.checked) (os := os) (X := fun w _ => laidMetH Tryd.prog laidL w) false (laidWorld os) #[.agg #[.slice none 0 0, .slice none 0 0, .int .i64 0]] 8 rfl (by kernel_rfl) (by kernel_rfl) (by kernel_rfl) (by kernel_rfl) (by kernel_rfl) (laidWorld_met os _)) ?_
 intro w tape i _ hshape _ hok hpre _
 obtain ⟨_, _, _, fn', hfn', _, _, _, _, hval0⟩ := hok
 obtain rfl : fn' = Tryd.f6 := Option.some.inj (hfn'.symm.trans Tryd.func6)
 obtain ⟨⟨⟨ds, gs, before, hw0, hc⟩, hx⟩, hz⟩ := hpre
 have hW := DataW.Whole.of_heap (w' := w.forCall tape i) (by rfl) hw0
 have hT : Env (w.forCall tape i) := env_of_laid (by rfl) hshape hx
 have hval : ∀ (j : Nat) t v, Tryd.f6.params[j]? = some t → i.args[j]? = some v → Value.okWide Tryd.prog (w.forCall tape i) .any w.heap.size t v := hval0
 have hW' := hW
 obtain ⟨p, q, hA0, hV0, rfl, hfz, hnd⟩ := hW
 have hA : DataW.TrodAll enc Tryd.prog (w.forCall tape i) 0 (fun _ => true) true Tryd.f6.params.toList i.args.toList ds p := hA0
 have hV : DataW.TrodVars enc Tryd.prog (w.forCall tape i) (fun _ => true) [] gs q := hV0
 rw [Tryd.params6] at hA hval
 generalize w.forCall tape i = W at *
 generalize i.args = args at *
 obtain ⟨v0, vs0, d0, ds0, p0, q0, hargs, rfl, rfl, h0, r0⟩ := trodAll_cons hA
 obtain ⟨rfl, rfl, rfl⟩ := trodAll_nil r0
 obtain rfl : args = #[v0] := by cases args; simp_all
 obtain ⟨rfl, rfl⟩ : gs = [] ∧ q = [] := by
  cases gs with
  | nil => exact ⟨rfl, hV⟩
  | cons g r => exact absurd hV (by intro h; cases h)
 obtain ⟨cs0, rfl, sz0⟩ := okWide_struct Tryd.underlying35 (hval 0 35 v0 rfl rfl)
 have k0 := h0
 have lt0 : ∀ x ∈ p0, x.block < W.heap.size := by obtain ⟨m, hm⟩ := k0; exact DataW.trod_lt m _ _ _ hm
 obtain ⟨⟨code, data, entry⟩, ky0, w0⟩ := RowKd.open_agg opens35 h0
 obtain ⟨A0, c0, A1, c1, e0, hc0, hC, hc1, hD⟩ := k35i_open ky0
 obtain rfl : cs0 = #[.slice A0 code.length c0, .slice A1 data.length c1, .int .i64 entry] := Array.ext' e0
 refine (cupellaw20_TargetPrints.calls 60001 A0 c0 code A1 c1 data entry true W hC hc0 hD hc1 (prints_k code data entry (fun v hv => data_i64 w0 v hv) 60000 (Nat.le_refl _)) hT).mono fun e W' ⟨he, hb⟩ => ?_
 subst he
 refine ChangeSpec.post_blind ?_
 exact ⟨_, _, _, [], _, [], hW', trodAll_mk1 (shut_bool Tryd.underlying4 true), (trodAll_cons_mk (Below.trod laidOut (by kernel_rfl) (of_decide_eq_true (by kernel_rfl)) k0 hb lt0) trodAll_mk0), rfl, hb.frame _, fun h => by cases h⟩
theorem law_row : Rows.TargetPrintsSaid :=
 OpenClaim.holds_of_wide 6 Tryd.f6 rfl rfl rfl rfl rfl rfl rfl ⟨rfl, rfl, rfl, rfl, rfl⟩ rfl rfl rfl rfl rfl (by kernel_rfl) Tryd.func6 (by kernel_rfl)
  (of_decide_eq_true (by kernel_rfl)) (by unfold Func.isWrapper; rw [if_neg (of_decide_eq_false (by kernel_rfl))]; exact ⟨rfl, rfl⟩)
  (fun os started H enc _ => law_lifted os started H enc)
theorem law_card : Rows.TargetPrintsCardSaid :=
 Claim7.holds_tied_plain_at .later [] [.data, .data, .data, .sentinel, .sentinel, .data, .widerDeep] true (true, "bf4222c34dcd2dd5817e68d980566bad24dd9caffcc8ffece3bf14de2a76b292") true
  law_row (fun _ h => by cases h) (by kernel_rfl) (fun _ h => by cases h) targetPrints_row_tie rfl ⟨rfl, rfl⟩ (by kernel_rfl) rfl
  (fun f fn hf hfn => by
   obtain rfl : f = 6 := Option.some.inj ((show Tryd.prog.funcNamed "cupel/cupellaw20.TargetPrints" = some 6 by kernel_rfl).symm.trans hf) |>.symm
   obtain rfl : fn = Tryd.f6 := (Option.some.inj (Tryd.func6.symm.trans hfn)).symm
   exact ⟨by kernel_rfl, fun j t ht => by
    rw [Tryd.params6] at ht
    have h3 : t = 35 := by
     match j, ht with
     | 0, ht => have e := Option.some.inj ht; exact e.symm
     | j + 1, ht => exact absurd ht (by simp)
    rcases h3 with rfl
    ·exact (show Tryd.prog.wantsStandIn 35 = false by kernel_rfl)⟩)
  (by kernel_rfl)
end Go.Proofs.YtlaijeeeblcinaaDoor.A.TargetPrints
namespace Go.Proofs.YtlaijeeeblcinaaDoor
/-- TargetPrints, on its tied card. -/
theorem targetPrints_holds : Rows.TargetPrintsCardSaid := A.TargetPrints.law_card
#print axioms targetPrints_holds
end Go.Proofs.YtlaijeeeblcinaaDoor

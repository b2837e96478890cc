/- GroupsPart: the row and its tied card: whatever the input, the law returns true. -/
import Derived.Test.YtndennmpnomjnaaDoorBase
import Derived.Test.YtndennmpnomjnaaDoorWp
import Derived.Test.YtndennmpnomjnaaDoorRowKd
set_option linter.all false
set_option linter.unusedVariables false
set_option maxRecDepth 100000
namespace Go.Proofs.YtndennmpnomjnaaDoor.A.GroupsPart
open Go.ChangeShapes Go.WideShapes Go.RowKit Go.Proofs.YtndennmpnomjnaaDoorW.PrintWords
theorem laidOut : laidOutB Tryd.prog = true := by kernel_rfl
def wfl (k : IntKind) (l : List Int) : Prop := l.length ≤ maxLen ∧ ∀ x ∈ l, (Lit.int k x).wf = true
def wfi (n : Int) : Prop := (Lit.int .i64 n).wf = true
def wfs (s : ByteArray) : Prop := s.size ≤ maxLen
theorem opens3 : RowKd.Opens Tryd.prog 3 (Kd.int .i64) wfi := RowKd.opens_int Tryd.underlying3
theorem opens9 : RowKd.Opens Tryd.prog 9 Kd.string wfs := RowKd.opens_string Tryd.underlying9
theorem opens30 : RowKd.Opens Tryd.prog 30 (Kd.slice 3 (Kd.int .i64)) (wfl .i64) := RowKd.opens_slice 3 Tryd.underlying30 (by kernel_rfl) opens3
theorem opens29 : RowKd.Opens Tryd.prog 29 (Kd.slice 9 Kd.string) (fun l => l.length ≤ maxLen ∧ ∀ x ∈ l, wfs x) := RowKd.opens_slice 9 Tryd.underlying29 (by kernel_rfl) opens9
theorem law_lifted (os : Os) (started : os.Started) (H : Type) (enc : TypeId × Value → H) :
  ReturnsInHanded {} Tryd.checked os 6 .any (fun w args => (Rows.groupsPartSpec.pre enc Tryd.prog Tryd.f6 [] false w args ∧ laidMetH Tryd.prog laidL w) ∧ sizedMet enc Tryd.prog Tryd.f6 (OpenSpec.ofChange Rows.groupsPartSpec) false w args)
   (Rows.groupsPartSpec.post enc Tryd.prog Tryd.f6 false true false false) := by
 refine returnsInHanded_of_calls (C := Tryd.checked) ownKnob20 started (by kernel_rfl)
  (ChangeSpec.witness_at (enc := enc) (C := Tryd.checked) (os := os) (X := fun w _ => laidMetH Tryd.prog laidL w) false (laidWorld os) #[.slice none 0 0, .slice none 0 0] 8 rfl (by kernel_rfl) (by kernel_rfl) (by kernel_rfl) (by kernel_rfl) (by kernel_rfl) (laidWorld_met os _)) ?_
 intro w tape i _ hshape _ hok hpre _
 obtain ⟨_, _, _, fn', hfn', _, _, _, _, hval0⟩ := hok
 obtain rfl : fn' = Tryd.f6 := Option.some.inj (hfn'.symm.trans Tryd.func6)
 obtain ⟨⟨⟨ds, gs, before, hw0, hc⟩, hx⟩, hz⟩ := hpre
 have hW := DataW.Whole.of_heap (w' := w.forCall tape i) (by rfl) hw0
 have hT : Env (w.forCall tape i) := env_of_laid (by rfl) hshape hx
 have hval : ∀ (j : Nat) t v, Tryd.f6.params[j]? = some t → i.args[j]? = some v → Value.okWide Tryd.prog (w.forCall tape i) .any w.heap.size t v := hval0
 have hW' := hW
 obtain ⟨p, q, hA0, hV0, rfl, hfz, hnd⟩ := hW
 have hA : DataW.TrodAll enc Tryd.prog (w.forCall tape i) 0 (fun _ => true) true Tryd.f6.params.toList i.args.toList ds p := hA0
 have hV : DataW.TrodVars enc Tryd.prog (w.forCall tape i) (fun _ => true) [] gs q := hV0
 rw [Tryd.params6] at hA hval
 generalize w.forCall tape i = W at *
 generalize i.args = args at *
 obtain ⟨v0, vs0, d0, ds0, p0, q0, hargs, rfl, rfl, h0, r0⟩ := trodAll_cons hA
 obtain ⟨v1, vs1, d1, ds1, p1, q1, rfl, rfl, rfl, h1, r1⟩ := trodAll_cons r0
 obtain ⟨rfl, rfl, rfl⟩ := trodAll_nil r1
 obtain rfl : args = #[v0, v1] := by cases args; simp_all
 obtain ⟨rfl, rfl⟩ : gs = [] ∧ q = [] := by
  cases gs with
  | nil => exact ⟨rfl, hV⟩
  | cons g r => exact absurd hV (by intro h; cases h)
 obtain ⟨B0, len0, cap0, rfl⟩ := okWide_slice Tryd.underlying29 (hval 0 29 v0 rfl rfl)
 have k0 := h0
 have lt0 : ∀ x ∈ p0, x.block < W.heap.size := by obtain ⟨m, hm⟩ := k0; exact DataW.trod_lt m _ _ _ hm
 obtain ⟨l0, rfl, hcl0, hcr0, w0⟩ := RowKd.open_slice opens29 h0
 obtain ⟨B1, len1, cap1, rfl⟩ := okWide_slice Tryd.underlying30 (hval 1 30 v1 rfl rfl)
 have k1 := h1
 have lt1 : ∀ x ∈ p1, x.block < W.heap.size := by obtain ⟨m, hm⟩ := k1; exact DataW.trod_lt m _ _ _ hm
 obtain ⟨l1, rfl, hcl1, hcr1, w1⟩ := RowKd.open_slice opens30 h1
 refine (part_law_calls B0 cap0 l0 B1 cap1 l1 W hcr0 hcl0 hcr1 hcl1 hT (w0.2)).mono fun e W' ⟨he, hb⟩ => ?_
 subst he
 refine ChangeSpec.post_blind ?_
 exact ⟨_, _, _, [], _, [], hW', trodAll_mk1 (shut_bool Tryd.underlying4 true), (trodAll_cons_mk (Below.trod laidOut (by kernel_rfl) (of_decide_eq_true (by kernel_rfl)) k0 hb lt0) (trodAll_cons_mk (Below.trod laidOut (by kernel_rfl) (of_decide_eq_true (by kernel_rfl)) k1 hb lt1) trodAll_mk0)), rfl, hb.frame _, fun h => by cases h⟩
theorem law_row : Rows.GroupsPartSaid :=
 OpenClaim.holds_of_wide 6 Tryd.f6 rfl rfl rfl rfl rfl rfl rfl ⟨rfl, rfl, rfl, rfl, rfl⟩ rfl rfl rfl rfl rfl (by kernel_rfl) Tryd.func6 (by kernel_rfl)
  (of_decide_eq_true (by kernel_rfl)) (by unfold Func.isWrapper; rw [if_neg (of_decide_eq_false (by kernel_rfl))]; exact ⟨rfl, rfl⟩)
  (fun os started H enc _ => law_lifted os started H enc)
theorem law_card : Rows.GroupsPartCardSaid :=
 Claim7.holds_tied_plain_at .later [] [.data, .data, .data, .data, .pinned] true (true, "7fa6dad223a48031432617259ac50798f5a52da386c94199e874e9c198be69d8") false
  law_row (fun _ h => by cases h) (by kernel_rfl) (fun _ h => by cases h) groupsPart_row_tie rfl ⟨rfl, rfl⟩ (by kernel_rfl) rfl
  (fun f fn hf hfn => by
   obtain rfl : f = 6 := Option.some.inj ((show Tryd.prog.funcNamed "cupel/cupellaw35.GroupsPart" = some 6 by kernel_rfl).symm.trans hf) |>.symm
   obtain rfl : fn = Tryd.f6 := (Option.some.inj (Tryd.func6.symm.trans hfn)).symm
   exact ⟨by kernel_rfl, fun j t ht => by
    rw [Tryd.params6] at ht
    have h3 : t = 29 ∨ t = 30 := by
     match j, ht with
     | 0, ht => have e := Option.some.inj ht; exact .inl e.symm
     | 1, ht => have e := Option.some.inj ht; exact .inr e.symm
     | j + 2, ht => exact absurd ht (by simp)
    rcases h3 with rfl | rfl
    ·exact (show Tryd.prog.wantsStandIn 29 = false by kernel_rfl)
    ·exact (show Tryd.prog.wantsStandIn 30 = false by kernel_rfl)⟩)
  (by kernel_rfl)
end Go.Proofs.YtndennmpnomjnaaDoor.A.GroupsPart
namespace Go.Proofs.YtndennmpnomjnaaDoor
/-- GroupsPart, on its tied card. -/
theorem groupsPart_holds : Rows.GroupsPartCardSaid := A.GroupsPart.law_card
#print axioms groupsPart_holds
end Go.Proofs.YtndennmpnomjnaaDoor

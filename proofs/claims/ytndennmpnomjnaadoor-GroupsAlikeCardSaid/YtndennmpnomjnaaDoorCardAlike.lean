/- GroupsAlike: the row and its tied card: whatever the input, the law returns true. -/
import Derived.Test.YtndennmpnomjnaaDoorBase
import Derived.Test.YtndennmpnomjnaaDoorWl
import Derived.Test.YtndennmpnomjnaaDoorRowKd
set_option linter.all false
set_option linter.unusedVariables false
set_option maxRecDepth 100000
namespace Go.Proofs.YtndennmpnomjnaaDoor.A.GroupsAlike
open Go.ChangeShapes Go.WideShapes Go.RowKit Go.Proofs.YtndennmpnomjnaaDoorW.PrintWords
theorem laidOut : laidOutB Tryd.prog = true := by kernel_rfl
def wfl (k : IntKind) (l : List Int) : Prop := l.length ≤ maxLen ∧ ∀ x ∈ l, (Lit.int k x).wf = true
def wfi (n : Int) : Prop := (Lit.int .i64 n).wf = true
def wfs (s : ByteArray) : Prop := s.size ≤ maxLen
theorem bnd64 {v : Int} (h : (Lit.int .i64 v).wf = true) : -9223372036854775808 ≤ v ∧ v ≤ 9223372036854775807 := by
 simp only [Lit.wf, Bool.and_eq_true, decide_eq_true_eq] at h
 exact h
theorem opens3 : RowKd.Opens Tryd.prog 3 (Kd.int .i64) wfi := RowKd.opens_int Tryd.underlying3
theorem opens2 : RowKd.Opens Tryd.prog 2 (Kd.int .i64) wfi := RowKd.opens_int Tryd.underlying2
theorem opens9 : RowKd.Opens Tryd.prog 9 Kd.string wfs := RowKd.opens_string Tryd.underlying9
theorem opens41 : RowKd.Opens Tryd.prog 41 (Kd.slice 2 (Kd.int .i64)) (wfl .i64) := RowKd.opens_slice 2 Tryd.underlying41 (by kernel_rfl) opens2
def wf43 (x : A.S43) : Prop := wfl .i64 x.f0 ∧ wfi x.f1 ∧ wfi x.f2
theorem opens43 : RowKd.Opens Tryd.prog 43 A.k43 wf43 :=
 RowKd.opens_iso (fun x : A.S43 => (x.f0, x.f1, x.f2)) (fun y => (⟨y.1, y.2.1, y.2.2⟩ : A.S43)) (fun _ => rfl)
  (RowKd.opens_struct Tryd.underlying43 (by kernel_rfl) (RowKd.opens_field rfl (by kernel_rfl) opens41 (RowKd.opens_field rfl (by kernel_rfl) opens3 (RowKd.opens_last rfl (by kernel_rfl) opens3))))
def wf45 (x : A.S45) : Prop := wfs x.f0 ∧ wf43 x.f1
theorem opens45 : RowKd.Opens Tryd.prog 45 A.k45 wf45 :=
 RowKd.opens_iso (fun x : A.S45 => (x.f0, x.f1)) (fun y => (⟨y.1, y.2⟩ : A.S45)) (fun _ => rfl)
  (RowKd.opens_struct Tryd.underlying45 (by kernel_rfl) (RowKd.opens_field rfl (by kernel_rfl) opens9 (RowKd.opens_last rfl (by kernel_rfl) opens43)))
theorem opens22 : RowKd.Opens Tryd.prog 22 (Kd.slice 45 A.k45) (fun l => l.length ≤ maxLen ∧ ∀ x ∈ l, wf45 x) := RowKd.opens_slice 45 Tryd.underlying22 (by kernel_rfl) opens45
theorem law_lifted (os : Os) (started : os.Started) (H : Type) (enc : TypeId × Value → H) :
  ReturnsInHanded {} Tryd.checked os 7 .any (fun w args => (Rows.groupsAlikeSpec.pre enc Tryd.prog Tryd.f7 [] false w args ∧ laidMetH Tryd.prog laidL w) ∧ sizedMet enc Tryd.prog Tryd.f7 (OpenSpec.ofChange Rows.groupsAlikeSpec) false w args)
   (Rows.groupsAlikeSpec.post enc Tryd.prog Tryd.f7 false true false false) := by
 refine returnsInHanded_of_calls (C := Tryd.checked) ownKnob20 started (by kernel_rfl)
  (ChangeSpec.witness_at (enc := enc) (C := Tryd.checked) (os := os) (X := fun w _ => laidMetH Tryd.prog laidL w) false (laidWorld os) #[.slice none 0 0, .int .i64 0, .int .i64 0] 8 rfl (by kernel_rfl) (by kernel_rfl) (by kernel_rfl) (by kernel_rfl) (by kernel_rfl) (laidWorld_met os _)) ?_
 intro w tape i _ hshape _ hok hpre _
 obtain ⟨_, _, _, fn', hfn', _, _, _, _, hval0⟩ := hok
 obtain rfl : fn' = Tryd.f7 := Option.some.inj (hfn'.symm.trans Tryd.func7)
 obtain ⟨⟨⟨ds, gs, before, hw0, hc⟩, hx⟩, hz⟩ := hpre
 have hW := DataW.Whole.of_heap (w' := w.forCall tape i) (by rfl) hw0
 have hT : Env (w.forCall tape i) := env_of_laid (by rfl) hshape hx
 have hval : ∀ (j : Nat) t v, Tryd.f7.params[j]? = some t → i.args[j]? = some v → Value.okWide Tryd.prog (w.forCall tape i) .any w.heap.size t v := hval0
 have hW' := hW
 obtain ⟨p, q, hA0, hV0, rfl, hfz, hnd⟩ := hW
 have hA : DataW.TrodAll enc Tryd.prog (w.forCall tape i) 0 (fun _ => true) true Tryd.f7.params.toList i.args.toList ds p := hA0
 have hV : DataW.TrodVars enc Tryd.prog (w.forCall tape i) (fun _ => true) [] gs q := hV0
 rw [Tryd.params7] at hA hval
 generalize w.forCall tape i = W at *
 generalize i.args = args at *
 obtain ⟨v0, vs0, d0, ds0, p0, q0, hargs, rfl, rfl, h0, r0⟩ := trodAll_cons hA
 obtain ⟨v1, vs1, d1, ds1, p1, q1, rfl, rfl, rfl, h1, r1⟩ := trodAll_cons r0
 obtain ⟨v2, vs2, d2, ds2, p2, q2, rfl, rfl, rfl, h2, r2⟩ := trodAll_cons r1
 obtain ⟨rfl, rfl, rfl⟩ := trodAll_nil r2
 obtain rfl : args = #[v0, v1, v2] := by cases args; simp_all
 obtain ⟨rfl, rfl⟩ : gs = [] ∧ q = [] := by
  cases gs with
  | nil => exact ⟨rfl, hV⟩
  | cons g r => exact absurd hV (by intro h; cases h)
 obtain ⟨B0, len0, cap0, rfl⟩ := okWide_slice Tryd.underlying22 (hval 0 22 v0 rfl rfl)
 have k0 := h0
 have lt0 : ∀ x ∈ p0, x.block < W.heap.size := by obtain ⟨m, hm⟩ := k0; exact DataW.trod_lt m _ _ _ hm
 obtain ⟨l0, rfl, hcl0, hcr0, w0⟩ := RowKd.open_slice opens22 h0
 obtain ⟨a1, rfl, rfl, rfl, w1⟩ := open_int Tryd.underlying3 (hval 1 3 v1 rfl rfl) h1
 obtain ⟨a2, rfl, rfl, rfl, w2⟩ := open_int Tryd.underlying2 (hval 2 2 v2 rfl rfl) h2
 refine (alike_calls B0 cap0 l0 a1 a2 W hcr0 hcl0 hT (fun o ho => bnd64 (w0.2 o ho).2.2.2) (fun o ho v hv => bnd64 ((w0.2 o ho).2.1.2 v hv))).mono fun e W' ⟨he, hb⟩ => ?_
 subst he
 refine ChangeSpec.post_blind ?_
 exact ⟨_, _, _, [], _, [], hW', trodAll_mk1 (shut_bool Tryd.underlying4 true), (trodAll_cons_mk (Below.trod laidOut (by kernel_rfl) (of_decide_eq_true (by kernel_rfl)) k0 hb lt0) (trodAll_cons_mk (shut_int Tryd.underlying3 w1) (trodAll_cons_mk (shut_int Tryd.underlying2 w2) trodAll_mk0))), rfl, hb.frame _, fun h => by cases h⟩
theorem law_row : Rows.GroupsAlikeSaid :=
 OpenClaim.holds_of_wide 7 Tryd.f7 rfl rfl rfl rfl rfl rfl rfl ⟨rfl, rfl, rfl, rfl, rfl⟩ rfl rfl rfl rfl rfl (by kernel_rfl) Tryd.func7 (by kernel_rfl)
  (of_decide_eq_true (by kernel_rfl)) (by unfold Func.isWrapper; rw [if_neg (of_decide_eq_false (by kernel_rfl))]; exact ⟨rfl, rfl⟩)
  (fun os started H enc _ => law_lifted os started H enc)
theorem law_card : Rows.GroupsAlikeCardSaid :=
 Claim7.holds_tied_plain_at .later [] [.data, .data, .data, .data, .pinned] true (true, "7fa6dad223a48031432617259ac50798f5a52da386c94199e874e9c198be69d8") false
  law_row (fun _ h => by cases h) (by kernel_rfl) (fun _ h => by cases h) groupsAlike_row_tie rfl ⟨rfl, rfl⟩ (by kernel_rfl) rfl
  (fun f fn hf hfn => by
   obtain rfl : f = 7 := Option.some.inj ((show Tryd.prog.funcNamed "cupel/cupellaw35.GroupsAlike" = some 7 by kernel_rfl).symm.trans hf) |>.symm
   obtain rfl : fn = Tryd.f7 := (Option.some.inj (Tryd.func7.symm.trans hfn)).symm
   exact ⟨by kernel_rfl, fun j t ht => by
    rw [Tryd.params7] at ht
    have h3 : t = 22 ∨ t = 3 ∨ t = 2 := by
     match j, ht with
     | 0, ht => have e := Option.some.inj ht; exact .inl e.symm
     | 1, ht => have e := Option.some.inj ht; exact .inr (.inl e.symm)
     | 2, ht => have e := Option.some.inj ht; exact .inr (.inr e.symm)
     | j + 3, ht => exact absurd ht (by simp)
    rcases h3 with rfl | rfl | rfl
    ·exact (show Tryd.prog.wantsStandIn 22 = false by kernel_rfl)
    ·exact (show Tryd.prog.wantsStandIn 3 = false by kernel_rfl)
    ·exact (show Tryd.prog.wantsStandIn 2 = false by kernel_rfl)⟩)
  (by kernel_rfl)
end Go.Proofs.YtndennmpnomjnaaDoor.A.GroupsAlike
namespace Go.Proofs.YtndennmpnomjnaaDoor
/-- GroupsAlike, on its tied card. -/
theorem groupsAlike_holds : Rows.GroupsAlikeCardSaid := A.GroupsAlike.law_card
#print axioms groupsAlike_holds
end Go.Proofs.YtndennmpnomjnaaDoor

/- EmulateNone: the row and its tied card: whatever the input, the law returns true. -/
import Derived.Test.YtekhnkpjeofdpaaDoorNoneW
import Derived.Test.YtekhnkpjeofdpaaDoorLaid
import Derived.Test.YtekhnkpjeofdpaaDoorTie
import Derived.Test.YtekhnkpjeofdpaaDoorCards
import Derived.ChangeSame
import Derived.ChangeVars
import Derived.JoinedOf
import Derived.RowKit
import Derived.RowKitTokens
import Derived.LaidLaws
import Derived.Stop.Joined
import Derived.SevenTiedAt
set_option linter.unusedVariables false
set_option maxRecDepth 100000
namespace Go.Proofs.YtekhnkpjeofdpaaDoor.A
open Go.ChangeShapes Go.WideShapes Go.RowKit
theorem ownKnob23 : ownKnob Tryd.prog.godebug = none := by kernel_rfl
theorem g_table : Tryd.prog.globalNamed "cupel/target.table" = some 0 := by kernel_rfl
theorem g_binary : Tryd.prog.globalNamed "cupel/target.binary" = some 1 := by kernel_rfl
theorem t_table : (Tryd.prog.globals[0]?).map (·.type) = some 124 := by kernel_rfl
theorem t_binary : (Tryd.prog.globals[1]?).map (·.type) = some 116 := by kernel_rfl
theorem row0 : (((begin Tryd.prog (fun _ _ => 0) default).world.heap[0]?).bind Obj.row?).map (·.2) = some 124 := by kernel_rfl
theorem row1 : (((begin Tryd.prog (fun _ _ => 0) default).world.heap[1]?).bind Obj.row?).map (·.2) = some 116 := by kernel_rfl
theorem globals_two : 1 < Tryd.prog.globals.size := by
  have h : decide (1 < Tryd.prog.globals.size) = true := by kernel_rfl
  exact of_decide_eq_true h
theorem var_cells {W : World} {name : String} {g : Nat} {cs : Array Value} {c : Array Value} {t : TypeId} {fr : Nat × Nat} (hg : Tryd.prog.globalNamed name = some g) (hv : W.var? Tryd.prog name = some cs) (hb : W.heap[g]? = some (.cells c t fr)) : c = cs := by
  unfold World.var? at hv
  rw [hg] at hv
  simp only [Option.bind_some, hb] at hv
  exact Option.some.inj hv
/-- what the condition and the world's shape give a walk: the two tables lie in their blocks -/
theorem tab_of_laid {W W' : World} (hheap : W.heap = W'.heap) (hs : W.ShapedOpen Tryd.prog) (h : laidMetH Tryd.prog [("cupel/target.table", Rows.laid_cupel_target_table), ("cupel/target.binary", Rows.laid_cupel_target_binary)] W') : Tab W := by
  have h' : laidMet Tryd.prog [("cupel/target.table", Rows.laid_cupel_target_table), ("cupel/target.binary", Rows.laid_cupel_target_binary)] W' := h
  obtain ⟨ps, ⟨g0, t0, cs0, fuel0, p0, q0, hg0, ht0, hv0, hd0, ⟨g1, t1, cs1, fuel1, p1, q1, hg1, ht1, hv1, hd1, _, _⟩, _⟩, _⟩ := h'
  obtain rfl := Option.some.inj (g_table.symm.trans hg0)
  obtain rfl := Option.some.inj (g_binary.symm.trans hg1)
  obtain rfl := Option.some.inj (t_table.symm.trans ht0)
  obtain rfl := Option.some.inj (t_binary.symm.trans ht1)
  have e0 := trod_table hd0
  have e1 := trod_binary hd1
  obtain ⟨⟨z0, t0⟩, hr0, ht0'⟩ := Option.map_eq_some_iff.1 row0
  obtain ⟨⟨z1, t1⟩, hr1, ht1'⟩ := Option.map_eq_some_iff.1 row1
  simp only at ht0' ht1'
  subst ht0'
  subst ht1'
  obtain ⟨c0, hb0, _⟩ := hs.1 0 z0 124 (Nat.lt_trans Nat.zero_lt_one globals_two) hr0
  obtain ⟨c1, hb1, _⟩ := hs.1 1 z1 116 globals_two hr1
  have f0 := var_cells g_table hv0 (hheap ▸ hb0)
  have f1 := var_cells g_binary hv1 (hheap ▸ hb1)
  have k0 : c0 = tableCells := by rw [f0]; exact Array.toList_inj.1 e0
  have k1 : c1 = operationsCells := by rw [f1]; exact Array.toList_inj.1 e1
  subst k0
  subst k1
  exact ⟨⟨_, hb0⟩, _, hb1⟩
/-- A world that meets the condition: the settled one, the two tables laid. -/
noncomputable def laidWorld (os : Os) : World :=
  let w0 := World.holding Tryd.prog os ⟨#[], #[], []⟩
  { w0 with heap := (w0.heap.modify 0 fun
      | .cells _ t frozen => .cells tableCells t frozen
      | o => o).modify 1 fun
      | .cells _ t frozen => .cells operationsCells t frozen
      | o => o }
theorem laidWorld_met (os : Os) (args : Array Value) : laidMetH Tryd.prog [("cupel/target.table", Rows.laid_cupel_target_table), ("cupel/target.binary", Rows.laid_cupel_target_binary)] ((laidWorld os).forCall (fun _ _ => 0) ⟨#[], args, []⟩).memory :=
  show laidMet Tryd.prog _ _ from laidMet_of_run' 8 (by kernel_rfl) (by kernel_rfl)
theorem law_lifted (os : Os) (started : os.Started) (H : Type) (enc : TypeId × Value → H) :
    ReturnsInHanded {} Tryd.checked os 7 .any (fun w args => (Rows.emulateNoneSpec.pre enc Tryd.prog Tryd.f7 [] false w args ∧ laidMetH Tryd.prog [("cupel/target.table", Rows.laid_cupel_target_table), ("cupel/target.binary", Rows.laid_cupel_target_binary)] w) ∧ sizedMet enc Tryd.prog Tryd.f7 (OpenSpec.ofChange Rows.emulateNoneSpec) false w args)
      (Rows.emulateNoneSpec.post enc Tryd.prog Tryd.f7 false true false false) := by
  refine returnsInHanded_of_calls (C := Tryd.checked) ownKnob23 started (by kernel_rfl)
    (ChangeSpec.witness_at (enc := enc) (C := Tryd.checked) (os := os) (X := fun w _ => laidMetH Tryd.prog [("cupel/target.table", Rows.laid_cupel_target_table), ("cupel/target.binary", Rows.laid_cupel_target_binary)] w) false (laidWorld os) #[.int .i64 0] 8 rfl (by kernel_rfl) (by kernel_rfl) (by kernel_rfl) (by kernel_rfl) (by kernel_rfl) (laidWorld_met os _)) ?_
  intro w tape i _ hshape _ hok hpre _
  obtain ⟨_, _, _, fn', hfn', _, _, _, _, hval0⟩ := hok
  obtain rfl : fn' = Tryd.f7 := Option.some.inj (hfn'.symm.trans Tryd.func7)
  obtain ⟨⟨⟨ds, gs, before, hw0, hc⟩, hx⟩, hz⟩ := hpre
  have hW := DataW.Whole.of_heap (w' := w.forCall tape i) (by rfl) hw0
  have hT : Tab (w.forCall tape i) := tab_of_laid (by rfl) hshape hx
  have hval : ∀ (j : Nat) t v, Tryd.f7.params[j]? = some t → i.args[j]? = some v → Value.okWide Tryd.prog (w.forCall tape i) .any w.heap.size t v := hval0
  have hW' := hW
  obtain ⟨p, q, hA0, hV0, rfl, hfz, hnd⟩ := hW
  have hA : DataW.TrodAll enc Tryd.prog (w.forCall tape i) 0 (fun _ => true) true Tryd.f7.params.toList i.args.toList ds p := hA0
  have hV : DataW.TrodVars enc Tryd.prog (w.forCall tape i) (fun _ => true) [] gs q := hV0
  rw [Tryd.params7] at hA hval
  generalize w.forCall tape i = W at *
  generalize i.args = args at *
  obtain ⟨v0, d0, rfl, rfl, h0⟩ := trodAll_one hA
  obtain ⟨n, rfl, rfl, rfl, hwn⟩ := open_int Tryd.underlying3 (hval 0 3 v0 rfl rfl) h0
  obtain ⟨rfl, rfl⟩ : gs = [] ∧ q = [] := by
    cases gs with
    | nil => exact ⟨rfl, hV⟩
    | cons g r => exact absurd hV (by intro h; cases h)
  have e1 : Rows.emulateNoneSpec.fn H ([.lit (.int .i64 n)] ++ []) = { results := [.lit (.bool true)], args := [.lit (.int .i64 n)] } := by simp [Rows.emulateNoneSpec]
  refine (law_none n W hT).mono fun e W' ⟨he, hb⟩ => ?_
  subst he
  refine ChangeSpec.post_blind ?_
  refine ⟨_, _, _, [], [], [], hW', ?_, ?_, ?_, hb.frame _, fun h => by cases h⟩
  · rw [e1]; exact trodAll_mk1 (shut_bool Tryd.underlying4 true)
  · rw [e1]; exact trodAll_mk1 (shut_int Tryd.underlying3 hwn)
  · rw [e1]; rfl
theorem emulateNone_row : Rows.EmulateNoneSaid :=
  OpenClaim.holds_of_wide 7 Tryd.f7 rfl rfl rfl rfl rfl rfl rfl ⟨rfl, rfl, rfl, rfl, rfl⟩ rfl rfl rfl rfl rfl (by kernel_rfl) Tryd.func7 (by kernel_rfl)
    (of_decide_eq_true (by kernel_rfl)) (by unfold Func.isWrapper; rw [if_neg (of_decide_eq_false (by kernel_rfl))]; exact ⟨rfl, rfl⟩)
    (fun os started H enc _ => law_lifted os started H enc)
theorem emulateNone_card : Rows.EmulateNoneCardSaid :=
  Claim7.holds_tied_plain_at .later [] [.data, .widerDeep] true (true, "e5560d9b169924f27af22763cf9a988d338a0c218efbfc97de84bd4233040f7b") false
    emulateNone_row (fun _ h => by cases h) (by kernel_rfl) (fun _ h => by cases h) emulateNone_row_tie rfl ⟨rfl, rfl⟩ (by kernel_rfl) rfl
    (fun f fn hf hfn => by
      obtain rfl : f = 7 := Option.some.inj ((show Tryd.prog.funcNamed "cupel/cupellaw23.EmulateNone" = some 7 by kernel_rfl).symm.trans hf) |>.symm
      obtain rfl : fn = Tryd.f7 := (Option.some.inj (Tryd.func7.symm.trans hfn)).symm
      exact ⟨by kernel_rfl, fun j t ht => by
        rw [Tryd.params7] at ht
        have h3 : t = 3 := by
          rcases j with _ | j
          · simpa using ht.symm
          · simp at ht
        subst h3
        exact (show Tryd.prog.wantsStandIn 3 = false by kernel_rfl)⟩)
    (by kernel_rfl)
end Go.Proofs.YtekhnkpjeofdpaaDoor.A
namespace Go.Proofs.YtekhnkpjeofdpaaDoor
/-- EmulateNone, on its tied card. -/
theorem emulateNone_holds : Rows.EmulateNoneCardSaid := A.emulateNone_card
#print axioms emulateNone_holds
end Go.Proofs.YtekhnkpjeofdpaaDoor

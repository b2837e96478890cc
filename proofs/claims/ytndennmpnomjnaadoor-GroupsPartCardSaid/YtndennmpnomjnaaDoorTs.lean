/- Closing tactics that the printed walks use again and again, each a default argument. -/
import Derived.Test.YtndennmpnomjnaaDoorProg
import Derived.Test.YtndennmpnomjnaaDoorWAll
import Derived.Below
import Derived.Deep.Draws
import Derived.Deep.AppendLies
import Derived.Maps.AppendAt
import Derived.OwnWalk
import Derived.Laws.BytesArg
import Derived.Laws.MakeOwn
import Derived.Laws.OwnMore
import Derived.Deep.OwnRows
import Derived.Tactics
import Derived.Lib.ConvBytes
import Derived.Laws.Slices
import Derived.WalkKit
import Derived.KernelRfl
import Derived.RowKit3
import Derived.Deep.LoopGhost
import Derived.Deep.QuietTactic
import Derived.BigQuiet
import Derived.WideLaws
import Derived.Deep.DeepCutAuto
import Derived.Deep.CutBlock
import Derived.Deep.RegionHeld3
import Derived.Laws.Rows
import Derived.Lib.AppendStr
import Derived.ArgAppend
import Derived.Laws.IdiomCopy
import Derived.OrdersHeld
import Derived.Laws.BitsLemmas
import Derived.RowKit
import Derived.WalkSpells
set_option linter.all false
namespace Go.Proofs.YtndennmpnomjnaaDoor.A
open Go.RowKit Go.Proofs.YtndennmpnomjnaaDoorW.PrintWords Go.Proofs.YtndennmpnomjnaaDoorW.PrintLast Go.Proofs.YtndennmpnomjnaaDoorW.PrintMore
set_option linter.unusedVariables false
theorem ts0_ {p : Prop} (h : p := by exact (Reps.one (show Kd.M (Kd.int .i64) _ _ _ 1 [.int .i64 1] from rfl) (Reps.none _ _))) : p := h
theorem ts1_ {p : Prop} (h : p := by (try simp only [List.map_toArray, List.map_cons, List.map_nil]); first | done | rfl | (simp only [List.length_drop, List.length_take]; rfl)) : p := h
theorem ts2_ {p p0_ : Prop} (q0_ : p0_) (h : p0_ → p := by intro q0_; repeat (first | exact (Kd.S_reads' q0_).2.2 | (with_reducible refine Kd.C_alloc ?_ _) | (with_reducible refine Kd.C_drewN ?_ _) | (with_reducible refine Kd.C_drew ?_))) : p := h q0_
theorem ts3_ {p p0_ p1_ : Prop} (q0_ : p0_) (q1_ : p1_) (h : p0_ → p1_ → p := by intro q0_ q1_; repeat (first | exact (Kd.C_below q0_ q1_) | (with_reducible refine Kd.C_alloc ?_ _) | (with_reducible refine Kd.C_drewN ?_ _) | (with_reducible refine Kd.C_drew ?_))) : p := h q0_ q1_
theorem ts4_ {p p0_ : Prop} (q0_ : p0_) (h : p0_ → p := by intro q0_; (with_reducible repeat (first | apply Kd.N_alloc | apply Kd.N_drewN | apply Kd.N_drew)); exact q0_) : p := h q0_
theorem ts5_ {p p0_ : Prop} (q0_ : p0_) (h : p0_ → p := by intro q0_; repeat (first | exact q0_ | apply SortK.Grew.alloc | apply SortK.Grew.drewN | apply SortK.Grew.drew)) : p := h q0_
theorem ts6_ {p p0_ : Prop} (q0_ : p0_) (h : p0_ → p := by intro q0_; (with_reducible repeat (first | refine blk_drewN ?_ _ | refine blk_drew ?_ | refine blk_alloc ?_ _)); exact q0_) : p := h q0_
theorem ts7_ {p : Prop} (h : p := by first | (go_simp; done) | (go_simp; rfl)) : p := h
theorem ts8_ {p : Prop} (h : p := by repeat (first | exact Drawn0.refl _ | apply Drawn0.step)) : p := h
theorem ts9_ {p p0_ p1_ : Prop} (q0_ : p0_) (q1_ : p1_) (h : p0_ → p1_ → p := by intro q0_ q1_; repeat (first | (with_reducible first | exact q0_ | apply below_alloc | apply pw_below_drewN | apply below_drew1 | refine below_set ?_ q1_) | exact q0_)) : p := h q0_ q1_
theorem ts10_ {p p0_ : Prop} (q0_ : p0_) (h : p0_ → p := by intro q0_; (with_reducible repeat (first | apply Kd.R_alloc | apply Kd.R_drewN | apply Kd.R_drew)); exact q0_) : p := h q0_
theorem ts11_ {p : Prop} (h : p := by first | rfl | (simp [errW_none, errW_some] <;> rfl) | (simp only [← hji3]; first | rfl | (simp [errW_none, errW_some] <;> rfl)) | (simp [*, errW_none, errW_some] <;> rfl)) : p := h
theorem ts12_ {p p0_ : Prop} (q0_ : p0_) (h : p0_ → p := by intro q0_; repeat (first | exact (Kd.R_reads' q0_).2.2 | (with_reducible refine Kd.C_alloc ?_ _) | (with_reducible refine Kd.C_drewN ?_ _) | (with_reducible refine Kd.C_drew ?_))) : p := h q0_
theorem ts13_ {p : Prop} (h : p := by first | (with_reducible assumption) | assumption) : p := h
theorem ts14_ {p p0_ p1_ p2_ : Prop} (q0_ : p0_) (q1_ : p1_) (q2_ : p2_) (h : p0_ → p1_ → p2_ → p := by intro q0_ q1_ q2_; repeat (first | (with_reducible first | exact q0_ | apply below_alloc | apply pw_below_drewN | apply below_drew1 | refine below_set ?_ q1_ | refine below_set ?_ q2_) | exact q0_)) : p := h q0_ q1_ q2_
theorem ts15_ {p : Prop} (h : p := by first | rfl | (simp [errW_none, errW_some] <;> rfl) | (simp [*, errW_none, errW_some] <;> rfl)) : p := h
theorem ts16_ {p p0_ : Prop} (q0_ : p0_) (h : p0_ → p := by intro q0_; repeat (first | exact (Kd.N_reads' q0_).2.2 | (with_reducible refine Kd.C_alloc ?_ _) | (with_reducible refine Kd.C_drewN ?_ _) | (with_reducible refine Kd.C_drew ?_))) : p := h q0_
theorem ts17_ {p p0_ : Prop} (q0_ : p0_) (h : p0_ → p := by intro q0_; (with_reducible repeat (first | apply Kd.R_alloc | apply Kd.R_drewN | apply Kd.R_drew)); exact Kd.R_mono q0_ (fun _ hk => hk.2)) : p := h q0_
theorem ts18_ {p : Prop} (h : p := by first | rfl | (simp; done) | (simp [*]; done)) : p := h
theorem ts19_ {p p0_ : Prop} (q0_ : p0_) (h : p0_ → p := by intro q0_; repeat (first | (with_reducible first | exact q0_ | apply below_alloc | apply pw_below_drewN | apply below_drew1) | exact q0_)) : p := h q0_
theorem ts20_ {p p0_ : Prop} (q0_ : p0_) (h : p0_ → p := by intro q0_; (with_reducible repeat (first | apply Kd.S_alloc | apply Kd.S_drewN | apply Kd.S_drew)); exact q0_) : p := h q0_
theorem ts21_ {p p0_ : Prop} (q0_ : p0_) (h : p0_ → p := by intro q0_; (with_reducible repeat (first | apply Kd.S_alloc | apply Kd.S_drewN | apply Kd.S_drew)); exact Kd.S_mono q0_ (fun _ hk => ⟨trivial, hk⟩)) : p := h q0_
theorem ts22_ {p p0_ p1_ : Prop} (q0_ : p0_) (q1_ : p1_) (h : p0_ → p1_ → p := by intro q0_ q1_; rw [hg]; exact (below_size (ts9_ q0_ q1_))) : p := h q0_ q1_
theorem ts23_ {p p0_ : Prop} (q0_ : p0_) (h : p0_ → p := by intro q0_; rw [hg]; exact (below_size (ts19_ q0_))) : p := h q0_
theorem ts24_ {p p0_ : Prop} (q0_ : p0_) (h : p0_ → p := by intro q0_; rw [hg]; exact Nat.ne_of_gt (blk_lt (g := gb111) (o := .cells #[.slice A0_0 l0_0.length c0_0, .int .i64 a0_1, .int .i64 a0_2] 43 (0, 0)) (ts6_ q0_))) : p := h q0_
theorem ts25_ {p p0_ : Prop} (q0_ : p0_) (h : p0_ → p := by intro q0_; rw [hg]; exact Nat.ne_of_lt (blk_lt (g := gb111) (o := .cells #[.slice A0_0 l0_0.length c0_0, .int .i64 a0_1, .int .i64 a0_2] 43 (0, 0)) (ts6_ q0_))) : p := h q0_
theorem ts26_ {p p0_ p1_ p2_ p3_ : Prop} (q0_ : p0_) (q1_ : p1_) (q2_ : p2_) (q3_ : p3_) (h : p0_ → p1_ → p2_ → p3_ → p := by intro q0_ q1_ q2_ q3_; repeat (first | exact (Kd.C_below q0_ (ts14_ q1_ q2_ q3_)) | (with_reducible refine Kd.C_alloc ?_ _) | (with_reducible refine Kd.C_drewN ?_ _) | (with_reducible refine Kd.C_drew ?_))) : p := h q0_ q1_ q2_ q3_
theorem bsA_ {α β : Type} {x : Option α} {f : α → Option β} {r : β} (h : x.bind f = some r) : ∃ a, Aside0 (x = some a) ∧ f a = some r := by obtain ⟨a, h1, h2⟩ := Option.bind_eq_some_iff.mp h; exact ⟨a, ⟨h1⟩, h2⟩
end Go.Proofs.YtndennmpnomjnaaDoor.A

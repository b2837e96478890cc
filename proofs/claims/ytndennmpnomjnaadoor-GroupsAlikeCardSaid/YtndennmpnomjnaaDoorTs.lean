/- Closing tactics that the printed walks use again and again, each a default argument. -/
import Derived.Test.YtndennmpnomjnaaDoorProg
import Derived.Test.YtndennmpnomjnaaDoorWAll
import Derived.Below
import Derived.Deep.Draws
import Derived.Deep.AppendLies
import Derived.Maps.AppendAt
import Derived.OwnWalk
import Derived.Laws.BytesArg
import Derived.Laws.MakeOwn
import Derived.Laws.OwnMore
import Derived.Deep.OwnRows
import Derived.Tactics
import Derived.Lib.ConvBytes
import Derived.Laws.Slices
import Derived.WalkKit
import Derived.KernelRfl
import Derived.RowKit3
import Derived.Deep.LoopGhost
import Derived.Deep.QuietTactic
import Derived.BigQuiet
import Derived.WideLaws
import Derived.Deep.DeepCutAuto
import Derived.Deep.CutBlock
import Derived.Deep.RegionHeld3
import Derived.Laws.Rows
import Derived.Lib.AppendStr
import Derived.ArgAppend
import Derived.Laws.IdiomCopy
import Derived.OrdersHeld
import Derived.Laws.BitsLemmas
import Derived.RowKit
import Derived.WalkSpells
set_option linter.all false
namespace Go.Proofs.YtndennmpnomjnaaDoor.A
open Go.RowKit Go.Proofs.YtndennmpnomjnaaDoorW.PrintWords Go.Proofs.YtndennmpnomjnaaDoorW.PrintLast Go.Proofs.YtndennmpnomjnaaDoorW.PrintMore
set_option linter.unusedVariables false
theorem ts0_ {p : Prop} (h : p := by exact (Reps.one (show Kd.M (Kd.int .i64) _ _ _ 1 [.int .i64 1] from rfl) (Reps.none _ _))) : p := h
theorem ts1_ {p : Prop} (h : p := by first | omega | exact Nat.le_refl _) : p := h
theorem ts2_ {p : Prop} (h : p := by first | rfl | (simp [errW_none, errW_some] <;> rfl) | (simp only [← hji33]; first | rfl | (simp [errW_none, errW_some] <;> rfl)) | (simp [*, errW_none, errW_some] <;> rfl)) : p := h
theorem ts3_ {p : Prop} (h : p := by have := World.block_lt_of_cell? _ _ hw207_0; first | rwa [add_block] at this | exact this) : p := h
theorem ts4_ {p : Prop} (h : p := by have := World.block_lt_of_cell? _ _ hw208_2; first | rwa [add_block] at this | exact this) : p := h
theorem ts5_ {p : Prop} (h : p := by simp only [putAll, Act.put, List.setIfInBounds_toArray, List.set_cons_zero, List.set_cons_succ]) : p := h
theorem ts6_ {p p0_ p1_ p2_ : Prop} (q0_ : p0_) (q1_ : p1_) (q2_ : p2_) (h : p0_ → p1_ → p2_ → p := by intro q0_ q1_ q2_; (with_reducible repeat (first | apply Kd.R_alloc | apply Kd.R_drewN | apply Kd.R_drew)); exact Kd.R_mono (Kd.R_far (p := ⟨gb210, 2, none⟩) (Kd.R_far (p := ⟨gb210, 1, none⟩) (Kd.R_far (p := ⟨gb210, 0, none⟩) (Kd.R_far (p := ⟨gb209, 2, none⟩) (Kd.R_far (p := ⟨gb209, 1, none⟩) (Kd.R_far (p := ⟨gb209, 0, none⟩) (Kd.R_types (Kd.R_types q0_ q1_ (by decide)) q2_ (by decide)) (fun _ hk => hk.1.2) (.slice A207_1 ((rd_T45 l0 x5_1).f1.f0).length c207_1)) (fun _ hk => hk.1.2) (.int .i64 ((rd_T45 l0 x5_1).f1.f1))) (fun _ hk => hk.1.2) (.int .i64 ((rd_T45 l0 x5_1).f1.f2))) (fun _ hk => hk.2) (.slice A208_1 ((rd_T45 l0 x6_2).f1.f0).length c208_1)) (fun _ hk => hk.2) (.int .i64 ((rd_T45 l0 x6_2).f1.f1))) (fun _ hk => hk.2) (.int .i64 ((rd_T45 l0 x6_2).f1.f2))) (fun _ hk => trivial)) : p := h q0_ q1_ q2_
theorem ts7_ {p p0_ p1_ p2_ : Prop} (q0_ : p0_) (q1_ : p1_) (q2_ : p2_) (h : p0_ → p1_ → p2_ → p := by intro q0_ q1_ q2_; (with_reducible repeat (first | apply Kd.R_alloc | apply Kd.R_drewN | apply Kd.R_drew)); exact (Kd.R_mono (Kd.R_mono (Kd.R_far (p := ⟨gb210, 2, none⟩) (Kd.R_far (p := ⟨gb210, 1, none⟩) (Kd.R_far (p := ⟨gb210, 0, none⟩) (Kd.R_far (p := ⟨gb209, 2, none⟩) (Kd.R_far (p := ⟨gb209, 1, none⟩) (Kd.R_far (p := ⟨gb209, 0, none⟩) (Kd.R_types (Kd.R_types q0_ q1_ (by decide)) q2_ (by decide)) (fun _ hk => hk.1.2) (.slice A207_1 ((rd_T45 l0 x5_1).f1.f0).length c207_1)) (fun _ hk => hk.1.2) (.int .i64 ((rd_T45 l0 x5_1).f1.f1))) (fun _ hk => hk.1.2) (.int .i64 ((rd_T45 l0 x5_1).f1.f2))) (fun _ hk => hk.2) (.slice A208_1 ((rd_T45 l0 x6_2).f1.f0).length c208_1)) (fun _ hk => hk.2) (.int .i64 ((rd_T45 l0 x6_2).f1.f1))) (fun _ hk => hk.2) (.int .i64 ((rd_T45 l0 x6_2).f1.f2))) (fun _ h_ => h_.1)) (fun _ h_ => h_.1))) : p := h q0_ q1_ q2_
theorem ts8_ {p : Prop} (h : p := by (try simp only [List.map_toArray, List.map_cons, List.map_nil]); first | done | rfl | (simp only [List.length_drop, List.length_take]; rfl)) : p := h
theorem ts9_ {p p0_ p1_ : Prop} (q0_ : p0_) (q1_ : p1_) (h : p0_ → p1_ → p := by intro q0_ q1_; repeat (first | exact (Kd.C_below q0_ q1_) | (with_reducible refine Kd.C_alloc ?_ _) | (with_reducible refine Kd.C_drewN ?_ _) | (with_reducible refine Kd.C_drew ?_))) : p := h q0_ q1_
theorem ts10_ {p p0_ : Prop} (q0_ : p0_) (h : p0_ → p := by intro q0_; (with_reducible repeat (first | apply Kd.N_alloc | apply Kd.N_drewN | apply Kd.N_drew)); exact q0_) : p := h q0_
theorem ts11_ {p p0_ p1_ : Prop} (q0_ : p0_) (q1_ : p1_) (h : p0_ → p1_ → p := by intro q0_ q1_; (with_reducible repeat (first | refine blk_drewN ?_ _ | refine blk_drew ?_ | refine blk_alloc ?_ _)); refine blk_put (cs := #[.slice A208_1 ((rd_T45 l0 x6_2).f1.f0).length c208_1, .int .i64 ((rd_T45 l0 x6_2).f1.f1), .int .i64 0]) ?_ 2 _ rfl; (with_reducible repeat (first | refine blk_drewN ?_ _ | refine blk_drew ?_ | refine blk_alloc ?_ _)); refine blk_put (cs := #[.slice A208_1 ((rd_T45 l0 x6_2).f1.f0).length c208_1, .int .i64 0, .int .i64 0]) ?_ 1 _ rfl; (with_reducible repeat (first | refine blk_drewN ?_ _ | refine blk_drew ?_ | refine blk_alloc ?_ _)); refine blk_put (cs := #[.slice none 0 0, .int .i64 0, .int .i64 0]) ?_ 0 _ rfl; (with_reducible repeat (first | refine blk_drewN ?_ _ | refine blk_drew ?_ | refine blk_alloc ?_ _)); refine blk_far ?_ q0_ _; (with_reducible repeat (first | refine blk_drewN ?_ _ | refine blk_drew ?_ | refine blk_alloc ?_ _)); refine blk_far ?_ q0_ _; (with_reducible repeat (first | refine blk_drewN ?_ _ | refine blk_drew ?_ | refine blk_alloc ?_ _)); refine blk_far ?_ q0_ _; (with_reducible repeat (first | refine blk_drewN ?_ _ | refine blk_drew ?_ | refine blk_alloc ?_ _)); exact q1_) : p := h q0_ q1_
theorem ts12_ {p p0_ : Prop} (q0_ : p0_) (h : p0_ → p := by intro q0_; repeat (first | exact q0_ | apply SortK.Grew.alloc | apply SortK.Grew.drewN | apply SortK.Grew.drew)) : p := h q0_
theorem ts13_ {p p0_ : Prop} (q0_ : p0_) (h : p0_ → p := by intro q0_; (with_reducible repeat (first | apply Kd.N_alloc | apply Kd.N_drewN | apply Kd.N_drew)); exact (Kd.N_mono (Kd.N_far (p := ⟨gb222, 3, none⟩) (Kd.N_far (p := ⟨gb222, 2, none⟩) (Kd.N_far (p := ⟨gb222, 1, none⟩) (Kd.N_far (p := ⟨gb222, 0, none⟩) (Kd.N_mono q0_ (fun k_ hk => (⟨hk, hk.2⟩ : _ ∧ k_ ≠ gb222))) (fun _ hk => hk.2) (.string ((rd_T45 x9_2 (ji33)).f0))) (fun _ hk => hk.2) (.slice A221_1 ((rd_T45 x9_2 (ji33)).f1.f0).length c221_1)) (fun _ hk => hk.2) (.int .i64 ((rd_T45 x9_2 (ji33)).f1.f1))) (fun _ hk => hk.2) (.int .i64 ((rd_T45 x9_2 (ji33)).f1.f2))) (fun _ h_ => h_.1))) : p := h q0_
theorem ts14_ {p : Prop} (h : p := by have := World.block_lt_of_cell? _ _ hw208_1; first | rwa [add_block] at this | exact this) : p := h
theorem ts15_ {p : Prop} (h : p := by have := World.block_lt_of_cell? _ _ hw207_1; first | rwa [add_block] at this | exact this) : p := h
theorem ts16_ {p p0_ : Prop} (q0_ : p0_) (h : p0_ → p := by intro q0_; (with_reducible repeat (first | apply Kd.V_alloc | apply Kd.V_drewN | apply Kd.V_drew)); exact (Kd.V_mono (Kd.V_far (p := ⟨gb222, 3, none⟩) (Kd.V_far (p := ⟨gb222, 2, none⟩) (Kd.V_far (p := ⟨gb222, 1, none⟩) (Kd.V_far (p := ⟨gb222, 0, none⟩) (Kd.V_mono q0_ (fun k_ hk => (⟨hk, hk.2⟩ : _ ∧ k_ ≠ gb222))) (fun _ hk => hk.2) (.string ((rd_T45 x9_2 (ji33)).f0))) (fun _ hk => hk.2) (.slice A221_1 ((rd_T45 x9_2 (ji33)).f1.f0).length c221_1)) (fun _ hk => hk.2) (.int .i64 ((rd_T45 x9_2 (ji33)).f1.f1))) (fun _ hk => hk.2) (.int .i64 ((rd_T45 x9_2 (ji33)).f1.f2))) (fun _ h_ => h_.1))) : p := h q0_
theorem ts17_ {p p0_ : Prop} (q0_ : p0_) (h : p0_ → p := by intro q0_; (with_reducible repeat (first | refine blk_drewN ?_ _ | refine blk_drew ?_ | refine blk_alloc ?_ _)); exact q0_) : p := h q0_
theorem ts18_ {p : Prop} (h : p := by first | (go_simp; done) | (go_simp; rfl)) : p := h
theorem ts19_ {p : Prop} (h : p := by repeat (first | exact Drawn0.refl _ | apply Drawn0.step)) : p := h
theorem ts20_ {p p0_ p1_ : Prop} (q0_ : p0_) (q1_ : p1_) (h : p0_ → p1_ → p := by intro q0_ q1_; repeat (first | (with_reducible first | exact q0_ | apply below_alloc | apply pw_below_drewN | apply below_drew1 | refine below_set ?_ q1_) | exact q0_)) : p := h q0_ q1_
theorem ts21_ {p : Prop} (h : p := by have := World.block_lt_of_cell? _ _ hw208_0; first | rwa [add_block] at this | exact this) : p := h
theorem ts22_ {p p0_ : Prop} (q0_ : p0_) (h : p0_ → p := by intro q0_; (with_reducible repeat (first | apply Kd.R_alloc | apply Kd.R_drewN | apply Kd.R_drew)); exact q0_) : p := h q0_
theorem ts23_ {p : Prop} (h : p := by first | rfl | (simp [errW_none, errW_some] <;> rfl) | (simp only [← hji3]; first | rfl | (simp [errW_none, errW_some] <;> rfl)) | (simp [*, errW_none, errW_some] <;> rfl)) : p := h
theorem ts24_ {p p0_ : Prop} (q0_ : p0_) (h : p0_ → p := by intro q0_; repeat (first | (with_reducible exact q0_) | (with_reducible refine Kd.C_alloc ?_ _) | (with_reducible refine Kd.C_drewN ?_ _) | (with_reducible refine Kd.C_drew ?_) | exact q0_)) : p := h q0_
theorem ts25_ {p p0_ : Prop} (q0_ : p0_) (h : p0_ → p := by intro q0_; repeat (first | exact (Kd.R_reads' q0_).2.2 | (with_reducible refine Kd.C_alloc ?_ _) | (with_reducible refine Kd.C_drewN ?_ _) | (with_reducible refine Kd.C_drew ?_))) : p := h q0_
theorem ts26_ {p : Prop} (h : p := by first | (with_reducible assumption) | assumption) : p := h
theorem ts27_ {p p0_ p1_ p2_ : Prop} (q0_ : p0_) (q1_ : p1_) (q2_ : p2_) (h : p0_ → p1_ → p2_ → p := by intro q0_ q1_ q2_; repeat (first | (with_reducible first | exact q0_ | apply below_alloc | apply pw_below_drewN | apply below_drew1 | refine below_set ?_ q1_ | refine below_set ?_ q2_) | exact q0_)) : p := h q0_ q1_ q2_
theorem ts28_ {p : Prop} (h : p := by have := World.block_lt_of_cell? _ _ hw207_2; first | rwa [add_block] at this | exact this) : p := h
theorem ts29_ {p : Prop} (h : p := by (try simp only [List.map_toArray, List.map_cons, List.map_nil]); first | done | (simp only [hji33]; rfl) | rfl | (simp only [List.length_drop, List.length_take]; rfl)) : p := h
theorem ts30_ {p : Prop} (h : p := by first | rfl | (simp [errW_none, errW_some] <;> rfl) | (simp [*, errW_none, errW_some] <;> rfl)) : p := h
theorem ts31_ {p : Prop} (h : p := by have := World.block_lt_of_cell? _ _ hw207_3; first | rwa [add_block] at this | exact this) : p := h
theorem ts32_ {p p0_ : Prop} (q0_ : p0_) (h : p0_ → p := by intro q0_; repeat (first | exact (Kd.N_reads' q0_).2.2 | (with_reducible refine Kd.C_alloc ?_ _) | (with_reducible refine Kd.C_drewN ?_ _) | (with_reducible refine Kd.C_drew ?_))) : p := h q0_
theorem ts33_ {p p0_ : Prop} (q0_ : p0_) (h : p0_ → p := by intro q0_; (with_reducible repeat (first | apply Kd.V_alloc | apply Kd.V_drewN | apply Kd.V_drew)); exact q0_) : p := h q0_
theorem ts34_ {p : Prop} (h : p := by first | rfl | (simp; done) | (simp [*]; done)) : p := h
theorem ts35_ {p p0_ : Prop} (q0_ : p0_) (h : p0_ → p := by intro q0_; repeat (first | (with_reducible first | exact q0_ | apply below_alloc | apply pw_below_drewN | apply below_drew1) | exact q0_)) : p := h q0_
theorem ts36_ {p : Prop} (h : p := by first | exact Kd.R_nil _ _ _ _ _ | exact Kd.N_nil _ _ _ _ _ | exact Kd.V_nil _ _ _ _ _ | exact Kd.Q_nil _ _ _ _ _ | exact Kd.S_nil _ _ _ _ _) : p := h
theorem ts37_ {p p0_ p1_ : Prop} (q0_ : p0_) (q1_ : p1_) (h : p0_ → p1_ → p := by intro q0_ q1_; (with_reducible repeat (first | refine blk_drewN ?_ _ | refine blk_drew ?_ | refine blk_alloc ?_ _)); refine blk_far ?_ q0_ _; (with_reducible repeat (first | refine blk_drewN ?_ _ | refine blk_drew ?_ | refine blk_alloc ?_ _)); refine blk_far ?_ q0_ _; (with_reducible repeat (first | refine blk_drewN ?_ _ | refine blk_drew ?_ | refine blk_alloc ?_ _)); refine blk_far ?_ q0_ _; (with_reducible repeat (first | refine blk_drewN ?_ _ | refine blk_drew ?_ | refine blk_alloc ?_ _)); refine blk_put (cs := #[.slice A207_1 ((rd_T45 l0 x5_1).f1.f0).length c207_1, .int .i64 ((rd_T45 l0 x5_1).f1.f1), .int .i64 0]) ?_ 2 _ rfl; (with_reducible repeat (first | refine blk_drewN ?_ _ | refine blk_drew ?_ | refine blk_alloc ?_ _)); refine blk_put (cs := #[.slice A207_1 ((rd_T45 l0 x5_1).f1.f0).length c207_1, .int .i64 0, .int .i64 0]) ?_ 1 _ rfl; (with_reducible repeat (first | refine blk_drewN ?_ _ | refine blk_drew ?_ | refine blk_alloc ?_ _)); refine blk_put (cs := #[.slice none 0 0, .int .i64 0, .int .i64 0]) ?_ 0 _ rfl; (with_reducible repeat (first | refine blk_drewN ?_ _ | refine blk_drew ?_ | refine blk_alloc ?_ _)); exact q1_) : p := h q0_ q1_
theorem ts38_ {p : Prop} (h : p := by have := World.block_lt_of_cell? _ _ hw208_3; first | rwa [add_block] at this | exact this) : p := h
theorem ts39_ {p p0_ : Prop} (q0_ : p0_) (h : p0_ → p := by intro q0_; first | exact Nat.ne_of_lt (Nat.lt_of_lt_of_le ts28_ q0_) | (rw [add_block]; exact Nat.ne_of_lt (Nat.lt_of_lt_of_le ts28_ q0_)) | (show (Addr.add _ _).block ≠ _; rw [add_block]; exact Nat.ne_of_lt (Nat.lt_of_lt_of_le ts28_ q0_)) | (dsimp only; exact Nat.ne_of_lt (Nat.lt_of_lt_of_le ts28_ q0_))) : p := h q0_
theorem ts40_ {p p0_ : Prop} (q0_ : p0_) (h : p0_ → p := by intro q0_; rw [hg]; exact Nat.ne_of_gt (blk_lt (g := gb209) (o := .cells #[.slice none 0 0, .int .i64 0, .int .i64 0] 43 (0, 0)) (ts17_ q0_))) : p := h q0_
theorem ts41_ {p p0_ : Prop} (q0_ : p0_) (h : p0_ → p := by intro q0_; rw [hg]; exact Nat.ne_of_gt (blk_lt (g := gb194) (o := .cells #[.slice A0_0 l0_0.length c0_0, .int .i64 a0_1, .int .i64 a0_2] 43 (0, 0)) (ts17_ q0_))) : p := h q0_
theorem ts42_ {p p0_ : Prop} (q0_ : p0_) (h : p0_ → p := by intro q0_; rw [hg]; exact Nat.ne_of_lt (blk_lt (g := gb210) (o := .cells #[.slice none 0 0, .int .i64 0, .int .i64 0] 43 (0, 0)) (ts17_ q0_))) : p := h q0_
theorem ts43_ {p p0_ : Prop} (q0_ : p0_) (h : p0_ → p := by intro q0_; first | exact Nat.ne_of_lt (Nat.lt_of_lt_of_le ts21_ q0_) | (rw [add_block]; exact Nat.ne_of_lt (Nat.lt_of_lt_of_le ts21_ q0_)) | (show (Addr.add _ _).block ≠ _; rw [add_block]; exact Nat.ne_of_lt (Nat.lt_of_lt_of_le ts21_ q0_)) | (dsimp only; exact Nat.ne_of_lt (Nat.lt_of_lt_of_le ts21_ q0_))) : p := h q0_
theorem ts44_ {p p0_ p1_ p2_ p3_ : Prop} (q0_ : p0_) (q1_ : p1_) (q2_ : p2_) (q3_ : p3_) (h : p0_ → p1_ → p2_ → p3_ → p := by intro q0_ q1_ q2_ q3_; repeat (first | exact (Kd.C_below q0_ (ts27_ q1_ q2_ q3_)) | (with_reducible refine Kd.C_alloc ?_ _) | (with_reducible refine Kd.C_drewN ?_ _) | (with_reducible refine Kd.C_drew ?_))) : p := h q0_ q1_ q2_ q3_
theorem ts45_ {p p0_ p1_ : Prop} (q0_ : p0_) (q1_ : p1_) (h : p0_ → p1_ → p := by intro q0_ q1_; rw [hg]; exact (below_size (ts20_ q0_ q1_))) : p := h q0_ q1_
theorem ts46_ {p p0_ : Prop} (q0_ : p0_) (h : p0_ → p := by intro q0_; rw [hg]; exact Nat.ne_of_gt (blk_lt (g := gb111) (o := .cells #[.slice A0_0 l0_0.length c0_0, .int .i64 a0_1, .int .i64 a0_2] 43 (0, 0)) (ts17_ q0_))) : p := h q0_
theorem ts47_ {p p0_ : Prop} (q0_ : p0_) (h : p0_ → p := by intro q0_; first | exact Nat.ne_of_lt (Nat.lt_of_lt_of_le ts4_ q0_) | (rw [add_block]; exact Nat.ne_of_lt (Nat.lt_of_lt_of_le ts4_ q0_)) | (show (Addr.add _ _).block ≠ _; rw [add_block]; exact Nat.ne_of_lt (Nat.lt_of_lt_of_le ts4_ q0_)) | (dsimp only; exact Nat.ne_of_lt (Nat.lt_of_lt_of_le ts4_ q0_))) : p := h q0_
theorem ts48_ {p p0_ : Prop} (q0_ : p0_) (h : p0_ → p := by intro q0_; rw [hg]; exact Nat.ne_of_gt (blk_lt (g := gb203) (o := .cells #[.slice A0_0 l0_0.length c0_0, .int .i64 a0_1, .int .i64 a0_2] 43 (0, 0)) (ts17_ q0_))) : p := h q0_
theorem ts49_ {p p0_ : Prop} (q0_ : p0_) (h : p0_ → p := by intro q0_; rw [hg]; exact Nat.ne_of_gt (blk_lt (g := gb210) (o := .cells #[.slice none 0 0, .int .i64 0, .int .i64 0] 43 (0, 0)) (ts17_ q0_))) : p := h q0_
theorem ts50_ {p p0_ : Prop} (q0_ : p0_) (h : p0_ → p := by intro q0_; first | exact Nat.ne_of_lt (Nat.lt_of_lt_of_le ts14_ q0_) | (rw [add_block]; exact Nat.ne_of_lt (Nat.lt_of_lt_of_le ts14_ q0_)) | (show (Addr.add _ _).block ≠ _; rw [add_block]; exact Nat.ne_of_lt (Nat.lt_of_lt_of_le ts14_ q0_)) | (dsimp only; exact Nat.ne_of_lt (Nat.lt_of_lt_of_le ts14_ q0_))) : p := h q0_
theorem ts51_ {p p0_ : Prop} (q0_ : p0_) (h : p0_ → p := by intro q0_; rw [hg]; exact (below_size (ts35_ q0_))) : p := h q0_
theorem ts52_ {p p0_ : Prop} (q0_ : p0_) (h : p0_ → p := by intro q0_; rw [hg]; exact Nat.ne_of_gt (blk_lt (g := gb197) (o := .cells #[.slice A0_0 l0_0.length c0_0, .int .i64 a0_1, .int .i64 a0_2] 43 (0, 0)) (ts17_ q0_))) : p := h q0_
theorem ts53_ {p p0_ : Prop} (q0_ : p0_) (h : p0_ → p := by intro q0_; first | exact Nat.ne_of_lt (Nat.lt_of_lt_of_le ts38_ q0_) | (rw [add_block]; exact Nat.ne_of_lt (Nat.lt_of_lt_of_le ts38_ q0_)) | (show (Addr.add _ _).block ≠ _; rw [add_block]; exact Nat.ne_of_lt (Nat.lt_of_lt_of_le ts38_ q0_)) | (dsimp only; exact Nat.ne_of_lt (Nat.lt_of_lt_of_le ts38_ q0_))) : p := h q0_
theorem ts54_ {p p0_ : Prop} (q0_ : p0_) (h : p0_ → p := by intro q0_; first | exact Nat.ne_of_lt (Nat.lt_of_lt_of_le ts15_ q0_) | (rw [add_block]; exact Nat.ne_of_lt (Nat.lt_of_lt_of_le ts15_ q0_)) | (show (Addr.add _ _).block ≠ _; rw [add_block]; exact Nat.ne_of_lt (Nat.lt_of_lt_of_le ts15_ q0_)) | (dsimp only; exact Nat.ne_of_lt (Nat.lt_of_lt_of_le ts15_ q0_))) : p := h q0_
theorem ts55_ {p p0_ : Prop} (q0_ : p0_) (h : p0_ → p := by intro q0_; rw [hg]; exact Nat.ne_of_lt (blk_lt (g := gb203) (o := .cells #[.slice A0_0 l0_0.length c0_0, .int .i64 a0_1, .int .i64 a0_2] 43 (0, 0)) (ts17_ q0_))) : p := h q0_
theorem ts56_ {p p0_ : Prop} (q0_ : p0_) (h : p0_ → p := by intro q0_; first | exact Nat.ne_of_lt (Nat.lt_of_lt_of_le ts3_ q0_) | (rw [add_block]; exact Nat.ne_of_lt (Nat.lt_of_lt_of_le ts3_ q0_)) | (show (Addr.add _ _).block ≠ _; rw [add_block]; exact Nat.ne_of_lt (Nat.lt_of_lt_of_le ts3_ q0_)) | (dsimp only; exact Nat.ne_of_lt (Nat.lt_of_lt_of_le ts3_ q0_))) : p := h q0_
theorem ts57_ {p p0_ : Prop} (q0_ : p0_) (h : p0_ → p := by intro q0_; rw [hg]; exact Nat.ne_of_lt (blk_lt (g := gb111) (o := .cells #[.slice A0_0 l0_0.length c0_0, .int .i64 a0_1, .int .i64 a0_2] 43 (0, 0)) (ts17_ q0_))) : p := h q0_
theorem ts58_ {p p0_ : Prop} (q0_ : p0_) (h : p0_ → p := by intro q0_; rw [hg]; exact Nat.ne_of_lt (blk_lt (g := gb194) (o := .cells #[.slice A0_0 l0_0.length c0_0, .int .i64 a0_1, .int .i64 a0_2] 43 (0, 0)) (ts17_ q0_))) : p := h q0_
theorem ts59_ {p p0_ : Prop} (q0_ : p0_) (h : p0_ → p := by intro q0_; rw [hg]; exact Nat.ne_of_lt (blk_lt (g := gb209) (o := .cells #[.slice none 0 0, .int .i64 0, .int .i64 0] 43 (0, 0)) (ts17_ q0_))) : p := h q0_
theorem ts60_ {p p0_ : Prop} (q0_ : p0_) (h : p0_ → p := by intro q0_; first | exact Nat.ne_of_lt (Nat.lt_of_lt_of_le ts31_ q0_) | (rw [add_block]; exact Nat.ne_of_lt (Nat.lt_of_lt_of_le ts31_ q0_)) | (show (Addr.add _ _).block ≠ _; rw [add_block]; exact Nat.ne_of_lt (Nat.lt_of_lt_of_le ts31_ q0_)) | (dsimp only; exact Nat.ne_of_lt (Nat.lt_of_lt_of_le ts31_ q0_))) : p := h q0_
theorem ts61_ {p p0_ : Prop} (q0_ : p0_) (h : p0_ → p := by intro q0_; rw [hg]; exact Nat.ne_of_lt (blk_lt (g := gb197) (o := .cells #[.slice A0_0 l0_0.length c0_0, .int .i64 a0_1, .int .i64 a0_2] 43 (0, 0)) (ts17_ q0_))) : p := h q0_
theorem bsA_ {α β : Type} {x : Option α} {f : α → Option β} {r : β} (h : x.bind f = some r) : ∃ a, Aside0 (x = some a) ∧ f a = some r := by obtain ⟨a, h1, h2⟩ := Option.bind_eq_some_iff.mp h; exact ⟨a, ⟨h1⟩, h2⟩
end Go.Proofs.YtndennmpnomjnaaDoor.A

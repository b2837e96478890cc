/- Written by wip/tools/xprint.py, a program of this session that drives the kit's printer. Not trusted: Lean checks it. -/
import Derived.Test.YtlaijeeeblcinaaDoorBx2
import Derived.Test.YtlaijeeeblcinaaDoorBx3
import Derived.Test.YtlaijeeeblcinaaDoorAx11
import Derived.Test.YtlaijeeeblcinaaDoorAx12
import Derived.Test.YtlaijeeeblcinaaDoorEv
import Derived.Test.YtlaijeeeblcinaaDoorRp3
import Derived.Test.YtlaijeeeblcinaaDoorLe
set_option maxHeartbeats 8000000
set_option maxRecDepth 100000
namespace Go.Proofs.YtlaijeeeblcinaaDoor.A
open Go.RowKit Go.Proofs.YtlaijeeeblcinaaDoorW.PrintWords Go.Proofs.YtlaijeeeblcinaaDoorW.PrintLast Go.Proofs.YtlaijeeeblcinaaDoorW.PrintMore
attribute [local go_sem] max2_int min2_int max_two min_two max_three min_three max_four min_four   -- for this text's walks alone
set_option linter.unusedVariables false
set_option linter.unusedSimpArgs false
/-! ### cupellaw20_TargetReads: function 5 -/
def cupellaw20_TargetReads.j0 : Nat → ByteArray → Bool → Option (Bool)
 | 0, _, _ => none
 | k + 1, x0, x21 => if x21 = true then ((cupellaw20_awake.f k).bind fun t203 => (some t203)) else ((et_Parse.f k x0).bind fun bt204 => ((cupelref20_Parse.f k x0).bind fun bt214 => ((cupelref20_Same.f k bt204.1 bt204.2.1 bt204.2.2.1 bt214.1 bt214.2.1 bt214.2.2.1).bind fun t224 => (if t224 = true then (if bt204.2.2.2.1 = bt214.2.2.2.1 then (if bt204.2.2.2.2 = bt214.2.2.2.2 then ((cupellaw20_awake.f k).bind fun t225 => (some t225)) else (none)) else (none)) else (none)))))
def cupellaw20_TargetReads.f (k : Nat) (a0 : ByteArray) : Option (Bool) := if (a0.size : Int) > 5000 then (if (a0.size : Int) ≤ 600000 then (cupellaw20_TargetReads.j0 k a0 true) else (cupellaw20_TargetReads.j0 k a0 (decide ((a0.size : Int) > 600100)))) else (cupellaw20_TargetReads.j0 k a0 (decide ((a0.size : Int) > 600100)))
theorem cupellaw20_TargetReads.mono_l : ∀ k, (∀ y0 y1, LeO (cupellaw20_TargetReads.j0 k y0 y1) (cupellaw20_TargetReads.j0 (k + 1) y0 y1))
 | 0 => fun _ _ r h => by simp [cupellaw20_TargetReads.j0] at h
 | k + 1 => by
  have ih0 := cupellaw20_TargetReads.mono_l k
  ·intro y0 y1
   unfold cupellaw20_TargetReads.j0
   repeat' first
   | (with_reducible exact ih0 _ _)
   | (with_reducible exact cupellaw20_awake.mono _)
   | (with_reducible exact cupelref20_Parse.mono _ _)
   | (with_reducible exact cupelref20_Same.mono _ _ _ _ _ _ _)
   | (with_reducible exact et_Parse.mono _ _)
   | (with_reducible exact LeO.refl _)
   | (with_reducible exact LeO.none _)
   | (with_reducible refine LeO.ite ?_ ?_)
   | (with_reducible refine LeO.bind ?_ (fun _ => ?_))
   | exact LeO.none _
   | refine LeO.ite ?_ ?_
   | refine LeO.bind ?_ (fun _ => ?_)
theorem cupellaw20_TargetReads.calls (k : Nat) (a0 : ByteArray) (r : Bool) (w : World) (h : cupellaw20_TargetReads.f k a0 = some r) (hE_ : Env w := by exact Env.below HEnv_.out (by repeat (first | (with_reducible first | exact HB.out | apply below_alloc | apply pw_below_drewN | apply below_drew1 | refine below_set ?_ (Aside0.out (by assumption))) | exact HB.out)) HEnv_.out.big) :
  Calls Tryd.prog 5 #[.string a0] w fun e w' => e = .returned (.bool r) ∧ Below w.heap.size w w' := by
 have HEnv_ := Aside0.mk hE_
 clear hE_
 have hu35 := Tryd.underlying35
 have HB := Aside0.mk (Below.refl w.heap.size w)
 have H : (if (a0.size : Int) > 5000 then (if (a0.size : Int) ≤ 600000 then (cupellaw20_TargetReads.j0 k a0 true) else (cupellaw20_TargetReads.j0 k a0 (decide ((a0.size : Int) > 600100)))) else (cupellaw20_TargetReads.j0 k a0 (decide ((a0.size : Int) > 600100)))) = some r := h
 clear h
 have HC2 := Aside0.mk H
 clear H
 go_enter Tryd.func5, Tryd.ntmps5
 go_upto_region 1 with (fail)
 go_cut [21] (fun v21 wc => ∃ (kq : Nat) (x21_1 : Bool), v21 = .bool x21_1 ∧ Aside0 (cupellaw20_TargetReads.j0 kq a0 x21_1 = some r) ∧ Aside0 (kq ≤ k) ∧ Aside0 (Below w.heap.size w wc))
 case first =>
  have H := HC2.out
  clear HC2
  by_cases c3 : (a0.size : Int) > 5000
  ·rw [if_pos c3] at H
   have c3b0 : decide (5000 < (a0.size : Int)) = true := decide_eq_true c3
   have c3b1 : decide (5000 < a0.size) = true := decide_eq_true (by omega)
   clear c3
   (first | rw [c3b0] | (simp only [i64_w, i32_w]; rw [c3b0]) | skip)
   by_cases c4 : (a0.size : Int) ≤ 600000
   ·rw [if_pos c4] at H
    have c4b0 : decide ((a0.size : Int) ≤ 600000) = true := decide_eq_true c4
    have c4b1 : decide (a0.size ≤ 600000) = true := decide_eq_true (by omega)
    clear c4
    have H' := Aside0.mk H
    clear H
    go_wp2
    go_meet
    case rel => exact ⟨_, (true), ts51_, H', ⟨ts4_⟩, ⟨ts54_ HB.out⟩⟩
   rw [if_neg c4] at H
   have c4b0 : decide ((a0.size : Int) ≤ 600000) = false := decide_eq_false c4
   have c4b1 : decide (a0.size ≤ 600000) = false := decide_eq_false (by omega)
   clear c4
   have H' := Aside0.mk H
   clear H
   go_wp2
   go_meet
   case rel => exact ⟨_, (decide ((a0.size : Int) > 600100)), ts51_, H', ⟨ts4_⟩, ⟨ts54_ HB.out⟩⟩
  rw [if_neg c3] at H
  have c3b0 : decide (5000 < (a0.size : Int)) = false := decide_eq_false c3
  have c3b1 : decide (5000 < a0.size) = false := decide_eq_false (by omega)
  clear c3
  (first | rw [c3b0] | (simp only [i64_w, i32_w]; rw [c3b0]) | skip)
  have H' := Aside0.mk H
  clear H
  go_wp2
  go_meet
  case rel => exact ⟨_, (decide ((a0.size : Int) > 600100)), ts51_, H', ⟨ts4_⟩, ⟨ts54_ HB.out⟩⟩
 case rest =>
  clear HC2
  obtain ⟨kq, x21_1, rfl, HA, HJ1, HB⟩ := hcut
  cases kq with
  | zero => exact absurd HA.out (by simp [cupellaw20_TargetReads.j0])
  | succ kj1 =>
   have H := HA.out
   clear HA
   simp only [cupellaw20_TargetReads.j0] at H
   by_cases c5 : x21_1 = true
   ·subst c5
    rw [if_pos rfl] at H
    obtain ⟨t203, A6, H⟩ := bsA_ H
    try dsimp only at H
    obtain rfl := Option.some.inj H
    go_wp2_with (first | ((with_reducible refine gate_callee (f := 9) rfl ?_); refine goesL_ (some 22) rfl rfl Tryd.func9 (by kernel_rfl) rfl #[] rfl ts17_ ?_; (with_reducible refine (cupellaw20_awake.calls kj1  t203 _ A6.out).mono ?_); rintro e w7 ⟨rfl, hb⟩; refine ⟨_, rfl, ?_⟩; replace HB := Aside0.mk (below_step (ts54_ HB.out) hb); clear hb))
    go_ret
    exact ⟨ts42_, ts54_ HB.out⟩
   replace c5 := Bool.eq_false_iff.mpr c5
   subst c5
   rw [if_neg Bool.false_ne_true] at H
   obtain ⟨⟨t204, t207, t210, t211, t212⟩, A8, H⟩ := bsA_ H
   try dsimp only at H
   obtain ⟨⟨t214, t217, t220, t221, t222⟩, A9, H⟩ := bsA_ H
   try dsimp only at H
   obtain ⟨t224, A10, H⟩ := bsA_ H
   try dsimp only at H
   by_cases c11 : t224 = true
   ·subst c11
    rw [if_pos rfl] at H
    by_cases c12 : t211 = t221
    ·rw [if_pos c12] at H
     have c12b0 : (t211 == t221) = true := beq_iff_eq.mpr c12
     have c12b1 : (t211 != t221) = false := bne_eq_false_iff_eq.mpr c12
     clear c12
     by_cases c13 : t212 = t222
     ·rw [if_pos c13] at H
      have c13b0 : (t212 == t222) = true := beq_iff_eq.mpr c13
      have c13b1 : (t212 != t222) = false := bne_eq_false_iff_eq.mpr c13
      clear c13
      obtain ⟨t225, A14, H⟩ := bsA_ H
      try dsimp only at H
      obtain rfl := Option.some.inj H
      go_wp2_with (first | ((with_reducible refine gate_callee (f := 19) rfl ?_); refine goesL_ (some 25) rfl rfl Tryd.func19 (by kernel_rfl) rfl #[.string a0] rfl ts17_ ?_; (with_reducible refine (et_Parse.calls kj1 a0 t204 t207 t210 t211 t212 _ A8.out).mono ?_); rintro e w15 ⟨v205, v208, rfl, ho0, ho1, hb⟩; refine ⟨_, rfl, ?_⟩; have HO206 := Aside0.mk (Kd.R_lower ho0 (below_size (ts54_ HB.out))); have HO209 := Aside0.mk (Kd.R_lower ho1 (below_size (ts54_ HB.out))); replace HB := Aside0.mk (below_step (ts54_ HB.out) hb); clear hb; (try clear ho0); (try clear ho1)) | ((with_reducible refine gate_dst (N := 3) rfl ?_); (try (refine gate_guard (by rfl) ?_; dsimp only)); refine box_event ?hg (N := 3) ?hd (cs := #[.slice none 0 0, .slice none 0 0, .int .i64 0]) (t := 35) ?hr ?_; (case hd => rfl); (case hg => rfl); (case hr => exact ts26_); intro gb213 hg w16 hbox hb; replace HO206 := Aside0.mk (Kd.R_below (ts30_ HO206.out) hb); replace HO209 := Aside0.mk (Kd.R_below (ts30_ HO209.out) hb); have BK213 := Aside0.mk (hbox); have GW213 := Aside0.mk ((ts73_ HB.out : w.heap.size ≤ gb213)); have GE213 := Aside0.mk ((ts73_ HB.out : w.heap.size ≤ gb213)); replace HB := Aside0.mk (below_step (ts54_ HB.out) hb); clear hb hbox hg; obtain ⟨Ao17, co17, eo17⟩ := Kd.R_slice HO206.out; subst eo17; have hcz18_0 : w16.cell? ⟨gb213, 0, none⟩ = some (.slice none 0 0) := (blk_cell BK213.out 0).trans rfl; have hcz18_1 : w16.cell? ⟨gb213, 1, none⟩ = some (.slice none 0 0) := (blk_cell BK213.out 1).trans rfl; have hcz18_2 : w16.cell? ⟨gb213, 2, none⟩ = some (.int .i64 0) := (blk_cell BK213.out 2).trans rfl; have hfz18_0 := blk_frozen BK213.out 0; have hfz18_1 := blk_frozen BK213.out 1; have hfz18_2 := blk_frozen BK213.out 2; obtain ⟨Ao19, co19, eo19⟩ := Kd.R_slice HO209.out; subst eo19) | ((with_reducible refine gate_callee (f := 20) rfl ?_); refine goesL_ (some 31) rfl rfl Tryd.func20 (by kernel_rfl) rfl #[.string a0] rfl ts17_ ?_; (with_reducible refine (cupelref20_Parse.calls kj1 a0 t214 t217 t220 t221 t222 _ A9.out).mono ?_); rintro e w20 ⟨v215, v218, rfl, ho0, ho1, hb⟩; refine ⟨_, rfl, ?_⟩; have HO216 := Aside0.mk (Kd.R_lower (Kd.R_new' ho0 (Kd.R_lt (ts43_ HO206.out BK213.out))) (below_size (ts29_ HB.out GE213.out))); replace HO206 := Aside0.mk (Kd.R_elder' (ts43_ HO206.out BK213.out) (Kd.R_base ho0) hb); have HO219 := Aside0.mk (Kd.R_lower (Kd.R_new' ho1 (Kd.R_lt (ts43_ HO209.out BK213.out))) (below_size (ts29_ HB.out GE213.out))); replace HO209 := Aside0.mk (Kd.R_elder' (ts43_ HO209.out BK213.out) (Kd.R_base ho1) hb); replace BK213 := Aside0.mk (blk_below (g := gb213) (o := .cells #[.slice Ao17 t204.length co17, .slice Ao19 t207.length co19, .int .i64 t210] 35 (0, 0)) (by (with_reducible repeat (first | refine blk_drewN ?_ _ | refine blk_drew ?_ | refine blk_alloc ?_ _)); refine blk_put (cs := #[.slice Ao17 t204.length co17, .slice Ao19 t207.length co19, .int .i64 0]) ?_ 2 _ rfl; (with_reducible repeat (first | refine blk_drewN ?_ _ | refine blk_drew ?_ | refine blk_alloc ?_ _)); refine blk_put (cs := #[.slice Ao17 t204.length co17, .slice none 0 0, .int .i64 0]) ?_ 1 _ rfl; (with_reducible repeat (first | refine blk_drewN ?_ _ | refine blk_drew ?_ | refine blk_alloc ?_ _)); refine blk_put (cs := #[.slice none 0 0, .slice none 0 0, .int .i64 0]) ?_ 0 _ rfl; (with_reducible repeat (first | refine blk_drewN ?_ _ | refine blk_drew ?_ | refine blk_alloc ?_ _)); exact BK213.out) hb); replace HB := Aside0.mk (below_step (ts29_ HB.out GE213.out) hb); clear hb; (try clear ho0); (try clear ho1)) | ((with_reducible refine gate_dst (N := 6) rfl ?_); (try (refine gate_guard (by rfl) ?_; dsimp only)); refine box_event ?hg (N := 6) ?hd (cs := #[.slice none 0 0, .slice none 0 0, .int .i64 0]) (t := 35) ?hr ?_; (case hd => rfl); (case hg => rfl); (case hr => exact ts26_); intro gb223 hg w21 hbox hb; replace HO206 := Aside0.mk (Kd.R_below (ts30_ HO206.out) hb); replace HO209 := Aside0.mk (Kd.R_below (ts30_ HO209.out) hb); replace HO216 := Aside0.mk (Kd.R_below (ts30_ HO216.out) hb); replace HO219 := Aside0.mk (Kd.R_below (ts30_ HO219.out) hb); have BK223 := Aside0.mk (hbox); have GW223 := Aside0.mk ((ts78_ HB.out GE213.out : w.heap.size ≤ gb223)); have GE223 := Aside0.mk ((ts78_ HB.out GE213.out : w.heap.size ≤ gb223)); replace HB := Aside0.mk (below_step (ts29_ HB.out GE213.out) hb); have NB213_223 := Aside0.mk ((by rw [hg]; exact Nat.ne_of_lt (blk_lt (g := gb213) (o := .cells #[.slice Ao17 t204.length co17, .slice Ao19 t207.length co19, .int .i64 t210] 35 (0, 0)) (ts25_ BK213.out)) : gb213 ≠ gb223)); have NB223_213 := Aside0.mk ((by rw [hg]; exact Nat.ne_of_gt (blk_lt (g := gb213) (o := .cells #[.slice Ao17 t204.length co17, .slice Ao19 t207.length co19, .int .i64 t210] 35 (0, 0)) (ts25_ BK213.out)) : gb223 ≠ gb213)); replace BK213 := Aside0.mk (blk_below (g := gb213) (o := .cells #[.slice Ao17 t204.length co17, .slice Ao19 t207.length co19, .int .i64 t210] 35 (0, 0)) (ts25_ BK213.out) hb); clear hb hbox hg; obtain ⟨Ao22, co22, eo22⟩ := Kd.R_slice HO216.out; subst eo22; have hnb23 := NB223_213.out; have hnc23 := NB213_223.out; have hcz24_0 : w21.cell? ⟨gb223, 0, none⟩ = some (.slice none 0 0) := (blk_cell BK223.out 0).trans rfl; have hcz24_1 : w21.cell? ⟨gb223, 1, none⟩ = some (.slice none 0 0) := (blk_cell BK223.out 1).trans rfl; have hcz24_2 : w21.cell? ⟨gb223, 2, none⟩ = some (.int .i64 0) := (blk_cell BK223.out 2).trans rfl; have hfz24_0 := blk_frozen BK223.out 0; have hfz24_1 := blk_frozen BK223.out 1; have hfz24_2 := blk_frozen BK223.out 2; obtain ⟨Ao25, co25, eo25⟩ := Kd.R_slice HO219.out; subst eo25; have hcz26_0 : w21.cell? ⟨gb213, 0, none⟩ = some (.slice Ao17 t204.length co17) := (blk_cell BK213.out 0).trans rfl; have hcz26_1 : w21.cell? ⟨gb213, 1, none⟩ = some (.slice Ao19 t207.length co19) := (blk_cell BK213.out 1).trans rfl; have hcz26_2 : w21.cell? ⟨gb213, 2, none⟩ = some (.int .i64 t210) := (blk_cell BK213.out 2).trans rfl; have hfz26_0 := blk_frozen BK213.out 0; have hfz26_1 := blk_frozen BK213.out 1; have hfz26_2 := blk_frozen BK213.out 2) | ((with_reducible refine gate_callee (f := 21) rfl ?_); refine goesL_ (some 37) rfl rfl Tryd.func21 (by kernel_rfl) rfl #[.agg #[.slice Ao17 t204.length co17, .slice Ao19 t207.length co19, .int .i64 t210], .agg #[.slice Ao22 t214.length co22, .slice Ao25 t217.length co25, .int .i64 t220]] rfl ts17_ ?_; (with_reducible refine (cupelref20_Same.calls kj1 _ _ t204 _ _ t207 t210 _ _ t214 _ _ t217 t220 true _ ?side1 ?side2 ?side3 ?side4 ?side5 ?side6 ?side7 ?side8 A10.out).mono ?_); (case side1 => refine (Kd.R_reads' (e := 48) (base := w.heap.size) (ok := fun k_ => (True ∧ some k_ ≠ (.slice Ao22 t214.length co22 : Value).ownBlock)) (n := t204.length) (c := co17) ?_).2.2; exact (ts1_ HO206.out BK223.out)); (case side2 => exact ts56_ HO206.out); (case side3 => refine (Kd.R_reads' (e := 2) (base := w.heap.size) (ok := fun k_ => (True ∧ some k_ ≠ (.slice Ao25 t217.length co25 : Value).ownBlock)) (n := t207.length) (c := co19) ?_).2.2; exact (ts1_ HO209.out BK223.out)); (case side4 => exact ts56_ HO209.out); (case side5 => refine (Kd.R_reads' (e := 48) (base := w.heap.size) (ok := fun k_ => (True ∧ some k_ ≠ (.slice Ao17 t204.length co17 : Value).ownBlock)) (n := t214.length) (c := co22) ?_).2.2; exact (ts1_ HO216.out BK223.out)); (case side6 => exact ts56_ HO216.out); (case side7 => refine (Kd.R_reads' (e := 2) (base := w.heap.size) (ok := fun k_ => (True ∧ some k_ ≠ (.slice Ao19 t207.length co19 : Value).ownBlock)) (n := t217.length) (c := co25) ?_).2.2; exact (ts1_ HO219.out BK223.out)); (case side8 => exact ts56_ HO219.out); rintro e w27 ⟨rfl, hb⟩; refine ⟨_, rfl, ?_⟩; replace HO206 := Aside0.mk (Kd.R_below (ts1_ HO206.out BK223.out) hb); replace HO209 := Aside0.mk (Kd.R_below (ts1_ HO209.out BK223.out) hb); replace HO216 := Aside0.mk (Kd.R_below (ts1_ HO216.out BK223.out) hb); replace HO219 := Aside0.mk (Kd.R_below (ts1_ HO219.out BK223.out) hb); replace BK213 := Aside0.mk (blk_below (g := gb213) (o := .cells #[.slice Ao17 t204.length co17, .slice Ao19 t207.length co19, .int .i64 t210] 35 (0, 0)) (ts13_ NB213_223.out BK213.out) hb); replace BK223 := Aside0.mk (blk_below (g := gb223) (o := .cells #[.slice Ao22 t214.length co22, .slice Ao25 t217.length co25, .int .i64 t220] 35 (0, 0)) (by (with_reducible repeat (first | refine blk_drewN ?_ _ | refine blk_drew ?_ | refine blk_alloc ?_ _)); refine blk_put (cs := #[.slice Ao22 t214.length co22, .slice Ao25 t217.length co25, .int .i64 0]) ?_ 2 _ rfl; (with_reducible repeat (first | refine blk_drewN ?_ _ | refine blk_drew ?_ | refine blk_alloc ?_ _)); refine blk_put (cs := #[.slice Ao22 t214.length co22, .slice none 0 0, .int .i64 0]) ?_ 1 _ rfl; (with_reducible repeat (first | refine blk_drewN ?_ _ | refine blk_drew ?_ | refine blk_alloc ?_ _)); refine blk_put (cs := #[.slice none 0 0, .slice none 0 0, .int .i64 0]) ?_ 0 _ rfl; (with_reducible repeat (first | refine blk_drewN ?_ _ | refine blk_drew ?_ | refine blk_alloc ?_ _)); exact BK223.out) hb); replace HB := Aside0.mk (below_step (ts38_ HB.out GE213.out GE223.out) hb); clear hb) | (go_at_call 9; (with_reducible refine (cupellaw20_awake.calls kj1  t225 _ A14.out).mono ?_); rintro e w28 ⟨rfl, hb⟩; replace HO206 := Aside0.mk (Kd.R_below (ts30_ HO206.out) hb); replace HO209 := Aside0.mk (Kd.R_below (ts30_ HO209.out) hb); replace HO216 := Aside0.mk (Kd.R_below (ts30_ HO216.out) hb); replace HO219 := Aside0.mk (Kd.R_below (ts30_ HO219.out) hb); replace BK213 := Aside0.mk (blk_below (g := gb213) (o := .cells #[.slice Ao17 t204.length co17, .slice Ao19 t207.length co19, .int .i64 t210] 35 (0, 0)) (ts25_ BK213.out) hb); replace BK223 := Aside0.mk (blk_below (g := gb223) (o := .cells #[.slice Ao22 t214.length co22, .slice Ao25 t217.length co25, .int .i64 t220] 35 (0, 0)) (ts25_ BK223.out) hb); replace HB := Aside0.mk (below_step (ts38_ HB.out GE213.out GE223.out) hb); clear hb))
      go_ret
      exact ⟨ts42_, ts38_ HB.out GE213.out GE223.out⟩
     rw [if_neg c13] at H
     exact absurd H (by simp)
    rw [if_neg c12] at H
    exact absurd H (by simp)
   replace c11 := Bool.eq_false_iff.mpr c11
   subst c11
   rw [if_neg Bool.false_ne_true] at H
   exact absurd H (by simp)
end Go.Proofs.YtlaijeeeblcinaaDoor.A
set_option linter.all false
set_option maxRecDepth 100000
namespace Go.Proofs.YtlaijeeeblcinaaDoor.A
open Go.RowKit Go.Lib Go.Proofs.YtlaijeeeblcinaaDoorW.PrintWords
theorem same1 (a b : List Int) (e : Int) (hb : b.length ≤ 20000) : ∀ (m i k : Nat), i + m = b.length → m < k → cupelref20_Same.l1 k (i : Int) a b e a b e = some true := by
 intro m
 induction m with
 | zero =>
  intro i k h hk
  obtain ⟨k, rfl⟩ : ∃ z, k = z + 1 := ⟨k - 1, by omega⟩
  simp only [cupelref20_Same.l1]
  rw [if_neg (by omega)]
 | succ m ih =>
  intro i k h hk
  obtain ⟨k, rfl⟩ : ∃ z, k = z + 1 := ⟨k - 1, by omega⟩
  simp only [cupelref20_Same.l1]
  rw [if_pos (by omega), if_pos (by omega), if_pos (by omega), if_pos trivial, wrap_succ i (by omega)]
  exact ih (i + 1) k (by omega) (by omega)
theorem same0 (a b : List Int) (e : Int) (ha : a.length ≤ 20000) (hb : b.length ≤ 20000) : ∀ (m i k : Nat), i + m = a.length → m + b.length + 1 < k → cupelref20_Same.l0 k (i : Int) a b e a b e = some true := by
 intro m
 induction m with
 | zero =>
  intro i k h hk
  obtain ⟨k, rfl⟩ : ∃ z, k = z + 1 := ⟨k - 1, by omega⟩
  simp only [cupelref20_Same.l0]
  rw [if_neg (by omega)]
  exact same1 a b e hb b.length 0 k (by omega) (by omega)
 | succ m ih =>
  intro i k h hk
  obtain ⟨k, rfl⟩ : ∃ z, k = z + 1 := ⟨k - 1, by omega⟩
  simp only [cupelref20_Same.l0]
  rw [if_pos (by omega), if_pos (by omega), if_pos (by omega), if_pos trivial, wrap_succ i (by omega)]
  exact ih (i + 1) k (by omega) (by omega)
theorem same_self (a b : List Int) (e : Int) (ha : a.length ≤ 20000) (hb : b.length ≤ 20000) (k : Nat) (hk : 40010 ≤ k) : cupelref20_Same.f k a b e a b e = some true := by
 obtain ⟨k, rfl⟩ : ∃ z, k = z + 1 := ⟨k - 1, by omega⟩
 unfold cupelref20_Same.f
 rw [if_pos rfl, if_pos rfl, show ((b.length : Int) != (b.length : Int)) = false from bne_self_eq_false' .., cupelref20_Same.j0, if_neg (by decide)]
 exact same0 a b e ha hb a.length 0 k (by omega) (by omega)
theorem reads_j (s : ByteArray) (h : s.size ≤ 5000 ∨ 600000 < s.size) (k : Nat) (hk : 700000 ≤ k) : cupellaw20_TargetReads.j0 (k + 1) s false = some true := by
 have A := awake_ge k (by omega)
 have hr : ∃ r : PRes, parseP k s = some r ∧ cupelref20_Parse.f k s = some r ∧ r.1.length ≤ 20000 ∧ r.2.1.length ≤ 20000 := by
  rcases h with h | h
  ·exact parse_ref s h k k (by omega) hk
  ·obtain ⟨h1, h2⟩ := parse_over s h k k
   exact ⟨_, h1, h2, Nat.zero_le _, Nat.zero_le _⟩
 obtain ⟨r, h1, h2, h3, h4⟩ := hr
 rw [cupellaw20_TargetReads.j0, if_neg (by decide)]
 unfold et_Parse.f
 rw [h1, h2, Option.bind_some, Option.bind_some, same_self _ _ _ h3 h4 k (by omega), Option.bind_some, if_pos rfl, if_pos rfl, if_pos rfl, A]
 rfl
theorem reads_t (s : ByteArray) (k : Nat) (hk : 700000 ≤ k) : cupellaw20_TargetReads.j0 (k + 1) s true = some true := by
 rw [cupellaw20_TargetReads.j0, if_pos rfl, awake_ge k (by omega)]
 rfl
theorem reads_k (s : ByteArray) (k : Nat) (hk : 700000 ≤ k) : cupellaw20_TargetReads.f (k + 1) s = some true := by
 have hb : ∀ b : Bool, (s.size ≤ 5000 ∨ 600000 < s.size) → cupellaw20_TargetReads.j0 (k + 1) s b = some true := by
  intro b h
  cases b with
  | true => exact reads_t s k hk
  | false => exact reads_j s h k hk
 unfold cupellaw20_TargetReads.f
 by_cases c : (s.size : Int) > 5000
 ·rw [if_pos c]
  by_cases c1 : (s.size : Int) ≤ 600000
  ·rw [if_pos c1]; exact reads_t s k hk
  ·rw [if_neg c1]; exact hb _ (.inr (by omega))
 ·rw [if_neg c]; exact hb _ (.inl (by omega))
theorem reads (s : ByteArray) : ∃ k, cupellaw20_TargetReads.f k s = some true := ⟨700001, reads_k s 700000 (Nat.le_refl _)⟩
end Go.Proofs.YtlaijeeeblcinaaDoor.A

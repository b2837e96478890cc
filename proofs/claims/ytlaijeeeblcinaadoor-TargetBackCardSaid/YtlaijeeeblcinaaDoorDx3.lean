/- Written by wip/tools/xprint.py, a program of this session that drives the kit's printer. Not trusted: Lean checks it. -/
import Derived.Test.YtlaijeeeblcinaaDoorDx1
import Derived.Test.YtlaijeeeblcinaaDoorAx12
import Derived.Test.YtlaijeeeblcinaaDoorAx2
import Derived.Test.YtlaijeeeblcinaaDoorBx2
import Derived.Test.YtlaijeeeblcinaaDoorBx3
import Derived.Test.YtlaijeeeblcinaaDoorEv2
import Derived.Test.YtlaijeeeblcinaaDoorPr3
set_option linter.all false
set_option maxHeartbeats 8000000
set_option maxRecDepth 100000
namespace Go.Proofs.YtlaijeeeblcinaaDoor.A
open Go.RowKit Go.Proofs.YtlaijeeeblcinaaDoorW.PrintWords Go.Proofs.YtlaijeeeblcinaaDoorW.PrintLast Go.Proofs.YtlaijeeeblcinaaDoorW.PrintMore
attribute [local go_sem] max2_int min2_int max_two min_two max_three min_three max_four min_four   -- for this text's walks alone
set_option linter.unusedVariables false
set_option linter.unusedSimpArgs false
attribute [local go_sem high] eqA26
/-! ### cupellaw20_TargetBack: function 7 -/
mutual
def cupellaw20_TargetBack.l0 : Nat → List (S26) → List Int → Int → Int → Int → Int → Int → Int → Int → Option (Bool)
 | 0, _, _, _, _, _, _, _, _, _ => none
 | k + 1, x0, x5, x7, x8, x109000, x109001, x109002, x109003, x109004 => if x8 < (x0.length : Int) then ((et_Decode.f k x5 x7).bind fun bt115 => (if bt115.2.2.2.2.2.2 = 0 then (if 0 ≤ x8 then (if (!(bt115.1 == ((rd_T26 x0 x8).f0)) || (!(bt115.2.1 == ((rd_T26 x0 x8).f1)) || (!(bt115.2.2.1 == ((rd_T26 x0 x8).f2)) || (!(bt115.2.2.2.1 == ((rd_T26 x0 x8).f3)) || (!(bt115.2.2.2.2.1 == ((rd_T26 x0 x8).f4))))))) = true then (cupellaw20_TargetBack.j1 k x0 x5 x7 x8 bt115.2.2.2.2.2.1 true x109000 x109001 x109002 x109003 x109004 bt115.1 bt115.2.1 bt115.2.2.1 bt115.2.2.2.1 bt115.2.2.2.2.1) else (if bt115.2.2.2.2.2.1 ≤ x7 then (cupellaw20_TargetBack.j1 k x0 x5 x7 x8 bt115.2.2.2.2.2.1 true x109000 x109001 x109002 x109003 x109004 bt115.1 bt115.2.1 bt115.2.2.1 bt115.2.2.2.1 bt115.2.2.2.2.1) else (cupellaw20_TargetBack.j1 k x0 x5 x7 x8 bt115.2.2.2.2.2.1 (decide (bt115.2.2.2.2.2.1 > (x5.length : Int))) x109000 x109001 x109002 x109003 x109004 bt115.1 bt115.2.1 bt115.2.2.1 bt115.2.2.2.1 bt115.2.2.2.2.1))) else (none)) else (cupellaw20_TargetBack.j1 k x0 x5 x7 x8 bt115.2.2.2.2.2.1 true x109000 x109001 x109002 x109003 x109004 bt115.1 bt115.2.1 bt115.2.2.1 bt115.2.2.2.1 bt115.2.2.2.2.1))) else ((some (([(-1), 4611686018427387904] : List Int) : List Int)).bind fun y144 => ((target_Print.f k x5 y144 (x5.length : Int)).bind fun bt148 => ((et_Parse.f k bt148.1).bind fun bt150 => (if x7 = (x5.length : Int) then (if bt148.2 = 0 then (if bt150.2.2.2.2 = 0 then ((cupelref20_Same.f k x5 y144 (x5.length : Int) bt150.1 bt150.2.1 bt150.2.2.1).bind fun t160 => (if t160 = true then ((cupellaw20_awake.f k).bind fun t161 => (some t161)) else (none))) else (none)) else (none)) else (none)))))
def cupellaw20_TargetBack.j1 : Nat → List (S26) → List Int → Int → Int → Int → Bool → Int → Int → Int → Int → Int → Int → Int → Int → Int → Int → Option (Bool)
 | 0, _, _, _, _, _, _, _, _, _, _, _, _, _, _, _, _ => none
 | k + 1, x0, x5, x7, x8, x10, x70, x109000, x109001, x109002, x109003, x109004, x123000, x123001, x123002, x123003, x123004 => if x70 = true then (none) else ((target_Encode.f k (([(⟨x123000, x123001, x123002, x123003, x123004⟩ : S26)] : List (S26)))).bind fun bt127 => (if bt127.2 = 0 then (if 0 ≤ x7 then (if x7 ≤ x10 then (if x10 ≤ (x5.length : Int) then ((cupellaw20_sameWords.f k bt127.1 ((x5.take (x10 : Int).toNat).drop (x7 : Int).toNat)).bind fun t135 => (cupellaw20_TargetBack.j2 k x0 x5 x8 x10 bt127.1 (!t135) x109000 x109001 x109002 x109003 x109004 x123000 x123001 x123002 x123003 x123004)) else (none)) else (none)) else (none)) else (cupellaw20_TargetBack.j2 k x0 x5 x8 x10 bt127.1 true x109000 x109001 x109002 x109003 x109004 x123000 x123001 x123002 x123003 x123004)))
def cupellaw20_TargetBack.j2 : Nat → List (S26) → List Int → Int → Int → List Int → Bool → Int → Int → Int → Int → Int → Int → Int → Int → Int → Int → Option (Bool)
 | 0, _, _, _, _, _, _, _, _, _, _, _, _, _, _, _, _ => none
 | k + 1, x0, x5, x8, x10, x12, x87, x109000, x109001, x109002, x109003, x109004, x123000, x123001, x123002, x123003, x123004 => if x87 = true then (none) else ((target_Encode.f k (([(⟨x109000, x109001, x109002, x109003, x109004⟩ : S26)] : List (S26)))).bind fun bt139 => (if bt139.2 = 0 then ((cupellaw20_sameWords.f k x12 bt139.1).bind fun t143 => (if (t143 != (x109000 == x123000 && (x109001 == x123001 && (x109002 == x123002 && (x109003 == x123003 && (x109004 == x123004)))))) = true then (none) else (cupellaw20_TargetBack.l0 k x0 x5 x10 (wrap64 (x8 + 1)) x109000 x109001 x109002 x109003 x109004))) else (cupellaw20_TargetBack.l0 k x0 x5 x10 (wrap64 (x8 + 1)) x109000 x109001 x109002 x109003 x109004)))
end
def cupellaw20_TargetBack.f (k : Nat) (l0 : List (S26)) (a1_0 : Int) (a1_1 : Int) (a1_2 : Int) (a1_3 : Int) (a1_4 : Int) : Option (Bool) := if (l0.length : Int) > 100 then ((cupellaw20_awake.f k).bind fun t109 => (some t109)) else ((target_Encode.f k l0).bind fun bt110 => (if bt110.2 = 0 then (cupellaw20_TargetBack.l0 k l0 bt110.1 0 0 a1_0 a1_1 a1_2 a1_3 a1_4) else (if (bt110.1.length : Int) = 0 then ((cupellaw20_awake.f k).bind fun t114 => (some t114)) else (none))))
theorem cupellaw20_TargetBack.mono_l : ∀ k, (∀ y0 y1 y2 y3 y4 y5 y6 y7 y8, LeO (cupellaw20_TargetBack.l0 k y0 y1 y2 y3 y4 y5 y6 y7 y8) (cupellaw20_TargetBack.l0 (k + 1) y0 y1 y2 y3 y4 y5 y6 y7 y8)) ∧ (∀ y0 y1 y2 y3 y4 y5 y6 y7 y8 y9 y10 y11 y12 y13 y14 y15, LeO (cupellaw20_TargetBack.j1 k y0 y1 y2 y3 y4 y5 y6 y7 y8 y9 y10 y11 y12 y13 y14 y15) (cupellaw20_TargetBack.j1 (k + 1) y0 y1 y2 y3 y4 y5 y6 y7 y8 y9 y10 y11 y12 y13 y14 y15)) ∧ (∀ y0 y1 y2 y3 y4 y5 y6 y7 y8 y9 y10 y11 y12 y13 y14 y15, LeO (cupellaw20_TargetBack.j2 k y0 y1 y2 y3 y4 y5 y6 y7 y8 y9 y10 y11 y12 y13 y14 y15) (cupellaw20_TargetBack.j2 (k + 1) y0 y1 y2 y3 y4 y5 y6 y7 y8 y9 y10 y11 y12 y13 y14 y15))
 | 0 => ⟨fun _ _ _ _ _ _ _ _ _ r h => by simp [cupellaw20_TargetBack.l0] at h, fun _ _ _ _ _ _ _ _ _ _ _ _ _ _ _ _ r h => by simp [cupellaw20_TargetBack.j1] at h, fun _ _ _ _ _ _ _ _ _ _ _ _ _ _ _ _ r h => by simp [cupellaw20_TargetBack.j2] at h⟩
 | k + 1 => by
  obtain ⟨ih0, ih1, ih2⟩ := cupellaw20_TargetBack.mono_l k
  refine ⟨?_, ?_, ?_⟩
  ·intro y0 y1 y2 y3 y4 y5 y6 y7 y8
   unfold cupellaw20_TargetBack.l0
   repeat' first
   | (with_reducible exact ih0 _ _ _ _ _ _ _ _ _)
   | (with_reducible exact ih1 _ _ _ _ _ _ _ _ _ _ _ _ _ _ _ _)
   | (with_reducible exact ih2 _ _ _ _ _ _ _ _ _ _ _ _ _ _ _ _)
   | (with_reducible exact cupellaw20_awake.mono _)
   | (with_reducible exact cupellaw20_sameWords.mono _ _ _)
   | (with_reducible exact cupelref20_Same.mono _ _ _ _ _ _ _)
   | (with_reducible exact et_Decode.mono _ _ _)
   | (with_reducible exact et_Parse.mono _ _)
   | (with_reducible exact target_Encode.mono _ _)
   | (with_reducible exact target_Print.mono _ _ _ _)
   | (with_reducible exact LeO.refl _)
   | (with_reducible exact LeO.none _)
   | (with_reducible refine LeO.ite ?_ ?_)
   | (with_reducible refine LeO.bind ?_ (fun _ => ?_))
   | exact LeO.none _
   | refine LeO.ite ?_ ?_
   | refine LeO.bind ?_ (fun _ => ?_)
  ·intro y0 y1 y2 y3 y4 y5 y6 y7 y8 y9 y10 y11 y12 y13 y14 y15
   unfold cupellaw20_TargetBack.j1
   repeat' first
   | (with_reducible exact ih0 _ _ _ _ _ _ _ _ _)
   | (with_reducible exact ih1 _ _ _ _ _ _ _ _ _ _ _ _ _ _ _ _)
   | (with_reducible exact ih2 _ _ _ _ _ _ _ _ _ _ _ _ _ _ _ _)
   | (with_reducible exact cupellaw20_awake.mono _)
   | (with_reducible exact cupellaw20_sameWords.mono _ _ _)
   | (with_reducible exact cupelref20_Same.mono _ _ _ _ _ _ _)
   | (with_reducible exact et_Decode.mono _ _ _)
   | (with_reducible exact et_Parse.mono _ _)
   | (with_reducible exact target_Encode.mono _ _)
   | (with_reducible exact target_Print.mono _ _ _ _)
   | (with_reducible exact LeO.refl _)
   | (with_reducible exact LeO.none _)
   | (with_reducible refine LeO.ite ?_ ?_)
   | (with_reducible refine LeO.bind ?_ (fun _ => ?_))
   | exact LeO.none _
   | refine LeO.ite ?_ ?_
   | refine LeO.bind ?_ (fun _ => ?_)
  intro y0 y1 y2 y3 y4 y5 y6 y7 y8 y9 y10 y11 y12 y13 y14 y15
  unfold cupellaw20_TargetBack.j2
  repeat' first
  | (with_reducible exact ih0 _ _ _ _ _ _ _ _ _)
  | (with_reducible exact ih1 _ _ _ _ _ _ _ _ _ _ _ _ _ _ _ _)
  | (with_reducible exact ih2 _ _ _ _ _ _ _ _ _ _ _ _ _ _ _ _)
  | (with_reducible exact cupellaw20_awake.mono _)
  | (with_reducible exact cupellaw20_sameWords.mono _ _ _)
  | (with_reducible exact cupelref20_Same.mono _ _ _ _ _ _ _)
  | (with_reducible exact et_Decode.mono _ _ _)
  | (with_reducible exact et_Parse.mono _ _)
  | (with_reducible exact target_Encode.mono _ _)
  | (with_reducible exact target_Print.mono _ _ _ _)
  | (with_reducible exact LeO.refl _)
  | (with_reducible exact LeO.none _)
  | (with_reducible refine LeO.ite ?_ ?_)
  | (with_reducible refine LeO.bind ?_ (fun _ => ?_))
  | exact LeO.none _
  | refine LeO.ite ?_ ?_
  | refine LeO.bind ?_ (fun _ => ?_)
theorem cupellaw20_TargetBack.calls (k : Nat) (A0 : Option Addr) (c0 : Nat) (l0 : List (S26)) (a1_0 : Int) (a1_1 : Int) (a1_2 : Int) (a1_3 : Int) (a1_4 : Int) (r : Bool) (w : World) (hr0 : Kd.C k26 w A0 l0.length l0) (hc0 : l0.length ≤ c0) (h : cupellaw20_TargetBack.f k l0 a1_0 a1_1 a1_2 a1_3 a1_4 = some r) (hE_ : Env w := by exact Env.below HEnv_.out (by repeat (first | (with_reducible first | exact HB.out | apply below_alloc | apply pw_below_drewN | apply below_drew1 | refine below_set ?_ (Aside0.out (by assumption))) | exact HB.out)) HEnv_.out.big) :
  Calls Tryd.prog 7 #[.slice A0 l0.length c0, .agg #[.int .i64 a1_0, .int .i64 a1_1, .int .i64 a1_2, .int .i64 a1_3, .int .i64 a1_4]] w fun e w' => e = .returned (.bool r) ∧ Below w.heap.size w w' := by
 have HEnv_ := Aside0.mk hE_
 clear hE_
 have hu26 := Tryd.underlying26
 have hu35 := Tryd.underlying35
 have HR0 := Aside0.mk hr0
 have HC0 := Aside0.mk hc0
 clear hr0 hc0
 have HB := Aside0.mk (Below.refl w.heap.size w)
 have H : (if (l0.length : Int) > 100 then ((cupellaw20_awake.f k).bind fun t109 => (some t109)) else ((target_Encode.f k l0).bind fun bt110 => (if bt110.2 = 0 then (cupellaw20_TargetBack.l0 k l0 bt110.1 0 0 a1_0 a1_1 a1_2 a1_3 a1_4) else (if (bt110.1.length : Int) = 0 then ((cupellaw20_awake.f k).bind fun t114 => (some t114)) else (none))))) = some r := h
 clear h
 by_cases c3 : (l0.length : Int) > 100
 ·rw [if_pos c3] at H
  have c3b0 : decide (100 < (l0.length : Int)) = true := decide_eq_true c3
  have c3b1 : decide (100 < l0.length) = true := decide_eq_true (by omega)
  clear c3
  obtain ⟨t109, A4, H⟩ := bsA_ H
  try dsimp only at H
  obtain rfl := Option.some.inj H
  go_enter Tryd.func7, Tryd.ntmps7
  go_wp2_with (first | ((with_reducible refine gate_dst (N := 3) rfl ?_); (try (refine gate_guard (by rfl) ?_; dsimp only)); refine box_event ?hg (N := 3) ?hd (cs := #[.int .i64 a1_0, .int .i64 a1_1, .int .i64 a1_2, .int .i64 a1_3, .int .i64 a1_4]) (t := 26) ?hr ?_; (case hd => rfl); (case hg => rfl); (case hr => exact ts19_); intro gb108 hg w5 hbox hb; have BK108 := Aside0.mk (hbox); have GW108 := Aside0.mk ((ts63_ HB.out : w.heap.size ≤ gb108)); have GE108 := Aside0.mk ((ts63_ HB.out : w.heap.size ≤ gb108)); replace HB := Aside0.mk (below_step (ts47_ HB.out) hb); clear hb hbox hg) | (go_at_call 9; (with_reducible refine (cupellaw20_awake.calls k  t109 _ A4.out).mono ?_); rintro e w6 ⟨rfl, hb⟩; replace BK108 := Aside0.mk (blk_below (g := gb108) (o := .cells #[.int .i64 a1_0, .int .i64 a1_1, .int .i64 a1_2, .int .i64 a1_3, .int .i64 a1_4] 26 (0, 0)) (ts18_ BK108.out) hb); replace HB := Aside0.mk (below_step (ts22_ HB.out GE108.out) hb); clear hb))
  repeat (go_quiet (first | ((with_reducible refine gate_dst (N := 3) rfl ?_); (try (refine gate_guard (by rfl) ?_; dsimp only)); refine box_event ?hg (N := 3) ?hd (cs := #[.int .i64 a1_0, .int .i64 a1_1, .int .i64 a1_2, .int .i64 a1_3, .int .i64 a1_4]) (t := 26) ?hr ?_; (case hd => rfl); (case hg => rfl); (case hr => exact ts19_); intro gb108 hg w5 hbox hb; have BK108 := Aside0.mk (hbox); have GW108 := Aside0.mk ((ts63_ HB.out : w.heap.size ≤ gb108)); have GE108 := Aside0.mk ((ts63_ HB.out : w.heap.size ≤ gb108)); replace HB := Aside0.mk (below_step (ts47_ HB.out) hb); clear hb hbox hg) | (go_at_call 9; (with_reducible refine (cupellaw20_awake.calls k  t109 _ A4.out).mono ?_); rintro e w6 ⟨rfl, hb⟩; replace BK108 := Aside0.mk (blk_below (g := gb108) (o := .cells #[.int .i64 a1_0, .int .i64 a1_1, .int .i64 a1_2, .int .i64 a1_3, .int .i64 a1_4] 26 (0, 0)) (ts18_ BK108.out) hb); replace HB := Aside0.mk (below_step (ts22_ HB.out GE108.out) hb); clear hb)); try go_wp2_with (first | ((with_reducible refine gate_dst (N := 3) rfl ?_); (try (refine gate_guard (by rfl) ?_; dsimp only)); refine box_event ?hg (N := 3) ?hd (cs := #[.int .i64 a1_0, .int .i64 a1_1, .int .i64 a1_2, .int .i64 a1_3, .int .i64 a1_4]) (t := 26) ?hr ?_; (case hd => rfl); (case hg => rfl); (case hr => exact ts19_); intro gb108 hg w5 hbox hb; have BK108 := Aside0.mk (hbox); have GW108 := Aside0.mk ((ts63_ HB.out : w.heap.size ≤ gb108)); have GE108 := Aside0.mk ((ts63_ HB.out : w.heap.size ≤ gb108)); replace HB := Aside0.mk (below_step (ts47_ HB.out) hb); clear hb hbox hg) | (go_at_call 9; (with_reducible refine (cupellaw20_awake.calls k  t109 _ A4.out).mono ?_); rintro e w6 ⟨rfl, hb⟩; replace BK108 := Aside0.mk (blk_below (g := gb108) (o := .cells #[.int .i64 a1_0, .int .i64 a1_1, .int .i64 a1_2, .int .i64 a1_3, .int .i64 a1_4] 26 (0, 0)) (ts18_ BK108.out) hb); replace HB := Aside0.mk (below_step (ts22_ HB.out GE108.out) hb); clear hb)))
  go_ret
  exact ⟨ts35_, ts22_ HB.out GE108.out⟩
 rw [if_neg c3] at H
 have c3b0 : decide (100 < (l0.length : Int)) = false := decide_eq_false c3
 have c3b1 : decide (100 < l0.length) = false := decide_eq_false (by omega)
 clear c3
 obtain ⟨⟨t110, t111⟩, A7, H⟩ := bsA_ H
 try dsimp only at H
 by_cases c8 : t111 = 0
 ·rw [if_pos c8] at H
  have c8b0 : (t111 == 0) = true := beq_iff_eq.mpr c8
  have c8b1 : (t111 != 0) = false := bne_eq_false_iff_eq.mpr c8
  clear c8
  have H' := Aside0.mk H
  clear H
  go_enter Tryd.func7, Tryd.ntmps7
  go_wp2_with (first | ((with_reducible refine gate_dst (N := 3) rfl ?_); (try (refine gate_guard (by rfl) ?_; dsimp only)); refine box_event ?hg (N := 3) ?hd (cs := #[.int .i64 a1_0, .int .i64 a1_1, .int .i64 a1_2, .int .i64 a1_3, .int .i64 a1_4]) (t := 26) ?hr ?_; (case hd => rfl); (case hg => rfl); (case hr => exact ts19_); intro gb108 hg w9 hbox hb; have BK108 := Aside0.mk (hbox); have GW108 := Aside0.mk ((ts63_ HB.out : w.heap.size ≤ gb108)); have GE108 := Aside0.mk ((ts63_ HB.out : w.heap.size ≤ gb108)); replace HB := Aside0.mk (below_step (ts47_ HB.out) hb); clear hb hbox hg) | (go_at_call 12; (with_reducible refine (target_Encode.calls k _ _ l0 t110 t111 _ ?side1 ?side2 A7.out).mono ?_); (case side1 => exact ts49_ HR0.out HB.out); (case side2 => exact HC0.out); rintro e w10 ⟨v112, rfl, ho0, hb⟩; have HO113 := Aside0.mk (Kd.R_lower ho0 (below_size (ts22_ HB.out GE108.out))); replace BK108 := Aside0.mk (blk_below (g := gb108) (o := .cells #[.int .i64 a1_0, .int .i64 a1_1, .int .i64 a1_2, .int .i64 a1_3, .int .i64 a1_4] 26 (0, 0)) (ts18_ BK108.out) hb); replace HB := Aside0.mk (below_step (ts22_ HB.out GE108.out) hb); clear hb; (try clear ho0)))
  repeat (go_quiet (first | ((with_reducible refine gate_dst (N := 3) rfl ?_); (try (refine gate_guard (by rfl) ?_; dsimp only)); refine box_event ?hg (N := 3) ?hd (cs := #[.int .i64 a1_0, .int .i64 a1_1, .int .i64 a1_2, .int .i64 a1_3, .int .i64 a1_4]) (t := 26) ?hr ?_; (case hd => rfl); (case hg => rfl); (case hr => exact ts19_); intro gb108 hg w9 hbox hb; have BK108 := Aside0.mk (hbox); have GW108 := Aside0.mk ((ts63_ HB.out : w.heap.size ≤ gb108)); have GE108 := Aside0.mk ((ts63_ HB.out : w.heap.size ≤ gb108)); replace HB := Aside0.mk (below_step (ts47_ HB.out) hb); clear hb hbox hg) | (go_at_call 12; (with_reducible refine (target_Encode.calls k _ _ l0 t110 t111 _ ?side1 ?side2 A7.out).mono ?_); (case side1 => exact ts49_ HR0.out HB.out); (case side2 => exact HC0.out); rintro e w10 ⟨v112, rfl, ho0, hb⟩; have HO113 := Aside0.mk (Kd.R_lower ho0 (below_size (ts22_ HB.out GE108.out))); replace BK108 := Aside0.mk (blk_below (g := gb108) (o := .cells #[.int .i64 a1_0, .int .i64 a1_1, .int .i64 a1_2, .int .i64 a1_3, .int .i64 a1_4] 26 (0, 0)) (ts18_ BK108.out) hb); replace HB := Aside0.mk (below_step (ts22_ HB.out GE108.out) hb); clear hb; (try clear ho0))); try go_wp2_with (first | ((with_reducible refine gate_dst (N := 3) rfl ?_); (try (refine gate_guard (by rfl) ?_; dsimp only)); refine box_event ?hg (N := 3) ?hd (cs := #[.int .i64 a1_0, .int .i64 a1_1, .int .i64 a1_2, .int .i64 a1_3, .int .i64 a1_4]) (t := 26) ?hr ?_; (case hd => rfl); (case hg => rfl); (case hr => exact ts19_); intro gb108 hg w9 hbox hb; have BK108 := Aside0.mk (hbox); have GW108 := Aside0.mk ((ts63_ HB.out : w.heap.size ≤ gb108)); have GE108 := Aside0.mk ((ts63_ HB.out : w.heap.size ≤ gb108)); replace HB := Aside0.mk (below_step (ts47_ HB.out) hb); clear hb hbox hg) | (go_at_call 12; (with_reducible refine (target_Encode.calls k _ _ l0 t110 t111 _ ?side1 ?side2 A7.out).mono ?_); (case side1 => exact ts49_ HR0.out HB.out); (case side2 => exact HC0.out); rintro e w10 ⟨v112, rfl, ho0, hb⟩; have HO113 := Aside0.mk (Kd.R_lower ho0 (below_size (ts22_ HB.out GE108.out))); replace BK108 := Aside0.mk (blk_below (g := gb108) (o := .cells #[.int .i64 a1_0, .int .i64 a1_1, .int .i64 a1_2, .int .i64 a1_3, .int .i64 a1_4] 26 (0, 0)) (ts18_ BK108.out) hb); replace HB := Aside0.mk (below_step (ts22_ HB.out GE108.out) hb); clear hb; (try clear ho0))))
  go_loopg [7, 8] k (fun kq v7 v8 w' => ∃ (x7_1 : Int) (x8_1 : Int), v7 = .int .i64 x7_1 ∧ v8 = .int .i64 x8_1 ∧ Aside0 (cupellaw20_TargetBack.l0 kq l0 t110 x7_1 x8_1 a1_0 a1_1 a1_2 a1_3 a1_4 = some r) ∧ Aside0 (kq ≤ k) ∧ Aside0 (Kd.R (Kd.int .u64) 48 w' w.heap.size (fun _ => True) v112 t110) ∧ Aside0 (w'.heap[gb108]? = some (.cells #[.int .i64 a1_0, .int .i64 a1_1, .int .i64 a1_2, .int .i64 a1_3, .int .i64 a1_4] 26 (0, 0))) ∧ Aside0 (Below w.heap.size w w'))
  case atStart => exact ⟨(0), (0), ts45_, ts45_, H', ⟨Nat.le_refl _⟩, ⟨ts25_ HO113.out⟩, ⟨ts18_ BK108.out⟩, ⟨ts22_ HB.out GE108.out⟩⟩
  case round =>
   clear H'
   try clear p2
   try clear c3
   try clear c3b0
   try clear c3b1
   try clear c7
   try clear c8
   try clear c8b0
   try clear c8b1
   obtain ⟨x7_1, x8_1, rfl, rfl, HA, HK1, HO_5, BK108, HB⟩ := hrel
   cases gk with
   | zero => exact absurd HA.out (by simp [cupellaw20_TargetBack.l0])
   | succ k1 =>
    have H := HA.out
    clear HA
    simp only [cupellaw20_TargetBack.l0] at H
    by_cases c11 : x8_1 < (l0.length : Int)
    ·rw [if_pos c11] at H
     have c11b0 : decide (x8_1 < (l0.length : Int)) = true := decide_eq_true c11
     clear c11
     obtain ⟨⟨t115, t116, t117, t118, t119, t120, t121⟩, A12, H⟩ := bsA_ H
     try dsimp only at H
     have HC13 := Aside0.mk H
     clear H
     obtain ⟨Ao14, co14, eo14⟩ := Kd.R_slice HO_5.out
     subst eo14
     go_upto_region 11 with (first | (go_at_call 15; (with_reducible refine (et_Decode.calls k1 _ _ t110 x7_1 t115 t116 t117 t118 t119 t120 t121 _ ?side1 ?side2 A12.out).mono ?_); (case side1 => exact ts30_ HO_5.out); (case side2 => exact ts48_ HO_5.out); rintro e w15 ⟨rfl, hb⟩; replace HO_5 := Aside0.mk (Kd.R_below (ts25_ HO_5.out) hb); replace BK108 := Aside0.mk (blk_below (g := gb108) (o := .cells #[.int .i64 a1_0, .int .i64 a1_1, .int .i64 a1_2, .int .i64 a1_3, .int .i64 a1_4] 26 (0, 0)) (ts18_ BK108.out) hb); replace HB := Aside0.mk (below_step (ts22_ HB.out GE108.out) hb); clear hb) | ((with_reducible refine gate_dst (N := 9) rfl ?_); (try (refine gate_guard (by rfl) ?_; dsimp only)); refine box_event ?hg (N := 9) ?hd (cs := #[.int .i64 0, .int .i64 0, .int .i64 0, .int .i64 0, .int .i64 0]) (t := 26) ?hr ?_; (case hd => rfl); (case hg => rfl); (case hr => exact ts19_); intro gb122 hg w16 hbox hb; replace HO_5 := Aside0.mk (Kd.R_below (ts25_ HO_5.out) hb); have BK122 := Aside0.mk (hbox); have GW122 := Aside0.mk ((ts65_ HB.out GE108.out : w.heap.size ≤ gb122)); have GE122 := Aside0.mk ((ts65_ HB.out GE108.out : w.heap.size ≤ gb122)); replace HB := Aside0.mk (below_step (ts22_ HB.out GE108.out) hb); have NB108_122 := Aside0.mk ((ts72_ BK108.out : gb108 ≠ gb122)); have NB122_108 := Aside0.mk ((ts56_ BK108.out : gb122 ≠ gb108)); replace BK108 := Aside0.mk (blk_below (g := gb108) (o := .cells #[.int .i64 a1_0, .int .i64 a1_1, .int .i64 a1_2, .int .i64 a1_3, .int .i64 a1_4] 26 (0, 0)) (ts18_ BK108.out) hb); clear hb hbox hg; have hnb17 := NB122_108.out; have hnc17 := NB108_122.out; have hcz18_0 : w16.cell? ⟨gb122, 0, none⟩ = some (.int .i64 0) := (blk_cell BK122.out 0).trans rfl; have hcz18_1 : w16.cell? ⟨gb122, 1, none⟩ = some (.int .i64 0) := (blk_cell BK122.out 1).trans rfl; have hcz18_2 : w16.cell? ⟨gb122, 2, none⟩ = some (.int .i64 0) := (blk_cell BK122.out 2).trans rfl; have hcz18_3 : w16.cell? ⟨gb122, 3, none⟩ = some (.int .i64 0) := (blk_cell BK122.out 3).trans rfl; have hcz18_4 : w16.cell? ⟨gb122, 4, none⟩ = some (.int .i64 0) := (blk_cell BK122.out 4).trans rfl; have hfz18_0 := blk_frozen BK122.out 0; have hfz18_1 := blk_frozen BK122.out 1; have hfz18_2 := blk_frozen BK122.out 2; have hfz18_3 := blk_frozen BK122.out 3; have hfz18_4 := blk_frozen BK122.out 4))
     repeat (go_quiet (first | (go_at_call 15; (with_reducible refine (et_Decode.calls k1 _ _ t110 x7_1 t115 t116 t117 t118 t119 t120 t121 _ ?side1 ?side2 A12.out).mono ?_); (case side1 => exact ts30_ HO_5.out); (case side2 => exact ts48_ HO_5.out); rintro e w15 ⟨rfl, hb⟩; replace HO_5 := Aside0.mk (Kd.R_below (ts25_ HO_5.out) hb); replace BK108 := Aside0.mk (blk_below (g := gb108) (o := .cells #[.int .i64 a1_0, .int .i64 a1_1, .int .i64 a1_2, .int .i64 a1_3, .int .i64 a1_4] 26 (0, 0)) (ts18_ BK108.out) hb); replace HB := Aside0.mk (below_step (ts22_ HB.out GE108.out) hb); clear hb) | ((with_reducible refine gate_dst (N := 9) rfl ?_); (try (refine gate_guard (by rfl) ?_; dsimp only)); refine box_event ?hg (N := 9) ?hd (cs := #[.int .i64 0, .int .i64 0, .int .i64 0, .int .i64 0, .int .i64 0]) (t := 26) ?hr ?_; (case hd => rfl); (case hg => rfl); (case hr => exact ts19_); intro gb122 hg w16 hbox hb; replace HO_5 := Aside0.mk (Kd.R_below (ts25_ HO_5.out) hb); have BK122 := Aside0.mk (hbox); have GW122 := Aside0.mk ((ts65_ HB.out GE108.out : w.heap.size ≤ gb122)); have GE122 := Aside0.mk ((ts65_ HB.out GE108.out : w.heap.size ≤ gb122)); replace HB := Aside0.mk (below_step (ts22_ HB.out GE108.out) hb); have NB108_122 := Aside0.mk ((ts72_ BK108.out : gb108 ≠ gb122)); have NB122_108 := Aside0.mk ((ts56_ BK108.out : gb122 ≠ gb108)); replace BK108 := Aside0.mk (blk_below (g := gb108) (o := .cells #[.int .i64 a1_0, .int .i64 a1_1, .int .i64 a1_2, .int .i64 a1_3, .int .i64 a1_4] 26 (0, 0)) (ts18_ BK108.out) hb); clear hb hbox hg; have hnb17 := NB122_108.out; have hnc17 := NB108_122.out; have hcz18_0 : w16.cell? ⟨gb122, 0, none⟩ = some (.int .i64 0) := (blk_cell BK122.out 0).trans rfl; have hcz18_1 : w16.cell? ⟨gb122, 1, none⟩ = some (.int .i64 0) := (blk_cell BK122.out 1).trans rfl; have hcz18_2 : w16.cell? ⟨gb122, 2, none⟩ = some (.int .i64 0) := (blk_cell BK122.out 2).trans rfl; have hcz18_3 : w16.cell? ⟨gb122, 3, none⟩ = some (.int .i64 0) := (blk_cell BK122.out 3).trans rfl; have hcz18_4 : w16.cell? ⟨gb122, 4, none⟩ = some (.int .i64 0) := (blk_cell BK122.out 4).trans rfl; have hfz18_0 := blk_frozen BK122.out 0; have hfz18_1 := blk_frozen BK122.out 1; have hfz18_2 := blk_frozen BK122.out 2; have hfz18_3 := blk_frozen BK122.out 3; have hfz18_4 := blk_frozen BK122.out 4)); go_upto_region 11 with (first | (go_at_call 15; (with_reducible refine (et_Decode.calls k1 _ _ t110 x7_1 t115 t116 t117 t118 t119 t120 t121 _ ?side1 ?side2 A12.out).mono ?_); (case side1 => exact ts30_ HO_5.out); (case side2 => exact ts48_ HO_5.out); rintro e w15 ⟨rfl, hb⟩; replace HO_5 := Aside0.mk (Kd.R_below (ts25_ HO_5.out) hb); replace BK108 := Aside0.mk (blk_below (g := gb108) (o := .cells #[.int .i64 a1_0, .int .i64 a1_1, .int .i64 a1_2, .int .i64 a1_3, .int .i64 a1_4] 26 (0, 0)) (ts18_ BK108.out) hb); replace HB := Aside0.mk (below_step (ts22_ HB.out GE108.out) hb); clear hb) | ((with_reducible refine gate_dst (N := 9) rfl ?_); (try (refine gate_guard (by rfl) ?_; dsimp only)); refine box_event ?hg (N := 9) ?hd (cs := #[.int .i64 0, .int .i64 0, .int .i64 0, .int .i64 0, .int .i64 0]) (t := 26) ?hr ?_; (case hd => rfl); (case hg => rfl); (case hr => exact ts19_); intro gb122 hg w16 hbox hb; replace HO_5 := Aside0.mk (Kd.R_below (ts25_ HO_5.out) hb); have BK122 := Aside0.mk (hbox); have GW122 := Aside0.mk ((ts65_ HB.out GE108.out : w.heap.size ≤ gb122)); have GE122 := Aside0.mk ((ts65_ HB.out GE108.out : w.heap.size ≤ gb122)); replace HB := Aside0.mk (below_step (ts22_ HB.out GE108.out) hb); have NB108_122 := Aside0.mk ((ts72_ BK108.out : gb108 ≠ gb122)); have NB122_108 := Aside0.mk ((ts56_ BK108.out : gb122 ≠ gb108)); replace BK108 := Aside0.mk (blk_below (g := gb108) (o := .cells #[.int .i64 a1_0, .int .i64 a1_1, .int .i64 a1_2, .int .i64 a1_3, .int .i64 a1_4] 26 (0, 0)) (ts18_ BK108.out) hb); clear hb hbox hg; have hnb17 := NB122_108.out; have hnc17 := NB108_122.out; have hcz18_0 : w16.cell? ⟨gb122, 0, none⟩ = some (.int .i64 0) := (blk_cell BK122.out 0).trans rfl; have hcz18_1 : w16.cell? ⟨gb122, 1, none⟩ = some (.int .i64 0) := (blk_cell BK122.out 1).trans rfl; have hcz18_2 : w16.cell? ⟨gb122, 2, none⟩ = some (.int .i64 0) := (blk_cell BK122.out 2).trans rfl; have hcz18_3 : w16.cell? ⟨gb122, 3, none⟩ = some (.int .i64 0) := (blk_cell BK122.out 3).trans rfl; have hcz18_4 : w16.cell? ⟨gb122, 4, none⟩ = some (.int .i64 0) := (blk_cell BK122.out 4).trans rfl; have hfz18_0 := blk_frozen BK122.out 0; have hfz18_1 := blk_frozen BK122.out 1; have hfz18_2 := blk_frozen BK122.out 2; have hfz18_3 := blk_frozen BK122.out 3; have hfz18_4 := blk_frozen BK122.out 4)))
     (try simp only [Act.put, List.setIfInBounds_toArray, List.set_cons_zero, List.set_cons_succ])
     go_cut [70] (fun v70 wc => ∃ (kq : Nat) (x70_12 : Bool), v70 = .bool x70_12 ∧ Aside0 (cupellaw20_TargetBack.j1 kq l0 t110 x7_1 x8_1 t120 x70_12 a1_0 a1_1 a1_2 a1_3 a1_4 t115 t116 t117 t118 t119 = some r) ∧ Aside0 (kq ≤ k1) ∧ Aside0 (Kd.R (Kd.int .u64) 48 wc w.heap.size (fun _ => True) (.slice Ao14 t110.length co14) t110) ∧ Aside0 (wc.heap[gb108]? = some (.cells #[.int .i64 a1_0, .int .i64 a1_1, .int .i64 a1_2, .int .i64 a1_3, .int .i64 a1_4] 26 (0, 0))) ∧ Aside0 (wc.heap[gb122]? = some (.cells #[.int .i64 t115, .int .i64 t116, .int .i64 t117, .int .i64 t118, .int .i64 t119] 26 (0, 0))) ∧ Aside0 (Below w.heap.size w wc))
     case first =>
      have H := HC13.out
      clear HC13
      by_cases c19 : t121 = 0
      ·rw [if_pos c19] at H
       have c19b0 : (t121 == 0) = true := beq_iff_eq.mpr c19
       have c19b1 : (t121 != 0) = false := bne_eq_false_iff_eq.mpr c19
       clear c19
       (first | rw [c19b0] | (simp only [i64_w, i32_w]; rw [c19b0]) | skip)
       by_cases c20 : 0 ≤ x8_1
       ·rw [if_pos c20] at H
        have c20b0 : decide (0 ≤ x8_1) = true := decide_eq_true c20
        clear c20
        by_cases c21 : (!(t115 == ((rd_T26 l0 x8_1).f0)) || (!(t116 == ((rd_T26 l0 x8_1).f1)) || (!(t117 == ((rd_T26 l0 x8_1).f2)) || (!(t118 == ((rd_T26 l0 x8_1).f3)) || (!(t119 == ((rd_T26 l0 x8_1).f4))))))) = true
        ·rw [if_pos c21] at H
         have c21b0 : (!(t115 == ((rd_T26 l0 x8_1).f0)) || (!(t116 == ((rd_T26 l0 x8_1).f1)) || (!(t117 == ((rd_T26 l0 x8_1).f2)) || (!(t118 == ((rd_T26 l0 x8_1).f3)) || (!(t119 == ((rd_T26 l0 x8_1).f4))))))) = true := c21
         clear c21
         have H' := Aside0.mk H
         clear H
         have hnb22 := NB122_108.out
         have hnc22 := NB108_122.out
         have hcz23_0 : w16.cell? ⟨gb122, 0, none⟩ = some (.int .i64 0) := (blk_cell BK122.out 0).trans rfl
         have hcz23_1 : w16.cell? ⟨gb122, 1, none⟩ = some (.int .i64 0) := (blk_cell BK122.out 1).trans rfl
         have hcz23_2 : w16.cell? ⟨gb122, 2, none⟩ = some (.int .i64 0) := (blk_cell BK122.out 2).trans rfl
         have hcz23_3 : w16.cell? ⟨gb122, 3, none⟩ = some (.int .i64 0) := (blk_cell BK122.out 3).trans rfl
         have hcz23_4 : w16.cell? ⟨gb122, 4, none⟩ = some (.int .i64 0) := (blk_cell BK122.out 4).trans rfl
         have hfz23_0 := blk_frozen BK122.out 0
         have hfz23_1 := blk_frozen BK122.out 1
         have hfz23_2 := blk_frozen BK122.out 2
         have hfz23_3 := blk_frozen BK122.out 3
         have hfz23_4 := blk_frozen BK122.out 4
         have p123 : 0 ≤ (x8_1 : Int) := of_decide_eq_true ts31_
         have q123 : x8_1 < (l0.length : Int) := of_decide_eq_true ts31_
         obtain ⟨ad123, e123, hx123_0, hx123_1, hx123_2, hx123_3, hx123_4⟩ := at_T26 HR0.out x8_1 p123 q123
         cases e123
         have hn123_0 : ad123.block ≠ gb122 := Nat.ne_of_lt (Nat.lt_of_lt_of_le ts21_ GW122.out)
         have hn123_1 : ad123.block ≠ gb122 := Nat.ne_of_lt (Nat.lt_of_lt_of_le ts21_ GW122.out)
         have hn123_2 : ad123.block ≠ gb122 := Nat.ne_of_lt (Nat.lt_of_lt_of_le ts21_ GW122.out)
         have hn123_3 : ad123.block ≠ gb122 := Nat.ne_of_lt (Nat.lt_of_lt_of_le ts21_ GW122.out)
         have hn123_4 : ad123.block ≠ gb122 := Nat.ne_of_lt (Nat.lt_of_lt_of_le ts21_ GW122.out)
         replace hx123_0 := (HB.out.cell (World.block_lt_of_cell? w _ hx123_0)).trans hx123_0
         replace hx123_1 := (HB.out.cell (World.block_lt_of_cell? w _ hx123_1)).trans hx123_1
         replace hx123_2 := (HB.out.cell (World.block_lt_of_cell? w _ hx123_2)).trans hx123_2
         replace hx123_3 := (HB.out.cell (World.block_lt_of_cell? w _ hx123_3)).trans hx123_3
         replace hx123_4 := (HB.out.cell (World.block_lt_of_cell? w _ hx123_4)).trans hx123_4
         replace hx123_0 := (cell_far (p := ⟨gb122, 0, none⟩) ts6_ (.int .i64 t115)).trans hx123_0
         replace hx123_1 := (cell_far (p := ⟨gb122, 0, none⟩) ts6_ (.int .i64 t115)).trans hx123_1
         replace hx123_2 := (cell_far (p := ⟨gb122, 0, none⟩) ts6_ (.int .i64 t115)).trans hx123_2
         replace hx123_3 := (cell_far (p := ⟨gb122, 0, none⟩) ts6_ (.int .i64 t115)).trans hx123_3
         replace hx123_4 := (cell_far (p := ⟨gb122, 0, none⟩) ts6_ (.int .i64 t115)).trans hx123_4
         replace hx123_0 := (cell_far (p := ⟨gb122, 1, none⟩) ts2_ (.int .i64 t116)).trans hx123_0
         replace hx123_1 := (cell_far (p := ⟨gb122, 1, none⟩) ts2_ (.int .i64 t116)).trans hx123_1
         replace hx123_2 := (cell_far (p := ⟨gb122, 1, none⟩) ts2_ (.int .i64 t116)).trans hx123_2
         replace hx123_3 := (cell_far (p := ⟨gb122, 1, none⟩) ts2_ (.int .i64 t116)).trans hx123_3
         replace hx123_4 := (cell_far (p := ⟨gb122, 1, none⟩) ts2_ (.int .i64 t116)).trans hx123_4
         replace hx123_0 := (cell_far (p := ⟨gb122, 2, none⟩) ts37_ (.int .i64 t117)).trans hx123_0
         replace hx123_1 := (cell_far (p := ⟨gb122, 2, none⟩) ts37_ (.int .i64 t117)).trans hx123_1
         replace hx123_2 := (cell_far (p := ⟨gb122, 2, none⟩) ts37_ (.int .i64 t117)).trans hx123_2
         replace hx123_3 := (cell_far (p := ⟨gb122, 2, none⟩) ts37_ (.int .i64 t117)).trans hx123_3
         replace hx123_4 := (cell_far (p := ⟨gb122, 2, none⟩) ts37_ (.int .i64 t117)).trans hx123_4
         replace hx123_0 := (cell_far (p := ⟨gb122, 3, none⟩) ts17_ (.int .i64 t118)).trans hx123_0
         replace hx123_1 := (cell_far (p := ⟨gb122, 3, none⟩) ts17_ (.int .i64 t118)).trans hx123_1
         replace hx123_2 := (cell_far (p := ⟨gb122, 3, none⟩) ts17_ (.int .i64 t118)).trans hx123_2
         replace hx123_3 := (cell_far (p := ⟨gb122, 3, none⟩) ts17_ (.int .i64 t118)).trans hx123_3
         replace hx123_4 := (cell_far (p := ⟨gb122, 3, none⟩) ts17_ (.int .i64 t118)).trans hx123_4
         replace hx123_0 := (cell_far (p := ⟨gb122, 4, none⟩) ts26_ (.int .i64 t119)).trans hx123_0
         replace hx123_1 := (cell_far (p := ⟨gb122, 4, none⟩) ts26_ (.int .i64 t119)).trans hx123_1
         replace hx123_2 := (cell_far (p := ⟨gb122, 4, none⟩) ts26_ (.int .i64 t119)).trans hx123_2
         replace hx123_3 := (cell_far (p := ⟨gb122, 4, none⟩) ts26_ (.int .i64 t119)).trans hx123_3
         replace hx123_4 := (cell_far (p := ⟨gb122, 4, none⟩) ts26_ (.int .i64 t119)).trans hx123_4
         clear hn123_0
         clear hn123_1
         clear hn123_2
         clear hn123_3
         clear hn123_4
         replace p123 := eq_true p123
         replace q123 := eq_true q123
         go_wp2
         repeat (go_quiet (fail); try go_wp2)
         go_meet
         case rel => exact ⟨_, (true), ts45_, H', ⟨ts16_ HK1.out⟩, ⟨ts36_ HO_5.out BK122.out⟩, ⟨ts4_ NB108_122.out BK108.out⟩, ⟨ts8_ BK122.out⟩, ⟨ts32_ HB.out GE108.out GE122.out⟩⟩
        rw [if_neg c21] at H
        have c21b0 : (!(t115 == ((rd_T26 l0 x8_1).f0)) || (!(t116 == ((rd_T26 l0 x8_1).f1)) || (!(t117 == ((rd_T26 l0 x8_1).f2)) || (!(t118 == ((rd_T26 l0 x8_1).f3)) || (!(t119 == ((rd_T26 l0 x8_1).f4))))))) = false := by simpa using c21
        clear c21
        by_cases c24 : t120 ≤ x7_1
        ·rw [if_pos c24] at H
         have c24b0 : decide (t120 ≤ x7_1) = true := decide_eq_true c24
         clear c24
         have H' := Aside0.mk H
         clear H
         have hnb25 := NB122_108.out
         have hnc25 := NB108_122.out
         have hcz26_0 : w16.cell? ⟨gb122, 0, none⟩ = some (.int .i64 0) := (blk_cell BK122.out 0).trans rfl
         have hcz26_1 : w16.cell? ⟨gb122, 1, none⟩ = some (.int .i64 0) := (blk_cell BK122.out 1).trans rfl
         have hcz26_2 : w16.cell? ⟨gb122, 2, none⟩ = some (.int .i64 0) := (blk_cell BK122.out 2).trans rfl
         have hcz26_3 : w16.cell? ⟨gb122, 3, none⟩ = some (.int .i64 0) := (blk_cell BK122.out 3).trans rfl
         have hcz26_4 : w16.cell? ⟨gb122, 4, none⟩ = some (.int .i64 0) := (blk_cell BK122.out 4).trans rfl
         have hfz26_0 := blk_frozen BK122.out 0
         have hfz26_1 := blk_frozen BK122.out 1
         have hfz26_2 := blk_frozen BK122.out 2
         have hfz26_3 := blk_frozen BK122.out 3
         have hfz26_4 := blk_frozen BK122.out 4
         have p123 : 0 ≤ (x8_1 : Int) := of_decide_eq_true ts31_
         have q123 : x8_1 < (l0.length : Int) := of_decide_eq_true ts31_
         obtain ⟨ad123, e123, hx123_0, hx123_1, hx123_2, hx123_3, hx123_4⟩ := at_T26 HR0.out x8_1 p123 q123
         cases e123
         have hn123_0 : ad123.block ≠ gb122 := Nat.ne_of_lt (Nat.lt_of_lt_of_le ts21_ GW122.out)
         have hn123_1 : ad123.block ≠ gb122 := Nat.ne_of_lt (Nat.lt_of_lt_of_le ts21_ GW122.out)
         have hn123_2 : ad123.block ≠ gb122 := Nat.ne_of_lt (Nat.lt_of_lt_of_le ts21_ GW122.out)
         have hn123_3 : ad123.block ≠ gb122 := Nat.ne_of_lt (Nat.lt_of_lt_of_le ts21_ GW122.out)
         have hn123_4 : ad123.block ≠ gb122 := Nat.ne_of_lt (Nat.lt_of_lt_of_le ts21_ GW122.out)
         replace hx123_0 := (HB.out.cell (World.block_lt_of_cell? w _ hx123_0)).trans hx123_0
         replace hx123_1 := (HB.out.cell (World.block_lt_of_cell? w _ hx123_1)).trans hx123_1
         replace hx123_2 := (HB.out.cell (World.block_lt_of_cell? w _ hx123_2)).trans hx123_2
         replace hx123_3 := (HB.out.cell (World.block_lt_of_cell? w _ hx123_3)).trans hx123_3
         replace hx123_4 := (HB.out.cell (World.block_lt_of_cell? w _ hx123_4)).trans hx123_4
         replace hx123_0 := (cell_far (p := ⟨gb122, 0, none⟩) ts6_ (.int .i64 t115)).trans hx123_0
         replace hx123_1 := (cell_far (p := ⟨gb122, 0, none⟩) ts6_ (.int .i64 t115)).trans hx123_1
         replace hx123_2 := (cell_far (p := ⟨gb122, 0, none⟩) ts6_ (.int .i64 t115)).trans hx123_2
         replace hx123_3 := (cell_far (p := ⟨gb122, 0, none⟩) ts6_ (.int .i64 t115)).trans hx123_3
         replace hx123_4 := (cell_far (p := ⟨gb122, 0, none⟩) ts6_ (.int .i64 t115)).trans hx123_4
         replace hx123_0 := (cell_far (p := ⟨gb122, 1, none⟩) ts2_ (.int .i64 t116)).trans hx123_0
         replace hx123_1 := (cell_far (p := ⟨gb122, 1, none⟩) ts2_ (.int .i64 t116)).trans hx123_1
         replace hx123_2 := (cell_far (p := ⟨gb122, 1, none⟩) ts2_ (.int .i64 t116)).trans hx123_2
         replace hx123_3 := (cell_far (p := ⟨gb122, 1, none⟩) ts2_ (.int .i64 t116)).trans hx123_3
         replace hx123_4 := (cell_far (p := ⟨gb122, 1, none⟩) ts2_ (.int .i64 t116)).trans hx123_4
         replace hx123_0 := (cell_far (p := ⟨gb122, 2, none⟩) ts37_ (.int .i64 t117)).trans hx123_0
         replace hx123_1 := (cell_far (p := ⟨gb122, 2, none⟩) ts37_ (.int .i64 t117)).trans hx123_1
         replace hx123_2 := (cell_far (p := ⟨gb122, 2, none⟩) ts37_ (.int .i64 t117)).trans hx123_2
         replace hx123_3 := (cell_far (p := ⟨gb122, 2, none⟩) ts37_ (.int .i64 t117)).trans hx123_3
         replace hx123_4 := (cell_far (p := ⟨gb122, 2, none⟩) ts37_ (.int .i64 t117)).trans hx123_4
         replace hx123_0 := (cell_far (p := ⟨gb122, 3, none⟩) ts17_ (.int .i64 t118)).trans hx123_0
         replace hx123_1 := (cell_far (p := ⟨gb122, 3, none⟩) ts17_ (.int .i64 t118)).trans hx123_1
         replace hx123_2 := (cell_far (p := ⟨gb122, 3, none⟩) ts17_ (.int .i64 t118)).trans hx123_2
         replace hx123_3 := (cell_far (p := ⟨gb122, 3, none⟩) ts17_ (.int .i64 t118)).trans hx123_3
         replace hx123_4 := (cell_far (p := ⟨gb122, 3, none⟩) ts17_ (.int .i64 t118)).trans hx123_4
         replace hx123_0 := (cell_far (p := ⟨gb122, 4, none⟩) ts26_ (.int .i64 t119)).trans hx123_0
         replace hx123_1 := (cell_far (p := ⟨gb122, 4, none⟩) ts26_ (.int .i64 t119)).trans hx123_1
         replace hx123_2 := (cell_far (p := ⟨gb122, 4, none⟩) ts26_ (.int .i64 t119)).trans hx123_2
         replace hx123_3 := (cell_far (p := ⟨gb122, 4, none⟩) ts26_ (.int .i64 t119)).trans hx123_3
         replace hx123_4 := (cell_far (p := ⟨gb122, 4, none⟩) ts26_ (.int .i64 t119)).trans hx123_4
         clear hn123_0
         clear hn123_1
         clear hn123_2
         clear hn123_3
         clear hn123_4
         replace p123 := eq_true p123
         replace q123 := eq_true q123
         go_wp2
         repeat (go_quiet (fail); try go_wp2)
         go_meet
         case rel => exact ⟨_, (true), ts45_, H', ⟨ts16_ HK1.out⟩, ⟨ts36_ HO_5.out BK122.out⟩, ⟨ts4_ NB108_122.out BK108.out⟩, ⟨ts8_ BK122.out⟩, ⟨ts32_ HB.out GE108.out GE122.out⟩⟩
        rw [if_neg c24] at H
        have c24b0 : decide (t120 ≤ x7_1) = false := decide_eq_false c24
        clear c24
        have H' := Aside0.mk H
        clear H
        have hnb27 := NB122_108.out
        have hnc27 := NB108_122.out
        have hcz28_0 : w16.cell? ⟨gb122, 0, none⟩ = some (.int .i64 0) := (blk_cell BK122.out 0).trans rfl
        have hcz28_1 : w16.cell? ⟨gb122, 1, none⟩ = some (.int .i64 0) := (blk_cell BK122.out 1).trans rfl
        have hcz28_2 : w16.cell? ⟨gb122, 2, none⟩ = some (.int .i64 0) := (blk_cell BK122.out 2).trans rfl
        have hcz28_3 : w16.cell? ⟨gb122, 3, none⟩ = some (.int .i64 0) := (blk_cell BK122.out 3).trans rfl
        have hcz28_4 : w16.cell? ⟨gb122, 4, none⟩ = some (.int .i64 0) := (blk_cell BK122.out 4).trans rfl
        have hfz28_0 := blk_frozen BK122.out 0
        have hfz28_1 := blk_frozen BK122.out 1
        have hfz28_2 := blk_frozen BK122.out 2
        have hfz28_3 := blk_frozen BK122.out 3
        have hfz28_4 := blk_frozen BK122.out 4
        have p123 : 0 ≤ (x8_1 : Int) := of_decide_eq_true ts31_
        have q123 : x8_1 < (l0.length : Int) := of_decide_eq_true ts31_
        obtain ⟨ad123, e123, hx123_0, hx123_1, hx123_2, hx123_3, hx123_4⟩ := at_T26 HR0.out x8_1 p123 q123
        cases e123
        have hn123_0 : ad123.block ≠ gb122 := Nat.ne_of_lt (Nat.lt_of_lt_of_le ts21_ GW122.out)
        have hn123_1 : ad123.block ≠ gb122 := Nat.ne_of_lt (Nat.lt_of_lt_of_le ts21_ GW122.out)
        have hn123_2 : ad123.block ≠ gb122 := Nat.ne_of_lt (Nat.lt_of_lt_of_le ts21_ GW122.out)
        have hn123_3 : ad123.block ≠ gb122 := Nat.ne_of_lt (Nat.lt_of_lt_of_le ts21_ GW122.out)
        have hn123_4 : ad123.block ≠ gb122 := Nat.ne_of_lt (Nat.lt_of_lt_of_le ts21_ GW122.out)
        replace hx123_0 := (HB.out.cell (World.block_lt_of_cell? w _ hx123_0)).trans hx123_0
        replace hx123_1 := (HB.out.cell (World.block_lt_of_cell? w _ hx123_1)).trans hx123_1
        replace hx123_2 := (HB.out.cell (World.block_lt_of_cell? w _ hx123_2)).trans hx123_2
        replace hx123_3 := (HB.out.cell (World.block_lt_of_cell? w _ hx123_3)).trans hx123_3
        replace hx123_4 := (HB.out.cell (World.block_lt_of_cell? w _ hx123_4)).trans hx123_4
        replace hx123_0 := (cell_far (p := ⟨gb122, 0, none⟩) ts6_ (.int .i64 t115)).trans hx123_0
        replace hx123_1 := (cell_far (p := ⟨gb122, 0, none⟩) ts6_ (.int .i64 t115)).trans hx123_1
        replace hx123_2 := (cell_far (p := ⟨gb122, 0, none⟩) ts6_ (.int .i64 t115)).trans hx123_2
        replace hx123_3 := (cell_far (p := ⟨gb122, 0, none⟩) ts6_ (.int .i64 t115)).trans hx123_3
        replace hx123_4 := (cell_far (p := ⟨gb122, 0, none⟩) ts6_ (.int .i64 t115)).trans hx123_4
        replace hx123_0 := (cell_far (p := ⟨gb122, 1, none⟩) ts2_ (.int .i64 t116)).trans hx123_0
        replace hx123_1 := (cell_far (p := ⟨gb122, 1, none⟩) ts2_ (.int .i64 t116)).trans hx123_1
        replace hx123_2 := (cell_far (p := ⟨gb122, 1, none⟩) ts2_ (.int .i64 t116)).trans hx123_2
        replace hx123_3 := (cell_far (p := ⟨gb122, 1, none⟩) ts2_ (.int .i64 t116)).trans hx123_3
        replace hx123_4 := (cell_far (p := ⟨gb122, 1, none⟩) ts2_ (.int .i64 t116)).trans hx123_4
        replace hx123_0 := (cell_far (p := ⟨gb122, 2, none⟩) ts37_ (.int .i64 t117)).trans hx123_0
        replace hx123_1 := (cell_far (p := ⟨gb122, 2, none⟩) ts37_ (.int .i64 t117)).trans hx123_1
        replace hx123_2 := (cell_far (p := ⟨gb122, 2, none⟩) ts37_ (.int .i64 t117)).trans hx123_2
        replace hx123_3 := (cell_far (p := ⟨gb122, 2, none⟩) ts37_ (.int .i64 t117)).trans hx123_3
        replace hx123_4 := (cell_far (p := ⟨gb122, 2, none⟩) ts37_ (.int .i64 t117)).trans hx123_4
        replace hx123_0 := (cell_far (p := ⟨gb122, 3, none⟩) ts17_ (.int .i64 t118)).trans hx123_0
        replace hx123_1 := (cell_far (p := ⟨gb122, 3, none⟩) ts17_ (.int .i64 t118)).trans hx123_1
        replace hx123_2 := (cell_far (p := ⟨gb122, 3, none⟩) ts17_ (.int .i64 t118)).trans hx123_2
        replace hx123_3 := (cell_far (p := ⟨gb122, 3, none⟩) ts17_ (.int .i64 t118)).trans hx123_3
        replace hx123_4 := (cell_far (p := ⟨gb122, 3, none⟩) ts17_ (.int .i64 t118)).trans hx123_4
        replace hx123_0 := (cell_far (p := ⟨gb122, 4, none⟩) ts26_ (.int .i64 t119)).trans hx123_0
        replace hx123_1 := (cell_far (p := ⟨gb122, 4, none⟩) ts26_ (.int .i64 t119)).trans hx123_1
        replace hx123_2 := (cell_far (p := ⟨gb122, 4, none⟩) ts26_ (.int .i64 t119)).trans hx123_2
        replace hx123_3 := (cell_far (p := ⟨gb122, 4, none⟩) ts26_ (.int .i64 t119)).trans hx123_3
        replace hx123_4 := (cell_far (p := ⟨gb122, 4, none⟩) ts26_ (.int .i64 t119)).trans hx123_4
        clear hn123_0
        clear hn123_1
        clear hn123_2
        clear hn123_3
        clear hn123_4
        replace p123 := eq_true p123
        replace q123 := eq_true q123
        go_wp2
        repeat (go_quiet (fail); try go_wp2)
        go_meet
        case rel => exact ⟨_, (decide (t120 > (t110.length : Int))), ts45_, H', ⟨ts16_ HK1.out⟩, ⟨ts36_ HO_5.out BK122.out⟩, ⟨ts4_ NB108_122.out BK108.out⟩, ⟨ts8_ BK122.out⟩, ⟨ts32_ HB.out GE108.out GE122.out⟩⟩
       rw [if_neg c20] at H
       exact absurd H (by simp)
      rw [if_neg c19] at H
      have c19b0 : (t121 == 0) = false := beq_eq_false_iff_ne.mpr c19
      have c19b1 : (t121 != 0) = true := bne_iff_ne.mpr c19
      (first | rw [c19b0] | (simp only [i64_w, i32_w]; rw [c19b0]) | skip)
      have H' := Aside0.mk H
      clear H
      go_wp2
      repeat (go_quiet (fail); try go_wp2)
      go_meet
      case rel => exact ⟨_, (true), ts45_, H', ⟨ts16_ HK1.out⟩, ⟨ts36_ HO_5.out BK122.out⟩, ⟨ts4_ NB108_122.out BK108.out⟩, ⟨ts8_ BK122.out⟩, ⟨ts32_ HB.out GE108.out GE122.out⟩⟩
     case rest =>
      clear HC13
      try clear c1
      try clear p1
      try clear q1
      try clear hx1
      try clear c2
      try clear p2
      try clear c3
      try clear c3b0
      try clear c3b1
      try clear c7
      try clear c8
      try clear c8b0
      try clear c8b1
      try clear c11
      try clear c11b0
      try clear p12
      try clear q12
      try clear hx12
      try clear c17
      try clear c19
      try clear c19b0
      try clear c19b1
      try clear c20
      try clear c20b0
      try clear c21
      try clear c21b0
      try clear c22
      try clear c24
      try clear c24b0
      try clear c25
      try clear c27
      try clear hcz18_0
      try clear hcz18_1
      try clear hcz18_2
      try clear hcz18_3
      try clear hcz18_4
      try clear hcz23_0
      try clear hcz23_1
      try clear hcz23_2
      try clear hcz23_3
      try clear hcz23_4
      try clear hcz26_0
      try clear hcz26_1
      try clear hcz26_2
      try clear hcz26_3
      try clear hcz26_4
      try clear hcz28_0
      try clear hcz28_1
      try clear hcz28_2
      try clear hcz28_3
      try clear hcz28_4
      try clear hfz18_0
      try clear hfz18_1
      try clear hfz18_2
      try clear hfz18_3
      try clear hfz18_4
      try clear hfz23_0
      try clear hfz23_1
      try clear hfz23_2
      try clear hfz23_3
      try clear hfz23_4
      try clear hfz26_0
      try clear hfz26_1
      try clear hfz26_2
      try clear hfz26_3
      try clear hfz26_4
      try clear hfz28_0
      try clear hfz28_1
      try clear hfz28_2
      try clear hfz28_3
      try clear hfz28_4
      try clear hx123_0
      try clear hx123_1
      try clear hx123_2
      try clear hx123_3
      try clear hx123_4
      try clear p123
      try clear p2
      try clear q123
      obtain ⟨kq, x70_12, rfl, HA, HJ12, HO_5, BK108, BK122, HB⟩ := hcut
      cases kq with
      | zero => exact absurd HA.out (by simp [cupellaw20_TargetBack.j1])
      | succ kj12 =>
       have H := HA.out
       clear HA
       simp only [cupellaw20_TargetBack.j1] at H
       by_cases c29 : x70_12 = true
       ·subst c29
        rw [if_pos rfl] at H
        exact absurd H (by simp)
       replace c29 := Bool.eq_false_iff.mpr c29
       subst c29
       rw [if_neg Bool.false_ne_true] at H
       obtain ⟨y124, hy124⟩ : ∃ y_ : List (S26), y_ = (([(⟨t115, t116, t117, t118, t119⟩ : S26)] : List (S26))) := ⟨_, rfl⟩
       replace H : ((target_Encode.f kj12 y124).bind fun bt127 => (if bt127.2 = 0 then (if 0 ≤ x7_1 then (if x7_1 ≤ t120 then (if t120 ≤ (t110.length : Int) then ((cupellaw20_sameWords.f kj12 bt127.1 ((t110.take (t120 : Int).toNat).drop (x7_1 : Int).toNat)).bind fun t135 => (cupellaw20_TargetBack.j2 kj12 l0 t110 x8_1 t120 bt127.1 (!t135) a1_0 a1_1 a1_2 a1_3 a1_4 t115 t116 t117 t118 t119)) else (none)) else (none)) else (none)) else (cupellaw20_TargetBack.j2 kj12 l0 t110 x8_1 t120 bt127.1 true a1_0 a1_1 a1_2 a1_3 a1_4 t115 t116 t117 t118 t119))) = some r := by first | (rw [hy124]; with_reducible exact H) | (have H2_ := (Option.bind_some _ _).symm.trans H; rw [hy124]; with_reducible exact H2_) | (have H2_ := (Option.bind_some _ _).symm.trans H; with_reducible exact H2_) | with_reducible exact H | (rw [hy124]; exact H) | exact H
       have Ny124 := Aside0.mk hy124
       clear hy124
       obtain ⟨⟨t127, t128⟩, A30, H⟩ := bsA_ H
       try dsimp only at H
       have HC31 := Aside0.mk H
       clear H
       have hnb32 := NB122_108.out
       have hnc32 := NB108_122.out
       have hcz33_0 : wc.cell? ⟨gb122, 0, none⟩ = some (.int .i64 t115) := (blk_cell BK122.out 0).trans rfl
       have hcz33_1 : wc.cell? ⟨gb122, 1, none⟩ = some (.int .i64 t116) := (blk_cell BK122.out 1).trans rfl
       have hcz33_2 : wc.cell? ⟨gb122, 2, none⟩ = some (.int .i64 t117) := (blk_cell BK122.out 2).trans rfl
       have hcz33_3 : wc.cell? ⟨gb122, 3, none⟩ = some (.int .i64 t118) := (blk_cell BK122.out 3).trans rfl
       have hcz33_4 : wc.cell? ⟨gb122, 4, none⟩ = some (.int .i64 t119) := (blk_cell BK122.out 4).trans rfl
       have hfz33_0 := blk_frozen BK122.out 0
       have hfz33_1 := blk_frozen BK122.out 1
       have hfz33_2 := blk_frozen BK122.out 2
       have hfz33_3 := blk_frozen BK122.out 3
       have hfz33_4 := blk_frozen BK122.out 4
       go_upto_region 14 with (first | ((with_reducible refine gate_dst (N := 73) rfl ?_); (try (refine gate_guard (by rfl) ?_; dsimp only)); refine Kd.R_lit k26 _ 26 ?hg (N := 73) ?hd (xs := ([(⟨t115, t116, t117, t118, t119⟩ : S26)] : List (S26))) (inner := [.int .i64 t115, .int .i64 t116, .int .i64 t117, .int .i64 t118, .int .i64 t119]) (ok := fun _ => True) (okp := fun _ => True) ?hr ?hp (fun _ hk => hk) trivial (Below.refl _ _) (Nat.le_refl _) (by simp) ?_; (case hd => rfl); (case hg => rfl); (case hr => exact ts19_); (case hp => exact ts33_); intro v125 w34 ho35 hb hg_ hnew_; clear hg_ hnew_; (first | rw [← Ny124.out] at ho35 | (simp only [Int.reduceToNat] at ho35; rw [← Ny124.out] at ho35)); replace HO_5 := Aside0.mk (Kd.R_below (ts25_ HO_5.out) hb); have HO126 := Aside0.mk (Kd.R_lower (Kd.R_newB (Kd.R_newB ho35 (g := gb108) (o := .cells #[.int .i64 a1_0, .int .i64 a1_1, .int .i64 a1_2, .int .i64 a1_3, .int .i64 a1_4] 26 (0, 0)) (ts18_ BK108.out)) (g := gb122) (o := .cells #[.int .i64 t115, .int .i64 t116, .int .i64 t117, .int .i64 t118, .int .i64 t119] 26 (0, 0)) (ts18_ BK122.out)) (below_size (ts32_ HB.out GE108.out GE122.out))); replace BK108 := Aside0.mk (blk_below (g := gb108) (o := .cells #[.int .i64 a1_0, .int .i64 a1_1, .int .i64 a1_2, .int .i64 a1_3, .int .i64 a1_4] 26 (0, 0)) (ts18_ BK108.out) hb); replace BK122 := Aside0.mk (blk_below (g := gb122) (o := .cells #[.int .i64 t115, .int .i64 t116, .int .i64 t117, .int .i64 t118, .int .i64 t119] 26 (0, 0)) (ts18_ BK122.out) hb); replace HB := Aside0.mk (below_step (ts32_ HB.out GE108.out GE122.out) hb); clear hb ho35; obtain ⟨Ao36, co36, eo36⟩ := Kd.R_slice HO126.out; subst eo36) | (go_at_call 12; (with_reducible refine (target_Encode.calls kj12 _ _ y124 t127 t128 _ ?side1 ?side2 A30.out).mono ?_); (case side1 => exact ts30_ HO126.out); (case side2 => exact ts48_ HO126.out); rintro e w37 ⟨v129, rfl, ho0, hb⟩; replace HO126 := Aside0.mk (Kd.R_below (ts25_ HO126.out) hb); have HO130 := Aside0.mk (Kd.R_lower (Kd.R_new' ho0 (Kd.R_lt (ts25_ HO_5.out))) (below_size (ts32_ HB.out GE108.out GE122.out))); replace HO_5 := Aside0.mk (Kd.R_elder' (ts25_ HO_5.out) (Kd.R_base ho0) hb); replace BK108 := Aside0.mk (blk_below (g := gb108) (o := .cells #[.int .i64 a1_0, .int .i64 a1_1, .int .i64 a1_2, .int .i64 a1_3, .int .i64 a1_4] 26 (0, 0)) (ts18_ BK108.out) hb); replace BK122 := Aside0.mk (blk_below (g := gb122) (o := .cells #[.int .i64 t115, .int .i64 t116, .int .i64 t117, .int .i64 t118, .int .i64 t119] 26 (0, 0)) (ts18_ BK122.out) hb); replace HB := Aside0.mk (below_step (ts32_ HB.out GE108.out GE122.out) hb); clear hb; (try clear ho0)))
       repeat (go_quiet (first | ((with_reducible refine gate_dst (N := 73) rfl ?_); (try (refine gate_guard (by rfl) ?_; dsimp only)); refine Kd.R_lit k26 _ 26 ?hg (N := 73) ?hd (xs := ([(⟨t115, t116, t117, t118, t119⟩ : S26)] : List (S26))) (inner := [.int .i64 t115, .int .i64 t116, .int .i64 t117, .int .i64 t118, .int .i64 t119]) (ok := fun _ => True) (okp := fun _ => True) ?hr ?hp (fun _ hk => hk) trivial (Below.refl _ _) (Nat.le_refl _) (by simp) ?_; (case hd => rfl); (case hg => rfl); (case hr => exact ts19_); (case hp => exact ts33_); intro v125 w34 ho35 hb hg_ hnew_; clear hg_ hnew_; (first | rw [← Ny124.out] at ho35 | (simp only [Int.reduceToNat] at ho35; rw [← Ny124.out] at ho35)); replace HO_5 := Aside0.mk (Kd.R_below (ts25_ HO_5.out) hb); have HO126 := Aside0.mk (Kd.R_lower (Kd.R_newB (Kd.R_newB ho35 (g := gb108) (o := .cells #[.int .i64 a1_0, .int .i64 a1_1, .int .i64 a1_2, .int .i64 a1_3, .int .i64 a1_4] 26 (0, 0)) (ts18_ BK108.out)) (g := gb122) (o := .cells #[.int .i64 t115, .int .i64 t116, .int .i64 t117, .int .i64 t118, .int .i64 t119] 26 (0, 0)) (ts18_ BK122.out)) (below_size (ts32_ HB.out GE108.out GE122.out))); replace BK108 := Aside0.mk (blk_below (g := gb108) (o := .cells #[.int .i64 a1_0, .int .i64 a1_1, .int .i64 a1_2, .int .i64 a1_3, .int .i64 a1_4] 26 (0, 0)) (ts18_ BK108.out) hb); replace BK122 := Aside0.mk (blk_below (g := gb122) (o := .cells #[.int .i64 t115, .int .i64 t116, .int .i64 t117, .int .i64 t118, .int .i64 t119] 26 (0, 0)) (ts18_ BK122.out) hb); replace HB := Aside0.mk (below_step (ts32_ HB.out GE108.out GE122.out) hb); clear hb ho35; obtain ⟨Ao36, co36, eo36⟩ := Kd.R_slice HO126.out; subst eo36) | (go_at_call 12; (with_reducible refine (target_Encode.calls kj12 _ _ y124 t127 t128 _ ?side1 ?side2 A30.out).mono ?_); (case side1 => exact ts30_ HO126.out); (case side2 => exact ts48_ HO126.out); rintro e w37 ⟨v129, rfl, ho0, hb⟩; replace HO126 := Aside0.mk (Kd.R_below (ts25_ HO126.out) hb); have HO130 := Aside0.mk (Kd.R_lower (Kd.R_new' ho0 (Kd.R_lt (ts25_ HO_5.out))) (below_size (ts32_ HB.out GE108.out GE122.out))); replace HO_5 := Aside0.mk (Kd.R_elder' (ts25_ HO_5.out) (Kd.R_base ho0) hb); replace BK108 := Aside0.mk (blk_below (g := gb108) (o := .cells #[.int .i64 a1_0, .int .i64 a1_1, .int .i64 a1_2, .int .i64 a1_3, .int .i64 a1_4] 26 (0, 0)) (ts18_ BK108.out) hb); replace BK122 := Aside0.mk (blk_below (g := gb122) (o := .cells #[.int .i64 t115, .int .i64 t116, .int .i64 t117, .int .i64 t118, .int .i64 t119] 26 (0, 0)) (ts18_ BK122.out) hb); replace HB := Aside0.mk (below_step (ts32_ HB.out GE108.out GE122.out) hb); clear hb; (try clear ho0))); go_upto_region 14 with (first | ((with_reducible refine gate_dst (N := 73) rfl ?_); (try (refine gate_guard (by rfl) ?_; dsimp only)); refine Kd.R_lit k26 _ 26 ?hg (N := 73) ?hd (xs := ([(⟨t115, t116, t117, t118, t119⟩ : S26)] : List (S26))) (inner := [.int .i64 t115, .int .i64 t116, .int .i64 t117, .int .i64 t118, .int .i64 t119]) (ok := fun _ => True) (okp := fun _ => True) ?hr ?hp (fun _ hk => hk) trivial (Below.refl _ _) (Nat.le_refl _) (by simp) ?_; (case hd => rfl); (case hg => rfl); (case hr => exact ts19_); (case hp => exact ts33_); intro v125 w34 ho35 hb hg_ hnew_; clear hg_ hnew_; (first | rw [← Ny124.out] at ho35 | (simp only [Int.reduceToNat] at ho35; rw [← Ny124.out] at ho35)); replace HO_5 := Aside0.mk (Kd.R_below (ts25_ HO_5.out) hb); have HO126 := Aside0.mk (Kd.R_lower (Kd.R_newB (Kd.R_newB ho35 (g := gb108) (o := .cells #[.int .i64 a1_0, .int .i64 a1_1, .int .i64 a1_2, .int .i64 a1_3, .int .i64 a1_4] 26 (0, 0)) (ts18_ BK108.out)) (g := gb122) (o := .cells #[.int .i64 t115, .int .i64 t116, .int .i64 t117, .int .i64 t118, .int .i64 t119] 26 (0, 0)) (ts18_ BK122.out)) (below_size (ts32_ HB.out GE108.out GE122.out))); replace BK108 := Aside0.mk (blk_below (g := gb108) (o := .cells #[.int .i64 a1_0, .int .i64 a1_1, .int .i64 a1_2, .int .i64 a1_3, .int .i64 a1_4] 26 (0, 0)) (ts18_ BK108.out) hb); replace BK122 := Aside0.mk (blk_below (g := gb122) (o := .cells #[.int .i64 t115, .int .i64 t116, .int .i64 t117, .int .i64 t118, .int .i64 t119] 26 (0, 0)) (ts18_ BK122.out) hb); replace HB := Aside0.mk (below_step (ts32_ HB.out GE108.out GE122.out) hb); clear hb ho35; obtain ⟨Ao36, co36, eo36⟩ := Kd.R_slice HO126.out; subst eo36) | (go_at_call 12; (with_reducible refine (target_Encode.calls kj12 _ _ y124 t127 t128 _ ?side1 ?side2 A30.out).mono ?_); (case side1 => exact ts30_ HO126.out); (case side2 => exact ts48_ HO126.out); rintro e w37 ⟨v129, rfl, ho0, hb⟩; replace HO126 := Aside0.mk (Kd.R_below (ts25_ HO126.out) hb); have HO130 := Aside0.mk (Kd.R_lower (Kd.R_new' ho0 (Kd.R_lt (ts25_ HO_5.out))) (below_size (ts32_ HB.out GE108.out GE122.out))); replace HO_5 := Aside0.mk (Kd.R_elder' (ts25_ HO_5.out) (Kd.R_base ho0) hb); replace BK108 := Aside0.mk (blk_below (g := gb108) (o := .cells #[.int .i64 a1_0, .int .i64 a1_1, .int .i64 a1_2, .int .i64 a1_3, .int .i64 a1_4] 26 (0, 0)) (ts18_ BK108.out) hb); replace BK122 := Aside0.mk (blk_below (g := gb122) (o := .cells #[.int .i64 t115, .int .i64 t116, .int .i64 t117, .int .i64 t118, .int .i64 t119] 26 (0, 0)) (ts18_ BK122.out) hb); replace HB := Aside0.mk (below_step (ts32_ HB.out GE108.out GE122.out) hb); clear hb; (try clear ho0))))
       (try simp only [Act.put, List.setIfInBounds_toArray, List.set_cons_zero, List.set_cons_succ])
       go_cut [87] (fun v87 wc => ∃ (kq : Nat) (x87_30 : Bool), v87 = .bool x87_30 ∧ Aside0 (cupellaw20_TargetBack.j2 kq l0 t110 x8_1 t120 t127 x87_30 a1_0 a1_1 a1_2 a1_3 a1_4 t115 t116 t117 t118 t119 = some r) ∧ Aside0 (kq ≤ kj12) ∧ Aside0 (Kd.R (Kd.int .u64) 48 wc w.heap.size (fun k_ => some k_ ≠ (v129 : Value).ownBlock) (.slice Ao14 t110.length co14) t110) ∧ Aside0 (Kd.R (Kd.int .u64) 48 wc w.heap.size (fun k_ => some k_ ≠ ((.slice Ao14 t110.length co14) : Value).ownBlock) v129 t127) ∧ Aside0 (wc.heap[gb108]? = some (.cells #[.int .i64 a1_0, .int .i64 a1_1, .int .i64 a1_2, .int .i64 a1_3, .int .i64 a1_4] 26 (0, 0))) ∧ Aside0 (wc.heap[gb122]? = some (.cells #[.int .i64 t115, .int .i64 t116, .int .i64 t117, .int .i64 t118, .int .i64 t119] 26 (0, 0))) ∧ Aside0 (Below w.heap.size w wc))
       case first =>
        have H := HC31.out
        clear HC31
        by_cases c38 : t128 = 0
        ·rw [if_pos c38] at H
         have c38b0 : (t128 == 0) = true := beq_iff_eq.mpr c38
         have c38b1 : (t128 != 0) = false := bne_eq_false_iff_eq.mpr c38
         clear c38
         (first | rw [c38b0] | (simp only [i64_w, i32_w]; rw [c38b0]) | skip)
         by_cases c39 : 0 ≤ x7_1
         ·rw [if_pos c39] at H
          have c39b0 := eq_true c39
          have c39b1 : decide (0 ≤ x7_1) = true := decide_eq_true c39
          clear c39
          by_cases c40 : x7_1 ≤ t120
          ·rw [if_pos c40] at H
           have c40b0 := eq_true c40
           have c40b1 : decide (x7_1 ≤ t120) = true := decide_eq_true c40
           clear c40
           by_cases c41 : t120 ≤ (t110.length : Int)
           ·rw [if_pos c41] at H
            have c41b0 := eq_true c41
            have c41b1 : decide (t120 ≤ (t110.length : Int)) = true := decide_eq_true c41
            clear c41
            obtain ⟨y131, hy131⟩ : ∃ y_ : List Int, y_ = ((t110.take (t120 : Int).toNat).drop (x7_1 : Int).toNat) := ⟨_, rfl⟩
            replace H : ((cupellaw20_sameWords.f kj12 t127 y131).bind fun t135 => (cupellaw20_TargetBack.j2 kj12 l0 t110 x8_1 t120 t127 (!t135) a1_0 a1_1 a1_2 a1_3 a1_4 t115 t116 t117 t118 t119)) = some r := by first | (rw [hy131]; with_reducible exact H) | (have H2_ := (Option.bind_some _ _).symm.trans H; rw [hy131]; with_reducible exact H2_) | (have H2_ := (Option.bind_some _ _).symm.trans H; with_reducible exact H2_) | with_reducible exact H | (rw [hy131]; exact H) | exact H
            have Ny131 := Aside0.mk hy131
            clear hy131
            obtain ⟨t135, A42, H⟩ := bsA_ H
            try dsimp only at H
            have H' := Aside0.mk H
            clear H
            have q43 : (t120 : Int) ≤ ((t110.length : Int) : Int) := of_decide_eq_true ts31_
            obtain ⟨i043, hi043, _, hsz43, _⟩ := info_parts info48
            have hroom43 : t110.length ≤ co14 := (Kd.R_reads' HO_5.out).2.1
            have hC43 : Kd.C (Kd.int .u64) _ Ao14 t110.length t110 := (Kd.R_reads' HO_5.out).2.2
            have ql43 : (x7_1 : Int) ≤ (t120 : Int) := of_decide_eq_true ts31_
            have q043 : (0 : Int) ≤ (x7_1 : Int) := of_decide_eq_true ts31_
            have hcut43 := cut_mid (P := Tryd.prog) 27 48 .i64 .i64 Tryd.underlying27 hi043 1 hsz43 Ao14 t110.length co14 x7_1 t120 q043 ql43 q43 hroom43
            have hr43 := Kd.C_mid (lo := (x7_1 : Int).toNat) (hi := (t120 : Int).toNat) (c := co14) hC43 (by omega) (by omega) hroom43
            obtain ⟨A43, hA43⟩ : ∃ A1, A1 = (if co14 = (x7_1 : Int).toNat then Ao14 else (Ao14 : Option Addr).map (·.add ((x7_1 : Int).toNat * 1))) := ⟨_, rfl⟩
            obtain ⟨c43, hc43⟩ : ∃ c1, c1 = co14 - (x7_1 : Int).toNat := ⟨_, rfl⟩
            have hy43 : y131.length = (t120 : Int).toNat - (x7_1 : Int).toNat := (by rw [Ny131.out, List.length_drop, List.length_take] <;> omega)
            rw [show ((t110).take (t120 : Int).toNat).drop (x7_1 : Int).toNat = y131 from Ny131.out.symm] at hr43
            replace hr43 : Kd.C (Kd.int .u64) _ A43 y131.length y131 := (by rw [hA43]; exact hr43)
            rw [← hy43, ← hA43, ← hc43] at hcut43
            have HR134 := Aside0.mk hr43
            have HC134 := Aside0.mk (show y131.length ≤ c43 from by rw [hy43, hc43]; exact Nat.sub_le_sub_right (Nat.le_trans (by omega) hroom43) _)
            clear hr43 hC43 hroom43 hi043 hsz43 hc43
            have KY43 := Aside0.mk hy43
            have KA43 := Aside0.mk hA43
            clear hy43 hA43
            have KL43 := Aside0.mk (show (t120 : Int).toNat ≤ t110.length from by omega)
            have KM43 := Aside0.mk (show (x7_1 : Int).toNat ≤ (t120 : Int).toNat from by omega)
            replace q43 := eq_true q43
            obtain ⟨Ao44, co44, eo44⟩ := Kd.R_slice HO130.out
            subst eo44
            go_wp2_with (first | (go_at_call 14; (with_reducible refine (cupellaw20_sameWords.calls kj12 _ _ t127 _ _ y131 t135 _ ?side1 ?side2 ?side3 ?side4 A42.out).mono ?_); (case side1 => exact ts30_ HO130.out); (case side2 => exact ts48_ HO130.out); (case side3 => exact ts53_ HR134.out); (case side4 => exact HC134.out); rintro e w' ⟨rfl, ⟨nd, rfl⟩⟩; (try first | exact ⟨rfl, _, World.drewN_drewN _ _ _⟩ | exact ⟨rfl, _, Eq.trans (World.drewN_drewN _ _ _) (congrArg (World.drewN _) (Nat.add_assoc _ _ _))⟩)))
            repeat (go_quiet (first | (go_at_call 14; (with_reducible refine (cupellaw20_sameWords.calls kj12 _ _ t127 _ _ y131 t135 _ ?side1 ?side2 ?side3 ?side4 A42.out).mono ?_); (case side1 => exact ts30_ HO130.out); (case side2 => exact ts48_ HO130.out); (case side3 => exact ts53_ HR134.out); (case side4 => exact HC134.out); rintro e w' ⟨rfl, ⟨nd, rfl⟩⟩; (try first | exact ⟨rfl, _, World.drewN_drewN _ _ _⟩ | exact ⟨rfl, _, Eq.trans (World.drewN_drewN _ _ _) (congrArg (World.drewN _) (Nat.add_assoc _ _ _))⟩))); try go_wp2_with (first | (go_at_call 14; (with_reducible refine (cupellaw20_sameWords.calls kj12 _ _ t127 _ _ y131 t135 _ ?side1 ?side2 ?side3 ?side4 A42.out).mono ?_); (case side1 => exact ts30_ HO130.out); (case side2 => exact ts48_ HO130.out); (case side3 => exact ts53_ HR134.out); (case side4 => exact HC134.out); rintro e w' ⟨rfl, ⟨nd, rfl⟩⟩; (try first | exact ⟨rfl, _, World.drewN_drewN _ _ _⟩ | exact ⟨rfl, _, Eq.trans (World.drewN_drewN _ _ _) (congrArg (World.drewN _) (Nat.add_assoc _ _ _))⟩))))
            go_meet
            case rel => exact ⟨_, (!t135), ts45_, H', ⟨by have := HK1.out; have := HJ12.out; first | omega | exact Nat.le_refl _⟩, ⟨ts40_ HO_5.out⟩, ⟨ts40_ HO130.out⟩, ⟨ts18_ BK108.out⟩, ⟨ts18_ BK122.out⟩, ⟨ts32_ HB.out GE108.out GE122.out⟩⟩
           rw [if_neg c41] at H
           exact absurd H (by simp)
          rw [if_neg c40] at H
          exact absurd H (by simp)
         rw [if_neg c39] at H
         exact absurd H (by simp)
        rw [if_neg c38] at H
        have c38b0 : (t128 == 0) = false := beq_eq_false_iff_ne.mpr c38
        have c38b1 : (t128 != 0) = true := bne_iff_ne.mpr c38
        (first | rw [c38b0] | (simp only [i64_w, i32_w]; rw [c38b0]) | skip)
        have H' := Aside0.mk H
        clear H
        go_wp2
        repeat (go_quiet (fail); try go_wp2)
        go_meet
        case rel => exact ⟨_, (true), ts45_, H', ⟨by have := HK1.out; have := HJ12.out; first | omega | exact Nat.le_refl _⟩, ⟨ts40_ HO_5.out⟩, ⟨ts40_ HO130.out⟩, ⟨ts18_ BK108.out⟩, ⟨ts18_ BK122.out⟩, ⟨ts32_ HB.out GE108.out GE122.out⟩⟩
       case rest =>
        clear HC31
        try clear c1
        try clear p1
        try clear q1
        try clear hx1
        try clear c2
        try clear p2
        try clear c3
        try clear c3b0
        try clear c3b1
        try clear c4
        try clear q4
        try clear c5
        try clear c7
        try clear c8
        try clear c8b0
        try clear c8b1
        try clear c11
        try clear c11b0
        try clear p12
        try clear q12
        try clear hx12
        try clear c17
        try clear c19
        try clear c19b0
        try clear c19b1
        try clear c20
        try clear c20b0
        try clear c21
        try clear c21b0
        try clear c22
        try clear c24
        try clear c24b0
        try clear c25
        try clear c27
        try clear c29
        try clear c32
        try clear c38
        try clear c38b0
        try clear c38b1
        try clear c39
        try clear c39b0
        try clear c39b1
        try clear c40
        try clear c40b0
        try clear c40b1
        try clear c41
        try clear c41b0
        try clear c41b1
        try clear c43
        try clear q43
        try clear hcz18_0
        try clear hcz18_1
        try clear hcz18_2
        try clear hcz18_3
        try clear hcz18_4
        try clear hcz23_0
        try clear hcz23_1
        try clear hcz23_2
        try clear hcz23_3
        try clear hcz23_4
        try clear hcz26_0
        try clear hcz26_1
        try clear hcz26_2
        try clear hcz26_3
        try clear hcz26_4
        try clear hcz28_0
        try clear hcz28_1
        try clear hcz28_2
        try clear hcz28_3
        try clear hcz28_4
        try clear hcz33_0
        try clear hcz33_1
        try clear hcz33_2
        try clear hcz33_3
        try clear hcz33_4
        try clear hfz18_0
        try clear hfz18_1
        try clear hfz18_2
        try clear hfz18_3
        try clear hfz18_4
        try clear hfz23_0
        try clear hfz23_1
        try clear hfz23_2
        try clear hfz23_3
        try clear hfz23_4
        try clear hfz26_0
        try clear hfz26_1
        try clear hfz26_2
        try clear hfz26_3
        try clear hfz26_4
        try clear hfz28_0
        try clear hfz28_1
        try clear hfz28_2
        try clear hfz28_3
        try clear hfz28_4
        try clear hfz33_0
        try clear hfz33_1
        try clear hfz33_2
        try clear hfz33_3
        try clear hfz33_4
        try clear hx123_0
        try clear hx123_1
        try clear hx123_2
        try clear hx123_3
        try clear hx123_4
        try clear p1
        try clear p12
        try clear p123
        try clear p2
        try clear q043
        try clear q1
        try clear q12
        try clear q123
        try clear q43
        obtain ⟨kq, x87_30, rfl, HA, HJ30, HO_5, HO_12, BK108, BK122, HB⟩ := hcut
        cases kq with
        | zero => exact absurd HA.out (by simp [cupellaw20_TargetBack.j2])
        | succ kj30 =>
         have H := HA.out
         clear HA
         simp only [cupellaw20_TargetBack.j2] at H
         by_cases c45 : x87_30 = true
         ·subst c45
          rw [if_pos rfl] at H
          exact absurd H (by simp)
         replace c45 := Bool.eq_false_iff.mpr c45
         subst c45
         rw [if_neg Bool.false_ne_true] at H
         obtain ⟨y136, hy136⟩ : ∃ y_ : List (S26), y_ = (([(⟨a1_0, a1_1, a1_2, a1_3, a1_4⟩ : S26)] : List (S26))) := ⟨_, rfl⟩
         replace H : ((target_Encode.f kj30 y136).bind fun bt139 => (if bt139.2 = 0 then ((cupellaw20_sameWords.f kj30 t127 bt139.1).bind fun t143 => (if (t143 != (a1_0 == t115 && (a1_1 == t116 && (a1_2 == t117 && (a1_3 == t118 && (a1_4 == t119)))))) = true then (none) else (cupellaw20_TargetBack.l0 kj30 l0 t110 t120 (wrap64 (x8_1 + 1)) a1_0 a1_1 a1_2 a1_3 a1_4))) else (cupellaw20_TargetBack.l0 kj30 l0 t110 t120 (wrap64 (x8_1 + 1)) a1_0 a1_1 a1_2 a1_3 a1_4))) = some r := by first | (rw [hy136]; with_reducible exact H) | (have H2_ := (Option.bind_some _ _).symm.trans H; rw [hy136]; with_reducible exact H2_) | (have H2_ := (Option.bind_some _ _).symm.trans H; with_reducible exact H2_) | with_reducible exact H | (rw [hy136]; exact H) | exact H
         have Ny136 := Aside0.mk hy136
         clear hy136
         obtain ⟨⟨t139, t140⟩, A46, H⟩ := bsA_ H
         try dsimp only at H
         by_cases c47 : t140 = 0
         ·rw [if_pos c47] at H
          have c47b0 : (t140 == 0) = true := beq_iff_eq.mpr c47
          have c47b1 : (t140 != 0) = false := bne_eq_false_iff_eq.mpr c47
          clear c47
          obtain ⟨t143, A48, H⟩ := bsA_ H
          try dsimp only at H
          by_cases c49 : (t143 != (a1_0 == t115 && (a1_1 == t116 && (a1_2 == t117 && (a1_3 == t118 && (a1_4 == t119)))))) = true
          ·rw [if_pos c49] at H
           exact absurd H (by simp)
          rw [if_neg c49] at H
          have c49b0 : (t143 != (a1_0 == t115 && (a1_1 == t116 && (a1_2 == t117 && (a1_3 == t118 && (a1_4 == t119)))))) = false := by simpa using c49
          (try (have c49b1 : decide (t143 = (a1_0 == t115 && (a1_1 == t116 && (a1_2 == t117 && (a1_3 == t118 && (a1_4 == t119)))))) = true := by simpa using c49))
          (try (have c49b2 : (t143 == (a1_0 == t115 && (a1_1 == t116 && (a1_2 == t117 && (a1_3 == t118 && (a1_4 == t119)))))) = true := by simpa using c49))
          clear c49
          have H' := Aside0.mk H
          clear H
          have hnb50 := NB108_122.out
          have hnc50 := NB122_108.out
          have hcz51_0 : wc.cell? ⟨gb108, 0, none⟩ = some (.int .i64 a1_0) := (blk_cell BK108.out 0).trans rfl
          have hcz51_1 : wc.cell? ⟨gb108, 1, none⟩ = some (.int .i64 a1_1) := (blk_cell BK108.out 1).trans rfl
          have hcz51_2 : wc.cell? ⟨gb108, 2, none⟩ = some (.int .i64 a1_2) := (blk_cell BK108.out 2).trans rfl
          have hcz51_3 : wc.cell? ⟨gb108, 3, none⟩ = some (.int .i64 a1_3) := (blk_cell BK108.out 3).trans rfl
          have hcz51_4 : wc.cell? ⟨gb108, 4, none⟩ = some (.int .i64 a1_4) := (blk_cell BK108.out 4).trans rfl
          have hfz51_0 := blk_frozen BK108.out 0
          have hfz51_1 := blk_frozen BK108.out 1
          have hfz51_2 := blk_frozen BK108.out 2
          have hfz51_3 := blk_frozen BK108.out 3
          have hfz51_4 := blk_frozen BK108.out 4
          go_wp2_with (first | ((with_reducible refine gate_dst (N := 90) rfl ?_); (try (refine gate_guard (by rfl) ?_; dsimp only)); refine Kd.R_lit k26 _ 26 ?hg (N := 90) ?hd (xs := ([(⟨a1_0, a1_1, a1_2, a1_3, a1_4⟩ : S26)] : List (S26))) (inner := [.int .i64 a1_0, .int .i64 a1_1, .int .i64 a1_2, .int .i64 a1_3, .int .i64 a1_4]) (ok := fun _ => True) (okp := fun _ => True) ?hr ?hp (fun _ hk => hk) trivial (Below.refl _ _) (Nat.le_refl _) (by simp) ?_; (case hd => rfl); (case hg => rfl); (case hr => exact ts19_); (case hp => exact ts9_); intro v137 w52 ho53 hb hg_ hnew_; clear hg_ hnew_; (first | rw [← Ny136.out] at ho53 | (simp only [Int.reduceToNat] at ho53; rw [← Ny136.out] at ho53)); replace HO_5 := Aside0.mk (Kd.R_below (ts25_ HO_5.out) hb); replace HO_12 := Aside0.mk (Kd.R_below (ts25_ HO_12.out) hb); have HO138 := Aside0.mk (Kd.R_lower (Kd.R_newB (Kd.R_newB ho53 (g := gb108) (o := .cells #[.int .i64 a1_0, .int .i64 a1_1, .int .i64 a1_2, .int .i64 a1_3, .int .i64 a1_4] 26 (0, 0)) (ts18_ BK108.out)) (g := gb122) (o := .cells #[.int .i64 t115, .int .i64 t116, .int .i64 t117, .int .i64 t118, .int .i64 t119] 26 (0, 0)) (ts18_ BK122.out)) (below_size (ts32_ HB.out GE108.out GE122.out))); replace BK108 := Aside0.mk (blk_below (g := gb108) (o := .cells #[.int .i64 a1_0, .int .i64 a1_1, .int .i64 a1_2, .int .i64 a1_3, .int .i64 a1_4] 26 (0, 0)) (ts18_ BK108.out) hb); replace BK122 := Aside0.mk (blk_below (g := gb122) (o := .cells #[.int .i64 t115, .int .i64 t116, .int .i64 t117, .int .i64 t118, .int .i64 t119] 26 (0, 0)) (ts18_ BK122.out) hb); replace HB := Aside0.mk (below_step (ts32_ HB.out GE108.out GE122.out) hb); clear hb ho53; obtain ⟨Ao54, co54, eo54⟩ := Kd.R_slice HO138.out; subst eo54) | (go_at_call 12; (with_reducible refine (target_Encode.calls kj30 _ _ y136 t139 t140 _ ?side1 ?side2 A46.out).mono ?_); (case side1 => exact ts30_ HO138.out); (case side2 => exact ts48_ HO138.out); rintro e w55 ⟨v141, rfl, ho0, hb⟩; replace HO138 := Aside0.mk (Kd.R_below (ts25_ HO138.out) hb); have HO142 := Aside0.mk (Kd.R_lower (Kd.R_new' (Kd.R_new' ho0 (Kd.R_lt (ts25_ HO_5.out))) (Kd.R_lt (ts25_ HO_12.out))) (below_size (ts32_ HB.out GE108.out GE122.out))); replace HO_5 := Aside0.mk (Kd.R_elder' (ts25_ HO_5.out) (Kd.R_base ho0) hb); replace HO_12 := Aside0.mk (Kd.R_elder' (ts25_ HO_12.out) (Kd.R_base ho0) hb); replace BK108 := Aside0.mk (blk_below (g := gb108) (o := .cells #[.int .i64 a1_0, .int .i64 a1_1, .int .i64 a1_2, .int .i64 a1_3, .int .i64 a1_4] 26 (0, 0)) (ts18_ BK108.out) hb); replace BK122 := Aside0.mk (blk_below (g := gb122) (o := .cells #[.int .i64 t115, .int .i64 t116, .int .i64 t117, .int .i64 t118, .int .i64 t119] 26 (0, 0)) (ts18_ BK122.out) hb); replace HB := Aside0.mk (below_step (ts32_ HB.out GE108.out GE122.out) hb); clear hb; (try clear ho0); obtain ⟨Ao56, co56, eo56⟩ := Kd.R_slice HO_12.out; subst eo56; obtain ⟨Ao57, co57, eo57⟩ := Kd.R_slice HO142.out; subst eo57) | (go_at_call 14; (with_reducible refine (cupellaw20_sameWords.calls kj30 _ _ t127 _ _ t139 t143 _ ?side1 ?side2 ?side3 ?side4 A48.out).mono ?_); (case side1 => exact ts30_ HO_12.out); (case side2 => exact ts48_ HO_12.out); (case side3 => exact ts30_ HO142.out); (case side4 => exact ts48_ HO142.out); rintro e w' ⟨rfl, ⟨nd, rfl⟩⟩; (try first | exact ⟨rfl, _, World.drewN_drewN _ _ _⟩ | exact ⟨rfl, _, Eq.trans (World.drewN_drewN _ _ _) (congrArg (World.drewN _) (Nat.add_assoc _ _ _))⟩); have hcz58_0 : w55.cell? ⟨gb108, 0, none⟩ = some (.int .i64 a1_0) := (blk_cell BK108.out 0).trans rfl; have hcz58_1 : w55.cell? ⟨gb108, 1, none⟩ = some (.int .i64 a1_1) := (blk_cell BK108.out 1).trans rfl; have hcz58_2 : w55.cell? ⟨gb108, 2, none⟩ = some (.int .i64 a1_2) := (blk_cell BK108.out 2).trans rfl; have hcz58_3 : w55.cell? ⟨gb108, 3, none⟩ = some (.int .i64 a1_3) := (blk_cell BK108.out 3).trans rfl; have hcz58_4 : w55.cell? ⟨gb108, 4, none⟩ = some (.int .i64 a1_4) := (blk_cell BK108.out 4).trans rfl; have hfz58_0 := blk_frozen BK108.out 0; have hfz58_1 := blk_frozen BK108.out 1; have hfz58_2 := blk_frozen BK108.out 2; have hfz58_3 := blk_frozen BK108.out 3; have hfz58_4 := blk_frozen BK108.out 4; have hcz59_0 : w55.cell? ⟨gb122, 0, none⟩ = some (.int .i64 t115) := (blk_cell BK122.out 0).trans rfl; have hcz59_1 : w55.cell? ⟨gb122, 1, none⟩ = some (.int .i64 t116) := (blk_cell BK122.out 1).trans rfl; have hcz59_2 : w55.cell? ⟨gb122, 2, none⟩ = some (.int .i64 t117) := (blk_cell BK122.out 2).trans rfl; have hcz59_3 : w55.cell? ⟨gb122, 3, none⟩ = some (.int .i64 t118) := (blk_cell BK122.out 3).trans rfl; have hcz59_4 : w55.cell? ⟨gb122, 4, none⟩ = some (.int .i64 t119) := (blk_cell BK122.out 4).trans rfl; have hfz59_0 := blk_frozen BK122.out 0; have hfz59_1 := blk_frozen BK122.out 1; have hfz59_2 := blk_frozen BK122.out 2; have hfz59_3 := blk_frozen BK122.out 3; have hfz59_4 := blk_frozen BK122.out 4))
          repeat (go_quiet (first | ((with_reducible refine gate_dst (N := 90) rfl ?_); (try (refine gate_guard (by rfl) ?_; dsimp only)); refine Kd.R_lit k26 _ 26 ?hg (N := 90) ?hd (xs := ([(⟨a1_0, a1_1, a1_2, a1_3, a1_4⟩ : S26)] : List (S26))) (inner := [.int .i64 a1_0, .int .i64 a1_1, .int .i64 a1_2, .int .i64 a1_3, .int .i64 a1_4]) (ok := fun _ => True) (okp := fun _ => True) ?hr ?hp (fun _ hk => hk) trivial (Below.refl _ _) (Nat.le_refl _) (by simp) ?_; (case hd => rfl); (case hg => rfl); (case hr => exact ts19_); (case hp => exact ts9_); intro v137 w52 ho53 hb hg_ hnew_; clear hg_ hnew_; (first | rw [← Ny136.out] at ho53 | (simp only [Int.reduceToNat] at ho53; rw [← Ny136.out] at ho53)); replace HO_5 := Aside0.mk (Kd.R_below (ts25_ HO_5.out) hb); replace HO_12 := Aside0.mk (Kd.R_below (ts25_ HO_12.out) hb); have HO138 := Aside0.mk (Kd.R_lower (Kd.R_newB (Kd.R_newB ho53 (g := gb108) (o := .cells #[.int .i64 a1_0, .int .i64 a1_1, .int .i64 a1_2, .int .i64 a1_3, .int .i64 a1_4] 26 (0, 0)) (ts18_ BK108.out)) (g := gb122) (o := .cells #[.int .i64 t115, .int .i64 t116, .int .i64 t117, .int .i64 t118, .int .i64 t119] 26 (0, 0)) (ts18_ BK122.out)) (below_size (ts32_ HB.out GE108.out GE122.out))); replace BK108 := Aside0.mk (blk_below (g := gb108) (o := .cells #[.int .i64 a1_0, .int .i64 a1_1, .int .i64 a1_2, .int .i64 a1_3, .int .i64 a1_4] 26 (0, 0)) (ts18_ BK108.out) hb); replace BK122 := Aside0.mk (blk_below (g := gb122) (o := .cells #[.int .i64 t115, .int .i64 t116, .int .i64 t117, .int .i64 t118, .int .i64 t119] 26 (0, 0)) (ts18_ BK122.out) hb); replace HB := Aside0.mk (below_step (ts32_ HB.out GE108.out GE122.out) hb); clear hb ho53; obtain ⟨Ao54, co54, eo54⟩ := Kd.R_slice HO138.out; subst eo54) | (go_at_call 12; (with_reducible refine (target_Encode.calls kj30 _ _ y136 t139 t140 _ ?side1 ?side2 A46.out).mono ?_); (case side1 => exact ts30_ HO138.out); (case side2 => exact ts48_ HO138.out); rintro e w55 ⟨v141, rfl, ho0, hb⟩; replace HO138 := Aside0.mk (Kd.R_below (ts25_ HO138.out) hb); have HO142 := Aside0.mk (Kd.R_lower (Kd.R_new' (Kd.R_new' ho0 (Kd.R_lt (ts25_ HO_5.out))) (Kd.R_lt (ts25_ HO_12.out))) (below_size (ts32_ HB.out GE108.out GE122.out))); replace HO_5 := Aside0.mk (Kd.R_elder' (ts25_ HO_5.out) (Kd.R_base ho0) hb); replace HO_12 := Aside0.mk (Kd.R_elder' (ts25_ HO_12.out) (Kd.R_base ho0) hb); replace BK108 := Aside0.mk (blk_below (g := gb108) (o := .cells #[.int .i64 a1_0, .int .i64 a1_1, .int .i64 a1_2, .int .i64 a1_3, .int .i64 a1_4] 26 (0, 0)) (ts18_ BK108.out) hb); replace BK122 := Aside0.mk (blk_below (g := gb122) (o := .cells #[.int .i64 t115, .int .i64 t116, .int .i64 t117, .int .i64 t118, .int .i64 t119] 26 (0, 0)) (ts18_ BK122.out) hb); replace HB := Aside0.mk (below_step (ts32_ HB.out GE108.out GE122.out) hb); clear hb; (try clear ho0); obtain ⟨Ao56, co56, eo56⟩ := Kd.R_slice HO_12.out; subst eo56; obtain ⟨Ao57, co57, eo57⟩ := Kd.R_slice HO142.out; subst eo57) | (go_at_call 14; (with_reducible refine (cupellaw20_sameWords.calls kj30 _ _ t127 _ _ t139 t143 _ ?side1 ?side2 ?side3 ?side4 A48.out).mono ?_); (case side1 => exact ts30_ HO_12.out); (case side2 => exact ts48_ HO_12.out); (case side3 => exact ts30_ HO142.out); (case side4 => exact ts48_ HO142.out); rintro e w' ⟨rfl, ⟨nd, rfl⟩⟩; (try first | exact ⟨rfl, _, World.drewN_drewN _ _ _⟩ | exact ⟨rfl, _, Eq.trans (World.drewN_drewN _ _ _) (congrArg (World.drewN _) (Nat.add_assoc _ _ _))⟩); have hcz58_0 : w55.cell? ⟨gb108, 0, none⟩ = some (.int .i64 a1_0) := (blk_cell BK108.out 0).trans rfl; have hcz58_1 : w55.cell? ⟨gb108, 1, none⟩ = some (.int .i64 a1_1) := (blk_cell BK108.out 1).trans rfl; have hcz58_2 : w55.cell? ⟨gb108, 2, none⟩ = some (.int .i64 a1_2) := (blk_cell BK108.out 2).trans rfl; have hcz58_3 : w55.cell? ⟨gb108, 3, none⟩ = some (.int .i64 a1_3) := (blk_cell BK108.out 3).trans rfl; have hcz58_4 : w55.cell? ⟨gb108, 4, none⟩ = some (.int .i64 a1_4) := (blk_cell BK108.out 4).trans rfl; have hfz58_0 := blk_frozen BK108.out 0; have hfz58_1 := blk_frozen BK108.out 1; have hfz58_2 := blk_frozen BK108.out 2; have hfz58_3 := blk_frozen BK108.out 3; have hfz58_4 := blk_frozen BK108.out 4; have hcz59_0 : w55.cell? ⟨gb122, 0, none⟩ = some (.int .i64 t115) := (blk_cell BK122.out 0).trans rfl; have hcz59_1 : w55.cell? ⟨gb122, 1, none⟩ = some (.int .i64 t116) := (blk_cell BK122.out 1).trans rfl; have hcz59_2 : w55.cell? ⟨gb122, 2, none⟩ = some (.int .i64 t117) := (blk_cell BK122.out 2).trans rfl; have hcz59_3 : w55.cell? ⟨gb122, 3, none⟩ = some (.int .i64 t118) := (blk_cell BK122.out 3).trans rfl; have hcz59_4 : w55.cell? ⟨gb122, 4, none⟩ = some (.int .i64 t119) := (blk_cell BK122.out 4).trans rfl; have hfz59_0 := blk_frozen BK122.out 0; have hfz59_1 := blk_frozen BK122.out 1; have hfz59_2 := blk_frozen BK122.out 2; have hfz59_3 := blk_frozen BK122.out 3; have hfz59_4 := blk_frozen BK122.out 4)); try go_wp2_with (first | ((with_reducible refine gate_dst (N := 90) rfl ?_); (try (refine gate_guard (by rfl) ?_; dsimp only)); refine Kd.R_lit k26 _ 26 ?hg (N := 90) ?hd (xs := ([(⟨a1_0, a1_1, a1_2, a1_3, a1_4⟩ : S26)] : List (S26))) (inner := [.int .i64 a1_0, .int .i64 a1_1, .int .i64 a1_2, .int .i64 a1_3, .int .i64 a1_4]) (ok := fun _ => True) (okp := fun _ => True) ?hr ?hp (fun _ hk => hk) trivial (Below.refl _ _) (Nat.le_refl _) (by simp) ?_; (case hd => rfl); (case hg => rfl); (case hr => exact ts19_); (case hp => exact ts9_); intro v137 w52 ho53 hb hg_ hnew_; clear hg_ hnew_; (first | rw [← Ny136.out] at ho53 | (simp only [Int.reduceToNat] at ho53; rw [← Ny136.out] at ho53)); replace HO_5 := Aside0.mk (Kd.R_below (ts25_ HO_5.out) hb); replace HO_12 := Aside0.mk (Kd.R_below (ts25_ HO_12.out) hb); have HO138 := Aside0.mk (Kd.R_lower (Kd.R_newB (Kd.R_newB ho53 (g := gb108) (o := .cells #[.int .i64 a1_0, .int .i64 a1_1, .int .i64 a1_2, .int .i64 a1_3, .int .i64 a1_4] 26 (0, 0)) (ts18_ BK108.out)) (g := gb122) (o := .cells #[.int .i64 t115, .int .i64 t116, .int .i64 t117, .int .i64 t118, .int .i64 t119] 26 (0, 0)) (ts18_ BK122.out)) (below_size (ts32_ HB.out GE108.out GE122.out))); replace BK108 := Aside0.mk (blk_below (g := gb108) (o := .cells #[.int .i64 a1_0, .int .i64 a1_1, .int .i64 a1_2, .int .i64 a1_3, .int .i64 a1_4] 26 (0, 0)) (ts18_ BK108.out) hb); replace BK122 := Aside0.mk (blk_below (g := gb122) (o := .cells #[.int .i64 t115, .int .i64 t116, .int .i64 t117, .int .i64 t118, .int .i64 t119] 26 (0, 0)) (ts18_ BK122.out) hb); replace HB := Aside0.mk (below_step (ts32_ HB.out GE108.out GE122.out) hb); clear hb ho53; obtain ⟨Ao54, co54, eo54⟩ := Kd.R_slice HO138.out; subst eo54) | (go_at_call 12; (with_reducible refine (target_Encode.calls kj30 _ _ y136 t139 t140 _ ?side1 ?side2 A46.out).mono ?_); (case side1 => exact ts30_ HO138.out); (case side2 => exact ts48_ HO138.out); rintro e w55 ⟨v141, rfl, ho0, hb⟩; replace HO138 := Aside0.mk (Kd.R_below (ts25_ HO138.out) hb); have HO142 := Aside0.mk (Kd.R_lower (Kd.R_new' (Kd.R_new' ho0 (Kd.R_lt (ts25_ HO_5.out))) (Kd.R_lt (ts25_ HO_12.out))) (below_size (ts32_ HB.out GE108.out GE122.out))); replace HO_5 := Aside0.mk (Kd.R_elder' (ts25_ HO_5.out) (Kd.R_base ho0) hb); replace HO_12 := Aside0.mk (Kd.R_elder' (ts25_ HO_12.out) (Kd.R_base ho0) hb); replace BK108 := Aside0.mk (blk_below (g := gb108) (o := .cells #[.int .i64 a1_0, .int .i64 a1_1, .int .i64 a1_2, .int .i64 a1_3, .int .i64 a1_4] 26 (0, 0)) (ts18_ BK108.out) hb); replace BK122 := Aside0.mk (blk_below (g := gb122) (o := .cells #[.int .i64 t115, .int .i64 t116, .int .i64 t117, .int .i64 t118, .int .i64 t119] 26 (0, 0)) (ts18_ BK122.out) hb); replace HB := Aside0.mk (below_step (ts32_ HB.out GE108.out GE122.out) hb); clear hb; (try clear ho0); obtain ⟨Ao56, co56, eo56⟩ := Kd.R_slice HO_12.out; subst eo56; obtain ⟨Ao57, co57, eo57⟩ := Kd.R_slice HO142.out; subst eo57) | (go_at_call 14; (with_reducible refine (cupellaw20_sameWords.calls kj30 _ _ t127 _ _ t139 t143 _ ?side1 ?side2 ?side3 ?side4 A48.out).mono ?_); (case side1 => exact ts30_ HO_12.out); (case side2 => exact ts48_ HO_12.out); (case side3 => exact ts30_ HO142.out); (case side4 => exact ts48_ HO142.out); rintro e w' ⟨rfl, ⟨nd, rfl⟩⟩; (try first | exact ⟨rfl, _, World.drewN_drewN _ _ _⟩ | exact ⟨rfl, _, Eq.trans (World.drewN_drewN _ _ _) (congrArg (World.drewN _) (Nat.add_assoc _ _ _))⟩); have hcz58_0 : w55.cell? ⟨gb108, 0, none⟩ = some (.int .i64 a1_0) := (blk_cell BK108.out 0).trans rfl; have hcz58_1 : w55.cell? ⟨gb108, 1, none⟩ = some (.int .i64 a1_1) := (blk_cell BK108.out 1).trans rfl; have hcz58_2 : w55.cell? ⟨gb108, 2, none⟩ = some (.int .i64 a1_2) := (blk_cell BK108.out 2).trans rfl; have hcz58_3 : w55.cell? ⟨gb108, 3, none⟩ = some (.int .i64 a1_3) := (blk_cell BK108.out 3).trans rfl; have hcz58_4 : w55.cell? ⟨gb108, 4, none⟩ = some (.int .i64 a1_4) := (blk_cell BK108.out 4).trans rfl; have hfz58_0 := blk_frozen BK108.out 0; have hfz58_1 := blk_frozen BK108.out 1; have hfz58_2 := blk_frozen BK108.out 2; have hfz58_3 := blk_frozen BK108.out 3; have hfz58_4 := blk_frozen BK108.out 4; have hcz59_0 : w55.cell? ⟨gb122, 0, none⟩ = some (.int .i64 t115) := (blk_cell BK122.out 0).trans rfl; have hcz59_1 : w55.cell? ⟨gb122, 1, none⟩ = some (.int .i64 t116) := (blk_cell BK122.out 1).trans rfl; have hcz59_2 : w55.cell? ⟨gb122, 2, none⟩ = some (.int .i64 t117) := (blk_cell BK122.out 2).trans rfl; have hcz59_3 : w55.cell? ⟨gb122, 3, none⟩ = some (.int .i64 t118) := (blk_cell BK122.out 3).trans rfl; have hcz59_4 : w55.cell? ⟨gb122, 4, none⟩ = some (.int .i64 t119) := (blk_cell BK122.out 4).trans rfl; have hfz59_0 := blk_frozen BK122.out 0; have hfz59_1 := blk_frozen BK122.out 1; have hfz59_2 := blk_frozen BK122.out 2; have hfz59_3 := blk_frozen BK122.out 3; have hfz59_4 := blk_frozen BK122.out 4)))
          go_roundg kj30
          case measure => have := HK1.out; have := HJ12.out; have := HJ30.out; omega
          case rel => exact ⟨(t120), (wrap64 (x8_1 + 1)), ts45_, ts45_, H', ⟨by have := HK1.out; have := HJ12.out; have := HJ30.out; omega⟩, ⟨by (with_reducible repeat (first | apply Kd.R_alloc | apply Kd.R_drewN | apply Kd.R_drew)); exact Kd.R_mono HO_5.out (fun _ hk => trivial)⟩, ⟨ts18_ BK108.out⟩, ⟨ts32_ HB.out GE108.out GE122.out⟩⟩
         rw [if_neg c47] at H
         have c47b0 : (t140 == 0) = false := beq_eq_false_iff_ne.mpr c47
         have c47b1 : (t140 != 0) = true := bne_iff_ne.mpr c47
         have H' := Aside0.mk H
         clear H
         have hnb60 := NB108_122.out
         have hnc60 := NB122_108.out
         have hcz61_0 : wc.cell? ⟨gb108, 0, none⟩ = some (.int .i64 a1_0) := (blk_cell BK108.out 0).trans rfl
         have hcz61_1 : wc.cell? ⟨gb108, 1, none⟩ = some (.int .i64 a1_1) := (blk_cell BK108.out 1).trans rfl
         have hcz61_2 : wc.cell? ⟨gb108, 2, none⟩ = some (.int .i64 a1_2) := (blk_cell BK108.out 2).trans rfl
         have hcz61_3 : wc.cell? ⟨gb108, 3, none⟩ = some (.int .i64 a1_3) := (blk_cell BK108.out 3).trans rfl
         have hcz61_4 : wc.cell? ⟨gb108, 4, none⟩ = some (.int .i64 a1_4) := (blk_cell BK108.out 4).trans rfl
         have hfz61_0 := blk_frozen BK108.out 0
         have hfz61_1 := blk_frozen BK108.out 1
         have hfz61_2 := blk_frozen BK108.out 2
         have hfz61_3 := blk_frozen BK108.out 3
         have hfz61_4 := blk_frozen BK108.out 4
         go_wp2_with (first | ((with_reducible refine gate_dst (N := 90) rfl ?_); (try (refine gate_guard (by rfl) ?_; dsimp only)); refine Kd.R_lit k26 _ 26 ?hg (N := 90) ?hd (xs := ([(⟨a1_0, a1_1, a1_2, a1_3, a1_4⟩ : S26)] : List (S26))) (inner := [.int .i64 a1_0, .int .i64 a1_1, .int .i64 a1_2, .int .i64 a1_3, .int .i64 a1_4]) (ok := fun _ => True) (okp := fun _ => True) ?hr ?hp (fun _ hk => hk) trivial (Below.refl _ _) (Nat.le_refl _) (by simp) ?_; (case hd => rfl); (case hg => rfl); (case hr => exact ts19_); (case hp => exact ts9_); intro v137 w62 ho63 hb hg_ hnew_; clear hg_ hnew_; (first | rw [← Ny136.out] at ho63 | (simp only [Int.reduceToNat] at ho63; rw [← Ny136.out] at ho63)); replace HO_5 := Aside0.mk (Kd.R_below (ts25_ HO_5.out) hb); replace HO_12 := Aside0.mk (Kd.R_below (ts25_ HO_12.out) hb); have HO138 := Aside0.mk (Kd.R_lower (Kd.R_newB (Kd.R_newB ho63 (g := gb108) (o := .cells #[.int .i64 a1_0, .int .i64 a1_1, .int .i64 a1_2, .int .i64 a1_3, .int .i64 a1_4] 26 (0, 0)) (ts18_ BK108.out)) (g := gb122) (o := .cells #[.int .i64 t115, .int .i64 t116, .int .i64 t117, .int .i64 t118, .int .i64 t119] 26 (0, 0)) (ts18_ BK122.out)) (below_size (ts32_ HB.out GE108.out GE122.out))); replace BK108 := Aside0.mk (blk_below (g := gb108) (o := .cells #[.int .i64 a1_0, .int .i64 a1_1, .int .i64 a1_2, .int .i64 a1_3, .int .i64 a1_4] 26 (0, 0)) (ts18_ BK108.out) hb); replace BK122 := Aside0.mk (blk_below (g := gb122) (o := .cells #[.int .i64 t115, .int .i64 t116, .int .i64 t117, .int .i64 t118, .int .i64 t119] 26 (0, 0)) (ts18_ BK122.out) hb); replace HB := Aside0.mk (below_step (ts32_ HB.out GE108.out GE122.out) hb); clear hb ho63; obtain ⟨Ao64, co64, eo64⟩ := Kd.R_slice HO138.out; subst eo64) | (go_at_call 12; (with_reducible refine (target_Encode.calls kj30 _ _ y136 t139 t140 _ ?side1 ?side2 A46.out).mono ?_); (case side1 => exact ts30_ HO138.out); (case side2 => exact ts48_ HO138.out); rintro e w65 ⟨v141, rfl, ho0, hb⟩; replace HO138 := Aside0.mk (Kd.R_below (ts25_ HO138.out) hb); have HO142 := Aside0.mk (Kd.R_lower (Kd.R_new' (Kd.R_new' ho0 (Kd.R_lt (ts25_ HO_5.out))) (Kd.R_lt (ts25_ HO_12.out))) (below_size (ts32_ HB.out GE108.out GE122.out))); replace HO_5 := Aside0.mk (Kd.R_elder' (ts25_ HO_5.out) (Kd.R_base ho0) hb); replace HO_12 := Aside0.mk (Kd.R_elder' (ts25_ HO_12.out) (Kd.R_base ho0) hb); replace BK108 := Aside0.mk (blk_below (g := gb108) (o := .cells #[.int .i64 a1_0, .int .i64 a1_1, .int .i64 a1_2, .int .i64 a1_3, .int .i64 a1_4] 26 (0, 0)) (ts18_ BK108.out) hb); replace BK122 := Aside0.mk (blk_below (g := gb122) (o := .cells #[.int .i64 t115, .int .i64 t116, .int .i64 t117, .int .i64 t118, .int .i64 t119] 26 (0, 0)) (ts18_ BK122.out) hb); replace HB := Aside0.mk (below_step (ts32_ HB.out GE108.out GE122.out) hb); clear hb; (try clear ho0)))
         repeat (go_quiet (first | ((with_reducible refine gate_dst (N := 90) rfl ?_); (try (refine gate_guard (by rfl) ?_; dsimp only)); refine Kd.R_lit k26 _ 26 ?hg (N := 90) ?hd (xs := ([(⟨a1_0, a1_1, a1_2, a1_3, a1_4⟩ : S26)] : List (S26))) (inner := [.int .i64 a1_0, .int .i64 a1_1, .int .i64 a1_2, .int .i64 a1_3, .int .i64 a1_4]) (ok := fun _ => True) (okp := fun _ => True) ?hr ?hp (fun _ hk => hk) trivial (Below.refl _ _) (Nat.le_refl _) (by simp) ?_; (case hd => rfl); (case hg => rfl); (case hr => exact ts19_); (case hp => exact ts9_); intro v137 w62 ho63 hb hg_ hnew_; clear hg_ hnew_; (first | rw [← Ny136.out] at ho63 | (simp only [Int.reduceToNat] at ho63; rw [← Ny136.out] at ho63)); replace HO_5 := Aside0.mk (Kd.R_below (ts25_ HO_5.out) hb); replace HO_12 := Aside0.mk (Kd.R_below (ts25_ HO_12.out) hb); have HO138 := Aside0.mk (Kd.R_lower (Kd.R_newB (Kd.R_newB ho63 (g := gb108) (o := .cells #[.int .i64 a1_0, .int .i64 a1_1, .int .i64 a1_2, .int .i64 a1_3, .int .i64 a1_4] 26 (0, 0)) (ts18_ BK108.out)) (g := gb122) (o := .cells #[.int .i64 t115, .int .i64 t116, .int .i64 t117, .int .i64 t118, .int .i64 t119] 26 (0, 0)) (ts18_ BK122.out)) (below_size (ts32_ HB.out GE108.out GE122.out))); replace BK108 := Aside0.mk (blk_below (g := gb108) (o := .cells #[.int .i64 a1_0, .int .i64 a1_1, .int .i64 a1_2, .int .i64 a1_3, .int .i64 a1_4] 26 (0, 0)) (ts18_ BK108.out) hb); replace BK122 := Aside0.mk (blk_below (g := gb122) (o := .cells #[.int .i64 t115, .int .i64 t116, .int .i64 t117, .int .i64 t118, .int .i64 t119] 26 (0, 0)) (ts18_ BK122.out) hb); replace HB := Aside0.mk (below_step (ts32_ HB.out GE108.out GE122.out) hb); clear hb ho63; obtain ⟨Ao64, co64, eo64⟩ := Kd.R_slice HO138.out; subst eo64) | (go_at_call 12; (with_reducible refine (target_Encode.calls kj30 _ _ y136 t139 t140 _ ?side1 ?side2 A46.out).mono ?_); (case side1 => exact ts30_ HO138.out); (case side2 => exact ts48_ HO138.out); rintro e w65 ⟨v141, rfl, ho0, hb⟩; replace HO138 := Aside0.mk (Kd.R_below (ts25_ HO138.out) hb); have HO142 := Aside0.mk (Kd.R_lower (Kd.R_new' (Kd.R_new' ho0 (Kd.R_lt (ts25_ HO_5.out))) (Kd.R_lt (ts25_ HO_12.out))) (below_size (ts32_ HB.out GE108.out GE122.out))); replace HO_5 := Aside0.mk (Kd.R_elder' (ts25_ HO_5.out) (Kd.R_base ho0) hb); replace HO_12 := Aside0.mk (Kd.R_elder' (ts25_ HO_12.out) (Kd.R_base ho0) hb); replace BK108 := Aside0.mk (blk_below (g := gb108) (o := .cells #[.int .i64 a1_0, .int .i64 a1_1, .int .i64 a1_2, .int .i64 a1_3, .int .i64 a1_4] 26 (0, 0)) (ts18_ BK108.out) hb); replace BK122 := Aside0.mk (blk_below (g := gb122) (o := .cells #[.int .i64 t115, .int .i64 t116, .int .i64 t117, .int .i64 t118, .int .i64 t119] 26 (0, 0)) (ts18_ BK122.out) hb); replace HB := Aside0.mk (below_step (ts32_ HB.out GE108.out GE122.out) hb); clear hb; (try clear ho0))); try go_wp2_with (first | ((with_reducible refine gate_dst (N := 90) rfl ?_); (try (refine gate_guard (by rfl) ?_; dsimp only)); refine Kd.R_lit k26 _ 26 ?hg (N := 90) ?hd (xs := ([(⟨a1_0, a1_1, a1_2, a1_3, a1_4⟩ : S26)] : List (S26))) (inner := [.int .i64 a1_0, .int .i64 a1_1, .int .i64 a1_2, .int .i64 a1_3, .int .i64 a1_4]) (ok := fun _ => True) (okp := fun _ => True) ?hr ?hp (fun _ hk => hk) trivial (Below.refl _ _) (Nat.le_refl _) (by simp) ?_; (case hd => rfl); (case hg => rfl); (case hr => exact ts19_); (case hp => exact ts9_); intro v137 w62 ho63 hb hg_ hnew_; clear hg_ hnew_; (first | rw [← Ny136.out] at ho63 | (simp only [Int.reduceToNat] at ho63; rw [← Ny136.out] at ho63)); replace HO_5 := Aside0.mk (Kd.R_below (ts25_ HO_5.out) hb); replace HO_12 := Aside0.mk (Kd.R_below (ts25_ HO_12.out) hb); have HO138 := Aside0.mk (Kd.R_lower (Kd.R_newB (Kd.R_newB ho63 (g := gb108) (o := .cells #[.int .i64 a1_0, .int .i64 a1_1, .int .i64 a1_2, .int .i64 a1_3, .int .i64 a1_4] 26 (0, 0)) (ts18_ BK108.out)) (g := gb122) (o := .cells #[.int .i64 t115, .int .i64 t116, .int .i64 t117, .int .i64 t118, .int .i64 t119] 26 (0, 0)) (ts18_ BK122.out)) (below_size (ts32_ HB.out GE108.out GE122.out))); replace BK108 := Aside0.mk (blk_below (g := gb108) (o := .cells #[.int .i64 a1_0, .int .i64 a1_1, .int .i64 a1_2, .int .i64 a1_3, .int .i64 a1_4] 26 (0, 0)) (ts18_ BK108.out) hb); replace BK122 := Aside0.mk (blk_below (g := gb122) (o := .cells #[.int .i64 t115, .int .i64 t116, .int .i64 t117, .int .i64 t118, .int .i64 t119] 26 (0, 0)) (ts18_ BK122.out) hb); replace HB := Aside0.mk (below_step (ts32_ HB.out GE108.out GE122.out) hb); clear hb ho63; obtain ⟨Ao64, co64, eo64⟩ := Kd.R_slice HO138.out; subst eo64) | (go_at_call 12; (with_reducible refine (target_Encode.calls kj30 _ _ y136 t139 t140 _ ?side1 ?side2 A46.out).mono ?_); (case side1 => exact ts30_ HO138.out); (case side2 => exact ts48_ HO138.out); rintro e w65 ⟨v141, rfl, ho0, hb⟩; replace HO138 := Aside0.mk (Kd.R_below (ts25_ HO138.out) hb); have HO142 := Aside0.mk (Kd.R_lower (Kd.R_new' (Kd.R_new' ho0 (Kd.R_lt (ts25_ HO_5.out))) (Kd.R_lt (ts25_ HO_12.out))) (below_size (ts32_ HB.out GE108.out GE122.out))); replace HO_5 := Aside0.mk (Kd.R_elder' (ts25_ HO_5.out) (Kd.R_base ho0) hb); replace HO_12 := Aside0.mk (Kd.R_elder' (ts25_ HO_12.out) (Kd.R_base ho0) hb); replace BK108 := Aside0.mk (blk_below (g := gb108) (o := .cells #[.int .i64 a1_0, .int .i64 a1_1, .int .i64 a1_2, .int .i64 a1_3, .int .i64 a1_4] 26 (0, 0)) (ts18_ BK108.out) hb); replace BK122 := Aside0.mk (blk_below (g := gb122) (o := .cells #[.int .i64 t115, .int .i64 t116, .int .i64 t117, .int .i64 t118, .int .i64 t119] 26 (0, 0)) (ts18_ BK122.out) hb); replace HB := Aside0.mk (below_step (ts32_ HB.out GE108.out GE122.out) hb); clear hb; (try clear ho0))))
         go_roundg kj30
         case measure => have := HK1.out; have := HJ12.out; have := HJ30.out; omega
         case rel => exact ⟨(t120), (wrap64 (x8_1 + 1)), ts45_, ts45_, H', ⟨by have := HK1.out; have := HJ12.out; have := HJ30.out; omega⟩, ⟨by (with_reducible repeat (first | apply Kd.R_alloc | apply Kd.R_drewN | apply Kd.R_drew)); exact Kd.R_mono HO_5.out (fun _ hk => trivial)⟩, ⟨ts18_ BK108.out⟩, ⟨ts32_ HB.out GE108.out GE122.out⟩⟩
    rw [if_neg c11] at H
    have c11b0 : decide (x8_1 < (l0.length : Int)) = false := decide_eq_false c11
    clear c11
    obtain ⟨y144, hy144⟩ : ∃ y_ : List Int, y_ = (([(-1), 4611686018427387904] : List Int)) := ⟨_, rfl⟩
    replace H : ((target_Print.f k1 t110 y144 (t110.length : Int)).bind fun bt148 => ((et_Parse.f k1 bt148.1).bind fun bt150 => (if x7_1 = (t110.length : Int) then (if bt148.2 = 0 then (if bt150.2.2.2.2 = 0 then ((cupelref20_Same.f k1 t110 y144 (t110.length : Int) bt150.1 bt150.2.1 bt150.2.2.1).bind fun t160 => (if t160 = true then ((cupellaw20_awake.f k1).bind fun t161 => (some t161)) else (none))) else (none)) else (none)) else (none)))) = some r := by first | (rw [hy144]; with_reducible exact H) | (have H2_ := (Option.bind_some _ _).symm.trans H; rw [hy144]; with_reducible exact H2_) | (have H2_ := (Option.bind_some _ _).symm.trans H; with_reducible exact H2_) | with_reducible exact H | (rw [hy144]; exact H) | exact H
    have Ny144 := Aside0.mk hy144
    clear hy144
    obtain ⟨⟨t148, t149⟩, A66, H⟩ := bsA_ H
    try dsimp only at H
    obtain ⟨⟨t150, t153, t156, t157, t158⟩, A67, H⟩ := bsA_ H
    try dsimp only at H
    by_cases c68 : x7_1 = (t110.length : Int)
    ·rw [if_pos c68] at H
     have c68b0 : (x7_1 == (t110.length : Int)) = true := beq_iff_eq.mpr c68
     have c68b1 : (x7_1 != (t110.length : Int)) = false := bne_eq_false_iff_eq.mpr c68
     clear c68
     by_cases c69 : t149 = 0
     ·rw [if_pos c69] at H
      have c69b0 : (t149 == 0) = true := beq_iff_eq.mpr c69
      have c69b1 : (t149 != 0) = false := bne_eq_false_iff_eq.mpr c69
      clear c69
      by_cases c70 : t158 = 0
      ·rw [if_pos c70] at H
       have c70b0 : (t158 == 0) = true := beq_iff_eq.mpr c70
       have c70b1 : (t158 != 0) = false := bne_eq_false_iff_eq.mpr c70
       clear c70
       obtain ⟨t160, A71, H⟩ := bsA_ H
       try dsimp only at H
       by_cases c72 : t160 = true
       ·subst c72
        rw [if_pos rfl] at H
        obtain ⟨t161, A73, H⟩ := bsA_ H
        try dsimp only at H
        obtain rfl := Option.some.inj H
        go_wp2_with (first | ((with_reducible refine gate_dst (N := 107) rfl ?_); (try (refine gate_guard (by rfl) ?_; dsimp only)); refine Kd.R_lit (Kd.int .i64) _ 2 ?hg (N := 107) ?hd (xs := ([(-1), 4611686018427387904] : List Int)) (inner := [.int .i64 (-1), .int .i64 4611686018427387904]) (ok := fun _ => True) (okp := fun _ => True) ?hr ?hp (fun _ hk => hk) trivial (Below.refl _ _) (Nat.le_refl _) (by simp) ?_; (case hd => rfl); (case hg => rfl); (case hr => exact ts19_); (case hp => exact ts38_); intro v145 w74 ho75 hb hg_ hnew_; clear hg_ hnew_; (first | rw [← Ny144.out] at ho75 | (simp only [Int.reduceToNat] at ho75; rw [← Ny144.out] at ho75)); replace HO_5 := Aside0.mk (Kd.R_below (ts25_ HO_5.out) hb); have HO146 := Aside0.mk (Kd.R_lower ho75 (below_size (ts22_ HB.out GE108.out))); replace BK108 := Aside0.mk (blk_below (g := gb108) (o := .cells #[.int .i64 a1_0, .int .i64 a1_1, .int .i64 a1_2, .int .i64 a1_3, .int .i64 a1_4] 26 (0, 0)) (ts18_ BK108.out) hb); replace HB := Aside0.mk (below_step (ts22_ HB.out GE108.out) hb); clear hb ho75; obtain ⟨Ao76, co76, eo76⟩ := Kd.R_slice HO_5.out; subst eo76; obtain ⟨Ao77, co77, eo77⟩ := Kd.R_slice HO146.out; subst eo77) | ((with_reducible refine gate_dst (N := 14) rfl ?_); (try (refine gate_guard (by rfl) ?_; dsimp only)); refine box_event ?hg (N := 14) ?hd (cs := #[.slice none 0 0, .slice none 0 0, .int .i64 0]) (t := 35) ?hr ?_; (case hd => rfl); (case hg => rfl); (case hr => exact ts19_); intro gb147 hg w78 hbox hb; replace HO_5 := Aside0.mk (Kd.R_below (ts25_ HO_5.out) hb); replace HO146 := Aside0.mk (Kd.R_below (ts25_ HO146.out) hb); have BK147 := Aside0.mk (hbox); have GW147 := Aside0.mk ((ts65_ HB.out GE108.out : w.heap.size ≤ gb147)); have GE147 := Aside0.mk ((ts65_ HB.out GE108.out : w.heap.size ≤ gb147)); replace HB := Aside0.mk (below_step (ts22_ HB.out GE108.out) hb); have NB108_147 := Aside0.mk ((ts72_ BK108.out : gb108 ≠ gb147)); have NB147_108 := Aside0.mk ((ts56_ BK108.out : gb147 ≠ gb108)); replace BK108 := Aside0.mk (blk_below (g := gb108) (o := .cells #[.int .i64 a1_0, .int .i64 a1_1, .int .i64 a1_2, .int .i64 a1_3, .int .i64 a1_4] 26 (0, 0)) (ts18_ BK108.out) hb); clear hb hbox hg; have hnb79 := NB147_108.out; have hnc79 := NB108_147.out; have hcz80_0 : w78.cell? ⟨gb147, 0, none⟩ = some (.slice none 0 0) := (blk_cell BK147.out 0).trans rfl; have hcz80_1 : w78.cell? ⟨gb147, 1, none⟩ = some (.slice none 0 0) := (blk_cell BK147.out 1).trans rfl; have hcz80_2 : w78.cell? ⟨gb147, 2, none⟩ = some (.int .i64 0) := (blk_cell BK147.out 2).trans rfl; have hfz80_0 := blk_frozen BK147.out 0; have hfz80_1 := blk_frozen BK147.out 1; have hfz80_2 := blk_frozen BK147.out 2) | (go_at_call 22; (with_reducible refine (target_Print.calls k1 _ _ t110 _ _ y144 (t110.length : Int) t148 t149 _ ?side1 ?side2 ?side3 ?side4 A66.out).mono ?_); (case side1 => exact ts69_ HO_5.out BK147.out); (case side2 => exact ts48_ HO_5.out); (case side3 => exact ts64_ HO146.out BK147.out); (case side4 => exact ts48_ HO146.out); rintro e w81 ⟨rfl, hb⟩; replace HO_5 := Aside0.mk (Kd.R_below (ts5_ HO_5.out BK147.out) hb); replace HO146 := Aside0.mk (Kd.R_below (ts5_ HO146.out BK147.out) hb); replace BK108 := Aside0.mk (blk_below (g := gb108) (o := .cells #[.int .i64 a1_0, .int .i64 a1_1, .int .i64 a1_2, .int .i64 a1_3, .int .i64 a1_4] 26 (0, 0)) (ts7_ NB108_147.out BK108.out) hb); replace BK147 := Aside0.mk (blk_below (g := gb147) (o := .cells #[.slice Ao76 t110.length co76, .slice Ao77 y144.length co77, .int .i64 (t110.length : Int)] 35 (0, 0)) (ts13_ BK147.out) hb); replace HB := Aside0.mk (below_step (ts32_ HB.out GE108.out GE147.out) hb); clear hb) | (go_at_call 19; (with_reducible refine (et_Parse.calls k1 t148 t150 t153 t156 t157 t158 _ A67.out).mono ?_); rintro e w82 ⟨v151, v154, rfl, ho0, ho1, hb⟩; have HO152 := Aside0.mk (Kd.R_lower (Kd.R_new' ho0 (Kd.R_lt (ts25_ HO_5.out))) (below_size (ts32_ HB.out GE108.out GE147.out))); replace HO_5 := Aside0.mk (Kd.R_elder' (ts25_ HO_5.out) (Kd.R_base ho0) hb); have HO155 := Aside0.mk (Kd.R_lower (Kd.R_new' ho1 (Kd.R_lt (ts25_ HO146.out))) (below_size (ts32_ HB.out GE108.out GE147.out))); replace HO146 := Aside0.mk (Kd.R_elder' (ts25_ HO146.out) (Kd.R_base ho1) hb); replace BK108 := Aside0.mk (blk_below (g := gb108) (o := .cells #[.int .i64 a1_0, .int .i64 a1_1, .int .i64 a1_2, .int .i64 a1_3, .int .i64 a1_4] 26 (0, 0)) (ts18_ BK108.out) hb); replace BK147 := Aside0.mk (blk_below (g := gb147) (o := .cells #[.slice Ao76 t110.length co76, .slice Ao77 y144.length co77, .int .i64 (t110.length : Int)] 35 (0, 0)) (ts18_ BK147.out) hb); replace HB := Aside0.mk (below_step (ts32_ HB.out GE108.out GE147.out) hb); clear hb; (try clear ho0); (try clear ho1)) | ((with_reducible refine gate_dst (N := 17) rfl ?_); (try (refine gate_guard (by rfl) ?_; dsimp only)); refine box_event ?hg (N := 17) ?hd (cs := #[.slice none 0 0, .slice none 0 0, .int .i64 0]) (t := 35) ?hr ?_; (case hd => rfl); (case hg => rfl); (case hr => exact ts19_); intro gb159 hg w83 hbox hb; replace HO_5 := Aside0.mk (Kd.R_below (ts25_ HO_5.out) hb); replace HO146 := Aside0.mk (Kd.R_below (ts25_ HO146.out) hb); replace HO152 := Aside0.mk (Kd.R_below (ts25_ HO152.out) hb); replace HO155 := Aside0.mk (Kd.R_below (ts25_ HO155.out) hb); have BK159 := Aside0.mk (hbox); have GW159 := Aside0.mk ((ts52_ HB.out GE108.out GE147.out : w.heap.size ≤ gb159)); have GE159 := Aside0.mk ((ts52_ HB.out GE108.out GE147.out : w.heap.size ≤ gb159)); replace HB := Aside0.mk (below_step (ts32_ HB.out GE108.out GE147.out) hb); have NB108_159 := Aside0.mk ((ts72_ BK108.out : gb108 ≠ gb159)); have NB159_108 := Aside0.mk ((ts56_ BK108.out : gb159 ≠ gb108)); replace BK108 := Aside0.mk (blk_below (g := gb108) (o := .cells #[.int .i64 a1_0, .int .i64 a1_1, .int .i64 a1_2, .int .i64 a1_3, .int .i64 a1_4] 26 (0, 0)) (ts18_ BK108.out) hb); have NB147_159 := Aside0.mk ((ts54_ BK147.out : gb147 ≠ gb159)); have NB159_147 := Aside0.mk ((ts71_ BK147.out : gb159 ≠ gb147)); replace BK147 := Aside0.mk (blk_below (g := gb147) (o := .cells #[.slice Ao76 t110.length co76, .slice Ao77 y144.length co77, .int .i64 (t110.length : Int)] 35 (0, 0)) (ts18_ BK147.out) hb); clear hb hbox hg; obtain ⟨Ao84, co84, eo84⟩ := Kd.R_slice HO152.out; subst eo84; have hnb85 := NB159_108.out; have hnc85 := NB108_159.out; have hnb86 := NB159_147.out; have hnc86 := NB147_159.out; have hcz87_0 : w83.cell? ⟨gb159, 0, none⟩ = some (.slice none 0 0) := (blk_cell BK159.out 0).trans rfl; have hcz87_1 : w83.cell? ⟨gb159, 1, none⟩ = some (.slice none 0 0) := (blk_cell BK159.out 1).trans rfl; have hcz87_2 : w83.cell? ⟨gb159, 2, none⟩ = some (.int .i64 0) := (blk_cell BK159.out 2).trans rfl; have hfz87_0 := blk_frozen BK159.out 0; have hfz87_1 := blk_frozen BK159.out 1; have hfz87_2 := blk_frozen BK159.out 2; obtain ⟨Ao88, co88, eo88⟩ := Kd.R_slice HO155.out; subst eo88; have hcz89_0 : w83.cell? ⟨gb147, 0, none⟩ = some (.slice Ao76 t110.length co76) := (blk_cell BK147.out 0).trans rfl; have hcz89_1 : w83.cell? ⟨gb147, 1, none⟩ = some (.slice Ao77 y144.length co77) := (blk_cell BK147.out 1).trans rfl; have hcz89_2 : w83.cell? ⟨gb147, 2, none⟩ = some (.int .i64 (t110.length : Int)) := (blk_cell BK147.out 2).trans rfl; have hfz89_0 := blk_frozen BK147.out 0; have hfz89_1 := blk_frozen BK147.out 1; have hfz89_2 := blk_frozen BK147.out 2) | (go_at_call 21; (with_reducible refine (cupelref20_Same.calls k1 _ _ t110 _ _ y144 (t110.length : Int) _ _ t150 _ _ t153 t156 true _ ?side1 ?side2 ?side3 ?side4 ?side5 ?side6 ?side7 ?side8 A71.out).mono ?_); (case side1 => exact ts66_ HO_5.out BK159.out); (case side2 => exact ts48_ HO_5.out); (case side3 => exact ts51_ HO146.out BK159.out); (case side4 => exact ts48_ HO146.out); (case side5 => exact ts60_ HO152.out BK159.out); (case side6 => exact ts48_ HO152.out); (case side7 => exact ts58_ HO155.out BK159.out); (case side8 => exact ts48_ HO155.out); rintro e w90 ⟨rfl, hb⟩; replace HO_5 := Aside0.mk (Kd.R_below (ts10_ HO_5.out BK159.out) hb); replace HO146 := Aside0.mk (Kd.R_below (ts10_ HO146.out BK159.out) hb); replace HO152 := Aside0.mk (Kd.R_below (ts10_ HO152.out BK159.out) hb); replace HO155 := Aside0.mk (Kd.R_below (ts10_ HO155.out BK159.out) hb); replace BK108 := Aside0.mk (blk_below (g := gb108) (o := .cells #[.int .i64 a1_0, .int .i64 a1_1, .int .i64 a1_2, .int .i64 a1_3, .int .i64 a1_4] 26 (0, 0)) (ts7_ NB108_159.out BK108.out) hb); replace BK147 := Aside0.mk (blk_below (g := gb147) (o := .cells #[.slice Ao76 t110.length co76, .slice Ao77 y144.length co77, .int .i64 (t110.length : Int)] 35 (0, 0)) (ts7_ NB147_159.out BK147.out) hb); replace BK159 := Aside0.mk (blk_below (g := gb159) (o := .cells #[.slice Ao84 t150.length co84, .slice Ao88 t153.length co88, .int .i64 t156] 35 (0, 0)) (ts34_ BK159.out) hb); replace HB := Aside0.mk (below_step (ts43_ HB.out GE108.out GE147.out GE159.out) hb); clear hb) | (go_at_call 9; (with_reducible refine (cupellaw20_awake.calls k1  t161 _ A73.out).mono ?_); rintro e w91 ⟨rfl, hb⟩; replace HO_5 := Aside0.mk (Kd.R_below (ts25_ HO_5.out) hb); replace HO146 := Aside0.mk (Kd.R_below (ts25_ HO146.out) hb); replace HO152 := Aside0.mk (Kd.R_below (ts25_ HO152.out) hb); replace HO155 := Aside0.mk (Kd.R_below (ts25_ HO155.out) hb); replace BK108 := Aside0.mk (blk_below (g := gb108) (o := .cells #[.int .i64 a1_0, .int .i64 a1_1, .int .i64 a1_2, .int .i64 a1_3, .int .i64 a1_4] 26 (0, 0)) (ts18_ BK108.out) hb); replace BK147 := Aside0.mk (blk_below (g := gb147) (o := .cells #[.slice Ao76 t110.length co76, .slice Ao77 y144.length co77, .int .i64 (t110.length : Int)] 35 (0, 0)) (ts18_ BK147.out) hb); replace BK159 := Aside0.mk (blk_below (g := gb159) (o := .cells #[.slice Ao84 t150.length co84, .slice Ao88 t153.length co88, .int .i64 t156] 35 (0, 0)) (ts18_ BK159.out) hb); replace HB := Aside0.mk (below_step (ts43_ HB.out GE108.out GE147.out GE159.out) hb); clear hb))
        repeat (go_quiet (first | ((with_reducible refine gate_dst (N := 107) rfl ?_); (try (refine gate_guard (by rfl) ?_; dsimp only)); refine Kd.R_lit (Kd.int .i64) _ 2 ?hg (N := 107) ?hd (xs := ([(-1), 4611686018427387904] : List Int)) (inner := [.int .i64 (-1), .int .i64 4611686018427387904]) (ok := fun _ => True) (okp := fun _ => True) ?hr ?hp (fun _ hk => hk) trivial (Below.refl _ _) (Nat.le_refl _) (by simp) ?_; (case hd => rfl); (case hg => rfl); (case hr => exact ts19_); (case hp => exact ts38_); intro v145 w74 ho75 hb hg_ hnew_; clear hg_ hnew_; (first | rw [← Ny144.out] at ho75 | (simp only [Int.reduceToNat] at ho75; rw [← Ny144.out] at ho75)); replace HO_5 := Aside0.mk (Kd.R_below (ts25_ HO_5.out) hb); have HO146 := Aside0.mk (Kd.R_lower ho75 (below_size (ts22_ HB.out GE108.out))); replace BK108 := Aside0.mk (blk_below (g := gb108) (o := .cells #[.int .i64 a1_0, .int .i64 a1_1, .int .i64 a1_2, .int .i64 a1_3, .int .i64 a1_4] 26 (0, 0)) (ts18_ BK108.out) hb); replace HB := Aside0.mk (below_step (ts22_ HB.out GE108.out) hb); clear hb ho75; obtain ⟨Ao76, co76, eo76⟩ := Kd.R_slice HO_5.out; subst eo76; obtain ⟨Ao77, co77, eo77⟩ := Kd.R_slice HO146.out; subst eo77) | ((with_reducible refine gate_dst (N := 14) rfl ?_); (try (refine gate_guard (by rfl) ?_; dsimp only)); refine box_event ?hg (N := 14) ?hd (cs := #[.slice none 0 0, .slice none 0 0, .int .i64 0]) (t := 35) ?hr ?_; (case hd => rfl); (case hg => rfl); (case hr => exact ts19_); intro gb147 hg w78 hbox hb; replace HO_5 := Aside0.mk (Kd.R_below (ts25_ HO_5.out) hb); replace HO146 := Aside0.mk (Kd.R_below (ts25_ HO146.out) hb); have BK147 := Aside0.mk (hbox); have GW147 := Aside0.mk ((ts65_ HB.out GE108.out : w.heap.size ≤ gb147)); have GE147 := Aside0.mk ((ts65_ HB.out GE108.out : w.heap.size ≤ gb147)); replace HB := Aside0.mk (below_step (ts22_ HB.out GE108.out) hb); have NB108_147 := Aside0.mk ((ts72_ BK108.out : gb108 ≠ gb147)); have NB147_108 := Aside0.mk ((ts56_ BK108.out : gb147 ≠ gb108)); replace BK108 := Aside0.mk (blk_below (g := gb108) (o := .cells #[.int .i64 a1_0, .int .i64 a1_1, .int .i64 a1_2, .int .i64 a1_3, .int .i64 a1_4] 26 (0, 0)) (ts18_ BK108.out) hb); clear hb hbox hg; have hnb79 := NB147_108.out; have hnc79 := NB108_147.out; have hcz80_0 : w78.cell? ⟨gb147, 0, none⟩ = some (.slice none 0 0) := (blk_cell BK147.out 0).trans rfl; have hcz80_1 : w78.cell? ⟨gb147, 1, none⟩ = some (.slice none 0 0) := (blk_cell BK147.out 1).trans rfl; have hcz80_2 : w78.cell? ⟨gb147, 2, none⟩ = some (.int .i64 0) := (blk_cell BK147.out 2).trans rfl; have hfz80_0 := blk_frozen BK147.out 0; have hfz80_1 := blk_frozen BK147.out 1; have hfz80_2 := blk_frozen BK147.out 2) | (go_at_call 22; (with_reducible refine (target_Print.calls k1 _ _ t110 _ _ y144 (t110.length : Int) t148 t149 _ ?side1 ?side2 ?side3 ?side4 A66.out).mono ?_); (case side1 => exact ts69_ HO_5.out BK147.out); (case side2 => exact ts48_ HO_5.out); (case side3 => exact ts64_ HO146.out BK147.out); (case side4 => exact ts48_ HO146.out); rintro e w81 ⟨rfl, hb⟩; replace HO_5 := Aside0.mk (Kd.R_below (ts5_ HO_5.out BK147.out) hb); replace HO146 := Aside0.mk (Kd.R_below (ts5_ HO146.out BK147.out) hb); replace BK108 := Aside0.mk (blk_below (g := gb108) (o := .cells #[.int .i64 a1_0, .int .i64 a1_1, .int .i64 a1_2, .int .i64 a1_3, .int .i64 a1_4] 26 (0, 0)) (ts7_ NB108_147.out BK108.out) hb); replace BK147 := Aside0.mk (blk_below (g := gb147) (o := .cells #[.slice Ao76 t110.length co76, .slice Ao77 y144.length co77, .int .i64 (t110.length : Int)] 35 (0, 0)) (ts13_ BK147.out) hb); replace HB := Aside0.mk (below_step (ts32_ HB.out GE108.out GE147.out) hb); clear hb) | (go_at_call 19; (with_reducible refine (et_Parse.calls k1 t148 t150 t153 t156 t157 t158 _ A67.out).mono ?_); rintro e w82 ⟨v151, v154, rfl, ho0, ho1, hb⟩; have HO152 := Aside0.mk (Kd.R_lower (Kd.R_new' ho0 (Kd.R_lt (ts25_ HO_5.out))) (below_size (ts32_ HB.out GE108.out GE147.out))); replace HO_5 := Aside0.mk (Kd.R_elder' (ts25_ HO_5.out) (Kd.R_base ho0) hb); have HO155 := Aside0.mk (Kd.R_lower (Kd.R_new' ho1 (Kd.R_lt (ts25_ HO146.out))) (below_size (ts32_ HB.out GE108.out GE147.out))); replace HO146 := Aside0.mk (Kd.R_elder' (ts25_ HO146.out) (Kd.R_base ho1) hb); replace BK108 := Aside0.mk (blk_below (g := gb108) (o := .cells #[.int .i64 a1_0, .int .i64 a1_1, .int .i64 a1_2, .int .i64 a1_3, .int .i64 a1_4] 26 (0, 0)) (ts18_ BK108.out) hb); replace BK147 := Aside0.mk (blk_below (g := gb147) (o := .cells #[.slice Ao76 t110.length co76, .slice Ao77 y144.length co77, .int .i64 (t110.length : Int)] 35 (0, 0)) (ts18_ BK147.out) hb); replace HB := Aside0.mk (below_step (ts32_ HB.out GE108.out GE147.out) hb); clear hb; (try clear ho0); (try clear ho1)) | ((with_reducible refine gate_dst (N := 17) rfl ?_); (try (refine gate_guard (by rfl) ?_; dsimp only)); refine box_event ?hg (N := 17) ?hd (cs := #[.slice none 0 0, .slice none 0 0, .int .i64 0]) (t := 35) ?hr ?_; (case hd => rfl); (case hg => rfl); (case hr => exact ts19_); intro gb159 hg w83 hbox hb; replace HO_5 := Aside0.mk (Kd.R_below (ts25_ HO_5.out) hb); replace HO146 := Aside0.mk (Kd.R_below (ts25_ HO146.out) hb); replace HO152 := Aside0.mk (Kd.R_below (ts25_ HO152.out) hb); replace HO155 := Aside0.mk (Kd.R_below (ts25_ HO155.out) hb); have BK159 := Aside0.mk (hbox); have GW159 := Aside0.mk ((ts52_ HB.out GE108.out GE147.out : w.heap.size ≤ gb159)); have GE159 := Aside0.mk ((ts52_ HB.out GE108.out GE147.out : w.heap.size ≤ gb159)); replace HB := Aside0.mk (below_step (ts32_ HB.out GE108.out GE147.out) hb); have NB108_159 := Aside0.mk ((ts72_ BK108.out : gb108 ≠ gb159)); have NB159_108 := Aside0.mk ((ts56_ BK108.out : gb159 ≠ gb108)); replace BK108 := Aside0.mk (blk_below (g := gb108) (o := .cells #[.int .i64 a1_0, .int .i64 a1_1, .int .i64 a1_2, .int .i64 a1_3, .int .i64 a1_4] 26 (0, 0)) (ts18_ BK108.out) hb); have NB147_159 := Aside0.mk ((ts54_ BK147.out : gb147 ≠ gb159)); have NB159_147 := Aside0.mk ((ts71_ BK147.out : gb159 ≠ gb147)); replace BK147 := Aside0.mk (blk_below (g := gb147) (o := .cells #[.slice Ao76 t110.length co76, .slice Ao77 y144.length co77, .int .i64 (t110.length : Int)] 35 (0, 0)) (ts18_ BK147.out) hb); clear hb hbox hg; obtain ⟨Ao84, co84, eo84⟩ := Kd.R_slice HO152.out; subst eo84; have hnb85 := NB159_108.out; have hnc85 := NB108_159.out; have hnb86 := NB159_147.out; have hnc86 := NB147_159.out; have hcz87_0 : w83.cell? ⟨gb159, 0, none⟩ = some (.slice none 0 0) := (blk_cell BK159.out 0).trans rfl; have hcz87_1 : w83.cell? ⟨gb159, 1, none⟩ = some (.slice none 0 0) := (blk_cell BK159.out 1).trans rfl; have hcz87_2 : w83.cell? ⟨gb159, 2, none⟩ = some (.int .i64 0) := (blk_cell BK159.out 2).trans rfl; have hfz87_0 := blk_frozen BK159.out 0; have hfz87_1 := blk_frozen BK159.out 1; have hfz87_2 := blk_frozen BK159.out 2; obtain ⟨Ao88, co88, eo88⟩ := Kd.R_slice HO155.out; subst eo88; have hcz89_0 : w83.cell? ⟨gb147, 0, none⟩ = some (.slice Ao76 t110.length co76) := (blk_cell BK147.out 0).trans rfl; have hcz89_1 : w83.cell? ⟨gb147, 1, none⟩ = some (.slice Ao77 y144.length co77) := (blk_cell BK147.out 1).trans rfl; have hcz89_2 : w83.cell? ⟨gb147, 2, none⟩ = some (.int .i64 (t110.length : Int)) := (blk_cell BK147.out 2).trans rfl; have hfz89_0 := blk_frozen BK147.out 0; have hfz89_1 := blk_frozen BK147.out 1; have hfz89_2 := blk_frozen BK147.out 2) | (go_at_call 21; (with_reducible refine (cupelref20_Same.calls k1 _ _ t110 _ _ y144 (t110.length : Int) _ _ t150 _ _ t153 t156 true _ ?side1 ?side2 ?side3 ?side4 ?side5 ?side6 ?side7 ?side8 A71.out).mono ?_); (case side1 => exact ts66_ HO_5.out BK159.out); (case side2 => exact ts48_ HO_5.out); (case side3 => exact ts51_ HO146.out BK159.out); (case side4 => exact ts48_ HO146.out); (case side5 => exact ts60_ HO152.out BK159.out); (case side6 => exact ts48_ HO152.out); (case side7 => exact ts58_ HO155.out BK159.out); (case side8 => exact ts48_ HO155.out); rintro e w90 ⟨rfl, hb⟩; replace HO_5 := Aside0.mk (Kd.R_below (ts10_ HO_5.out BK159.out) hb); replace HO146 := Aside0.mk (Kd.R_below (ts10_ HO146.out BK159.out) hb); replace HO152 := Aside0.mk (Kd.R_below (ts10_ HO152.out BK159.out) hb); replace HO155 := Aside0.mk (Kd.R_below (ts10_ HO155.out BK159.out) hb); replace BK108 := Aside0.mk (blk_below (g := gb108) (o := .cells #[.int .i64 a1_0, .int .i64 a1_1, .int .i64 a1_2, .int .i64 a1_3, .int .i64 a1_4] 26 (0, 0)) (ts7_ NB108_159.out BK108.out) hb); replace BK147 := Aside0.mk (blk_below (g := gb147) (o := .cells #[.slice Ao76 t110.length co76, .slice Ao77 y144.length co77, .int .i64 (t110.length : Int)] 35 (0, 0)) (ts7_ NB147_159.out BK147.out) hb); replace BK159 := Aside0.mk (blk_below (g := gb159) (o := .cells #[.slice Ao84 t150.length co84, .slice Ao88 t153.length co88, .int .i64 t156] 35 (0, 0)) (ts34_ BK159.out) hb); replace HB := Aside0.mk (below_step (ts43_ HB.out GE108.out GE147.out GE159.out) hb); clear hb) | (go_at_call 9; (with_reducible refine (cupellaw20_awake.calls k1  t161 _ A73.out).mono ?_); rintro e w91 ⟨rfl, hb⟩; replace HO_5 := Aside0.mk (Kd.R_below (ts25_ HO_5.out) hb); replace HO146 := Aside0.mk (Kd.R_below (ts25_ HO146.out) hb); replace HO152 := Aside0.mk (Kd.R_below (ts25_ HO152.out) hb); replace HO155 := Aside0.mk (Kd.R_below (ts25_ HO155.out) hb); replace BK108 := Aside0.mk (blk_below (g := gb108) (o := .cells #[.int .i64 a1_0, .int .i64 a1_1, .int .i64 a1_2, .int .i64 a1_3, .int .i64 a1_4] 26 (0, 0)) (ts18_ BK108.out) hb); replace BK147 := Aside0.mk (blk_below (g := gb147) (o := .cells #[.slice Ao76 t110.length co76, .slice Ao77 y144.length co77, .int .i64 (t110.length : Int)] 35 (0, 0)) (ts18_ BK147.out) hb); replace BK159 := Aside0.mk (blk_below (g := gb159) (o := .cells #[.slice Ao84 t150.length co84, .slice Ao88 t153.length co88, .int .i64 t156] 35 (0, 0)) (ts18_ BK159.out) hb); replace HB := Aside0.mk (below_step (ts43_ HB.out GE108.out GE147.out GE159.out) hb); clear hb)); try go_wp2_with (first | ((with_reducible refine gate_dst (N := 107) rfl ?_); (try (refine gate_guard (by rfl) ?_; dsimp only)); refine Kd.R_lit (Kd.int .i64) _ 2 ?hg (N := 107) ?hd (xs := ([(-1), 4611686018427387904] : List Int)) (inner := [.int .i64 (-1), .int .i64 4611686018427387904]) (ok := fun _ => True) (okp := fun _ => True) ?hr ?hp (fun _ hk => hk) trivial (Below.refl _ _) (Nat.le_refl _) (by simp) ?_; (case hd => rfl); (case hg => rfl); (case hr => exact ts19_); (case hp => exact ts38_); intro v145 w74 ho75 hb hg_ hnew_; clear hg_ hnew_; (first | rw [← Ny144.out] at ho75 | (simp only [Int.reduceToNat] at ho75; rw [← Ny144.out] at ho75)); replace HO_5 := Aside0.mk (Kd.R_below (ts25_ HO_5.out) hb); have HO146 := Aside0.mk (Kd.R_lower ho75 (below_size (ts22_ HB.out GE108.out))); replace BK108 := Aside0.mk (blk_below (g := gb108) (o := .cells #[.int .i64 a1_0, .int .i64 a1_1, .int .i64 a1_2, .int .i64 a1_3, .int .i64 a1_4] 26 (0, 0)) (ts18_ BK108.out) hb); replace HB := Aside0.mk (below_step (ts22_ HB.out GE108.out) hb); clear hb ho75; obtain ⟨Ao76, co76, eo76⟩ := Kd.R_slice HO_5.out; subst eo76; obtain ⟨Ao77, co77, eo77⟩ := Kd.R_slice HO146.out; subst eo77) | ((with_reducible refine gate_dst (N := 14) rfl ?_); (try (refine gate_guard (by rfl) ?_; dsimp only)); refine box_event ?hg (N := 14) ?hd (cs := #[.slice none 0 0, .slice none 0 0, .int .i64 0]) (t := 35) ?hr ?_; (case hd => rfl); (case hg => rfl); (case hr => exact ts19_); intro gb147 hg w78 hbox hb; replace HO_5 := Aside0.mk (Kd.R_below (ts25_ HO_5.out) hb); replace HO146 := Aside0.mk (Kd.R_below (ts25_ HO146.out) hb); have BK147 := Aside0.mk (hbox); have GW147 := Aside0.mk ((ts65_ HB.out GE108.out : w.heap.size ≤ gb147)); have GE147 := Aside0.mk ((ts65_ HB.out GE108.out : w.heap.size ≤ gb147)); replace HB := Aside0.mk (below_step (ts22_ HB.out GE108.out) hb); have NB108_147 := Aside0.mk ((ts72_ BK108.out : gb108 ≠ gb147)); have NB147_108 := Aside0.mk ((ts56_ BK108.out : gb147 ≠ gb108)); replace BK108 := Aside0.mk (blk_below (g := gb108) (o := .cells #[.int .i64 a1_0, .int .i64 a1_1, .int .i64 a1_2, .int .i64 a1_3, .int .i64 a1_4] 26 (0, 0)) (ts18_ BK108.out) hb); clear hb hbox hg; have hnb79 := NB147_108.out; have hnc79 := NB108_147.out; have hcz80_0 : w78.cell? ⟨gb147, 0, none⟩ = some (.slice none 0 0) := (blk_cell BK147.out 0).trans rfl; have hcz80_1 : w78.cell? ⟨gb147, 1, none⟩ = some (.slice none 0 0) := (blk_cell BK147.out 1).trans rfl; have hcz80_2 : w78.cell? ⟨gb147, 2, none⟩ = some (.int .i64 0) := (blk_cell BK147.out 2).trans rfl; have hfz80_0 := blk_frozen BK147.out 0; have hfz80_1 := blk_frozen BK147.out 1; have hfz80_2 := blk_frozen BK147.out 2) | (go_at_call 22; (with_reducible refine (target_Print.calls k1 _ _ t110 _ _ y144 (t110.length : Int) t148 t149 _ ?side1 ?side2 ?side3 ?side4 A66.out).mono ?_); (case side1 => exact ts69_ HO_5.out BK147.out); (case side2 => exact ts48_ HO_5.out); (case side3 => exact ts64_ HO146.out BK147.out); (case side4 => exact ts48_ HO146.out); rintro e w81 ⟨rfl, hb⟩; replace HO_5 := Aside0.mk (Kd.R_below (ts5_ HO_5.out BK147.out) hb); replace HO146 := Aside0.mk (Kd.R_below (ts5_ HO146.out BK147.out) hb); replace BK108 := Aside0.mk (blk_below (g := gb108) (o := .cells #[.int .i64 a1_0, .int .i64 a1_1, .int .i64 a1_2, .int .i64 a1_3, .int .i64 a1_4] 26 (0, 0)) (ts7_ NB108_147.out BK108.out) hb); replace BK147 := Aside0.mk (blk_below (g := gb147) (o := .cells #[.slice Ao76 t110.length co76, .slice Ao77 y144.length co77, .int .i64 (t110.length : Int)] 35 (0, 0)) (ts13_ BK147.out) hb); replace HB := Aside0.mk (below_step (ts32_ HB.out GE108.out GE147.out) hb); clear hb) | (go_at_call 19; (with_reducible refine (et_Parse.calls k1 t148 t150 t153 t156 t157 t158 _ A67.out).mono ?_); rintro e w82 ⟨v151, v154, rfl, ho0, ho1, hb⟩; have HO152 := Aside0.mk (Kd.R_lower (Kd.R_new' ho0 (Kd.R_lt (ts25_ HO_5.out))) (below_size (ts32_ HB.out GE108.out GE147.out))); replace HO_5 := Aside0.mk (Kd.R_elder' (ts25_ HO_5.out) (Kd.R_base ho0) hb); have HO155 := Aside0.mk (Kd.R_lower (Kd.R_new' ho1 (Kd.R_lt (ts25_ HO146.out))) (below_size (ts32_ HB.out GE108.out GE147.out))); replace HO146 := Aside0.mk (Kd.R_elder' (ts25_ HO146.out) (Kd.R_base ho1) hb); replace BK108 := Aside0.mk (blk_below (g := gb108) (o := .cells #[.int .i64 a1_0, .int .i64 a1_1, .int .i64 a1_2, .int .i64 a1_3, .int .i64 a1_4] 26 (0, 0)) (ts18_ BK108.out) hb); replace BK147 := Aside0.mk (blk_below (g := gb147) (o := .cells #[.slice Ao76 t110.length co76, .slice Ao77 y144.length co77, .int .i64 (t110.length : Int)] 35 (0, 0)) (ts18_ BK147.out) hb); replace HB := Aside0.mk (below_step (ts32_ HB.out GE108.out GE147.out) hb); clear hb; (try clear ho0); (try clear ho1)) | ((with_reducible refine gate_dst (N := 17) rfl ?_); (try (refine gate_guard (by rfl) ?_; dsimp only)); refine box_event ?hg (N := 17) ?hd (cs := #[.slice none 0 0, .slice none 0 0, .int .i64 0]) (t := 35) ?hr ?_; (case hd => rfl); (case hg => rfl); (case hr => exact ts19_); intro gb159 hg w83 hbox hb; replace HO_5 := Aside0.mk (Kd.R_below (ts25_ HO_5.out) hb); replace HO146 := Aside0.mk (Kd.R_below (ts25_ HO146.out) hb); replace HO152 := Aside0.mk (Kd.R_below (ts25_ HO152.out) hb); replace HO155 := Aside0.mk (Kd.R_below (ts25_ HO155.out) hb); have BK159 := Aside0.mk (hbox); have GW159 := Aside0.mk ((ts52_ HB.out GE108.out GE147.out : w.heap.size ≤ gb159)); have GE159 := Aside0.mk ((ts52_ HB.out GE108.out GE147.out : w.heap.size ≤ gb159)); replace HB := Aside0.mk (below_step (ts32_ HB.out GE108.out GE147.out) hb); have NB108_159 := Aside0.mk ((ts72_ BK108.out : gb108 ≠ gb159)); have NB159_108 := Aside0.mk ((ts56_ BK108.out : gb159 ≠ gb108)); replace BK108 := Aside0.mk (blk_below (g := gb108) (o := .cells #[.int .i64 a1_0, .int .i64 a1_1, .int .i64 a1_2, .int .i64 a1_3, .int .i64 a1_4] 26 (0, 0)) (ts18_ BK108.out) hb); have NB147_159 := Aside0.mk ((ts54_ BK147.out : gb147 ≠ gb159)); have NB159_147 := Aside0.mk ((ts71_ BK147.out : gb159 ≠ gb147)); replace BK147 := Aside0.mk (blk_below (g := gb147) (o := .cells #[.slice Ao76 t110.length co76, .slice Ao77 y144.length co77, .int .i64 (t110.length : Int)] 35 (0, 0)) (ts18_ BK147.out) hb); clear hb hbox hg; obtain ⟨Ao84, co84, eo84⟩ := Kd.R_slice HO152.out; subst eo84; have hnb85 := NB159_108.out; have hnc85 := NB108_159.out; have hnb86 := NB159_147.out; have hnc86 := NB147_159.out; have hcz87_0 : w83.cell? ⟨gb159, 0, none⟩ = some (.slice none 0 0) := (blk_cell BK159.out 0).trans rfl; have hcz87_1 : w83.cell? ⟨gb159, 1, none⟩ = some (.slice none 0 0) := (blk_cell BK159.out 1).trans rfl; have hcz87_2 : w83.cell? ⟨gb159, 2, none⟩ = some (.int .i64 0) := (blk_cell BK159.out 2).trans rfl; have hfz87_0 := blk_frozen BK159.out 0; have hfz87_1 := blk_frozen BK159.out 1; have hfz87_2 := blk_frozen BK159.out 2; obtain ⟨Ao88, co88, eo88⟩ := Kd.R_slice HO155.out; subst eo88; have hcz89_0 : w83.cell? ⟨gb147, 0, none⟩ = some (.slice Ao76 t110.length co76) := (blk_cell BK147.out 0).trans rfl; have hcz89_1 : w83.cell? ⟨gb147, 1, none⟩ = some (.slice Ao77 y144.length co77) := (blk_cell BK147.out 1).trans rfl; have hcz89_2 : w83.cell? ⟨gb147, 2, none⟩ = some (.int .i64 (t110.length : Int)) := (blk_cell BK147.out 2).trans rfl; have hfz89_0 := blk_frozen BK147.out 0; have hfz89_1 := blk_frozen BK147.out 1; have hfz89_2 := blk_frozen BK147.out 2) | (go_at_call 21; (with_reducible refine (cupelref20_Same.calls k1 _ _ t110 _ _ y144 (t110.length : Int) _ _ t150 _ _ t153 t156 true _ ?side1 ?side2 ?side3 ?side4 ?side5 ?side6 ?side7 ?side8 A71.out).mono ?_); (case side1 => exact ts66_ HO_5.out BK159.out); (case side2 => exact ts48_ HO_5.out); (case side3 => exact ts51_ HO146.out BK159.out); (case side4 => exact ts48_ HO146.out); (case side5 => exact ts60_ HO152.out BK159.out); (case side6 => exact ts48_ HO152.out); (case side7 => exact ts58_ HO155.out BK159.out); (case side8 => exact ts48_ HO155.out); rintro e w90 ⟨rfl, hb⟩; replace HO_5 := Aside0.mk (Kd.R_below (ts10_ HO_5.out BK159.out) hb); replace HO146 := Aside0.mk (Kd.R_below (ts10_ HO146.out BK159.out) hb); replace HO152 := Aside0.mk (Kd.R_below (ts10_ HO152.out BK159.out) hb); replace HO155 := Aside0.mk (Kd.R_below (ts10_ HO155.out BK159.out) hb); replace BK108 := Aside0.mk (blk_below (g := gb108) (o := .cells #[.int .i64 a1_0, .int .i64 a1_1, .int .i64 a1_2, .int .i64 a1_3, .int .i64 a1_4] 26 (0, 0)) (ts7_ NB108_159.out BK108.out) hb); replace BK147 := Aside0.mk (blk_below (g := gb147) (o := .cells #[.slice Ao76 t110.length co76, .slice Ao77 y144.length co77, .int .i64 (t110.length : Int)] 35 (0, 0)) (ts7_ NB147_159.out BK147.out) hb); replace BK159 := Aside0.mk (blk_below (g := gb159) (o := .cells #[.slice Ao84 t150.length co84, .slice Ao88 t153.length co88, .int .i64 t156] 35 (0, 0)) (ts34_ BK159.out) hb); replace HB := Aside0.mk (below_step (ts43_ HB.out GE108.out GE147.out GE159.out) hb); clear hb) | (go_at_call 9; (with_reducible refine (cupellaw20_awake.calls k1  t161 _ A73.out).mono ?_); rintro e w91 ⟨rfl, hb⟩; replace HO_5 := Aside0.mk (Kd.R_below (ts25_ HO_5.out) hb); replace HO146 := Aside0.mk (Kd.R_below (ts25_ HO146.out) hb); replace HO152 := Aside0.mk (Kd.R_below (ts25_ HO152.out) hb); replace HO155 := Aside0.mk (Kd.R_below (ts25_ HO155.out) hb); replace BK108 := Aside0.mk (blk_below (g := gb108) (o := .cells #[.int .i64 a1_0, .int .i64 a1_1, .int .i64 a1_2, .int .i64 a1_3, .int .i64 a1_4] 26 (0, 0)) (ts18_ BK108.out) hb); replace BK147 := Aside0.mk (blk_below (g := gb147) (o := .cells #[.slice Ao76 t110.length co76, .slice Ao77 y144.length co77, .int .i64 (t110.length : Int)] 35 (0, 0)) (ts18_ BK147.out) hb); replace BK159 := Aside0.mk (blk_below (g := gb159) (o := .cells #[.slice Ao84 t150.length co84, .slice Ao88 t153.length co88, .int .i64 t156] 35 (0, 0)) (ts18_ BK159.out) hb); replace HB := Aside0.mk (below_step (ts43_ HB.out GE108.out GE147.out GE159.out) hb); clear hb)))
        go_ret
        exact ⟨ts35_, ts43_ HB.out GE108.out GE147.out GE159.out⟩
       replace c72 := Bool.eq_false_iff.mpr c72
       subst c72
       rw [if_neg Bool.false_ne_true] at H
       exact absurd H (by simp)
      rw [if_neg c70] at H
      exact absurd H (by simp)
     rw [if_neg c69] at H
     exact absurd H (by simp)
    rw [if_neg c68] at H
    exact absurd H (by simp)
 rw [if_neg c8] at H
 have c8b0 : (t111 == 0) = false := beq_eq_false_iff_ne.mpr c8
 have c8b1 : (t111 != 0) = true := bne_iff_ne.mpr c8
 by_cases c92 : (t110.length : Int) = 0
 ·rw [if_pos c92] at H
  have c92b0 : ((t110.length : Int) == 0) = true := beq_iff_eq.mpr c92
  have c92b1 : ((t110.length : Int) != 0) = false := bne_eq_false_iff_eq.mpr c92
  clear c92
  obtain ⟨t114, A93, H⟩ := bsA_ H
  try dsimp only at H
  obtain rfl := Option.some.inj H
  go_enter Tryd.func7, Tryd.ntmps7
  go_wp2_with (first | ((with_reducible refine gate_dst (N := 3) rfl ?_); (try (refine gate_guard (by rfl) ?_; dsimp only)); refine box_event ?hg (N := 3) ?hd (cs := #[.int .i64 a1_0, .int .i64 a1_1, .int .i64 a1_2, .int .i64 a1_3, .int .i64 a1_4]) (t := 26) ?hr ?_; (case hd => rfl); (case hg => rfl); (case hr => exact ts19_); intro gb108 hg w94 hbox hb; have BK108 := Aside0.mk (hbox); have GW108 := Aside0.mk ((ts63_ HB.out : w.heap.size ≤ gb108)); have GE108 := Aside0.mk ((ts63_ HB.out : w.heap.size ≤ gb108)); replace HB := Aside0.mk (below_step (ts47_ HB.out) hb); clear hb hbox hg) | (go_at_call 12; (with_reducible refine (target_Encode.calls k _ _ l0 t110 t111 _ ?side1 ?side2 A7.out).mono ?_); (case side1 => exact ts49_ HR0.out HB.out); (case side2 => exact HC0.out); rintro e w95 ⟨v112, rfl, ho0, hb⟩; have HO113 := Aside0.mk (Kd.R_lower ho0 (below_size (ts22_ HB.out GE108.out))); replace BK108 := Aside0.mk (blk_below (g := gb108) (o := .cells #[.int .i64 a1_0, .int .i64 a1_1, .int .i64 a1_2, .int .i64 a1_3, .int .i64 a1_4] 26 (0, 0)) (ts18_ BK108.out) hb); replace HB := Aside0.mk (below_step (ts22_ HB.out GE108.out) hb); clear hb; (try clear ho0); obtain ⟨Ao96, co96, eo96⟩ := Kd.R_slice HO113.out; subst eo96) | (go_at_call 9; (with_reducible refine (cupellaw20_awake.calls k  t114 _ A93.out).mono ?_); rintro e w97 ⟨rfl, hb⟩; replace HO113 := Aside0.mk (Kd.R_below (ts25_ HO113.out) hb); replace BK108 := Aside0.mk (blk_below (g := gb108) (o := .cells #[.int .i64 a1_0, .int .i64 a1_1, .int .i64 a1_2, .int .i64 a1_3, .int .i64 a1_4] 26 (0, 0)) (ts18_ BK108.out) hb); replace HB := Aside0.mk (below_step (ts22_ HB.out GE108.out) hb); clear hb))
  repeat (go_quiet (first | ((with_reducible refine gate_dst (N := 3) rfl ?_); (try (refine gate_guard (by rfl) ?_; dsimp only)); refine box_event ?hg (N := 3) ?hd (cs := #[.int .i64 a1_0, .int .i64 a1_1, .int .i64 a1_2, .int .i64 a1_3, .int .i64 a1_4]) (t := 26) ?hr ?_; (case hd => rfl); (case hg => rfl); (case hr => exact ts19_); intro gb108 hg w94 hbox hb; have BK108 := Aside0.mk (hbox); have GW108 := Aside0.mk ((ts63_ HB.out : w.heap.size ≤ gb108)); have GE108 := Aside0.mk ((ts63_ HB.out : w.heap.size ≤ gb108)); replace HB := Aside0.mk (below_step (ts47_ HB.out) hb); clear hb hbox hg) | (go_at_call 12; (with_reducible refine (target_Encode.calls k _ _ l0 t110 t111 _ ?side1 ?side2 A7.out).mono ?_); (case side1 => exact ts49_ HR0.out HB.out); (case side2 => exact HC0.out); rintro e w95 ⟨v112, rfl, ho0, hb⟩; have HO113 := Aside0.mk (Kd.R_lower ho0 (below_size (ts22_ HB.out GE108.out))); replace BK108 := Aside0.mk (blk_below (g := gb108) (o := .cells #[.int .i64 a1_0, .int .i64 a1_1, .int .i64 a1_2, .int .i64 a1_3, .int .i64 a1_4] 26 (0, 0)) (ts18_ BK108.out) hb); replace HB := Aside0.mk (below_step (ts22_ HB.out GE108.out) hb); clear hb; (try clear ho0); obtain ⟨Ao96, co96, eo96⟩ := Kd.R_slice HO113.out; subst eo96) | (go_at_call 9; (with_reducible refine (cupellaw20_awake.calls k  t114 _ A93.out).mono ?_); rintro e w97 ⟨rfl, hb⟩; replace HO113 := Aside0.mk (Kd.R_below (ts25_ HO113.out) hb); replace BK108 := Aside0.mk (blk_below (g := gb108) (o := .cells #[.int .i64 a1_0, .int .i64 a1_1, .int .i64 a1_2, .int .i64 a1_3, .int .i64 a1_4] 26 (0, 0)) (ts18_ BK108.out) hb); replace HB := Aside0.mk (below_step (ts22_ HB.out GE108.out) hb); clear hb)); try go_wp2_with (first | ((with_reducible refine gate_dst (N := 3) rfl ?_); (try (refine gate_guard (by rfl) ?_; dsimp only)); refine box_event ?hg (N := 3) ?hd (cs := #[.int .i64 a1_0, .int .i64 a1_1, .int .i64 a1_2, .int .i64 a1_3, .int .i64 a1_4]) (t := 26) ?hr ?_; (case hd => rfl); (case hg => rfl); (case hr => exact ts19_); intro gb108 hg w94 hbox hb; have BK108 := Aside0.mk (hbox); have GW108 := Aside0.mk ((ts63_ HB.out : w.heap.size ≤ gb108)); have GE108 := Aside0.mk ((ts63_ HB.out : w.heap.size ≤ gb108)); replace HB := Aside0.mk (below_step (ts47_ HB.out) hb); clear hb hbox hg) | (go_at_call 12; (with_reducible refine (target_Encode.calls k _ _ l0 t110 t111 _ ?side1 ?side2 A7.out).mono ?_); (case side1 => exact ts49_ HR0.out HB.out); (case side2 => exact HC0.out); rintro e w95 ⟨v112, rfl, ho0, hb⟩; have HO113 := Aside0.mk (Kd.R_lower ho0 (below_size (ts22_ HB.out GE108.out))); replace BK108 := Aside0.mk (blk_below (g := gb108) (o := .cells #[.int .i64 a1_0, .int .i64 a1_1, .int .i64 a1_2, .int .i64 a1_3, .int .i64 a1_4] 26 (0, 0)) (ts18_ BK108.out) hb); replace HB := Aside0.mk (below_step (ts22_ HB.out GE108.out) hb); clear hb; (try clear ho0); obtain ⟨Ao96, co96, eo96⟩ := Kd.R_slice HO113.out; subst eo96) | (go_at_call 9; (with_reducible refine (cupellaw20_awake.calls k  t114 _ A93.out).mono ?_); rintro e w97 ⟨rfl, hb⟩; replace HO113 := Aside0.mk (Kd.R_below (ts25_ HO113.out) hb); replace BK108 := Aside0.mk (blk_below (g := gb108) (o := .cells #[.int .i64 a1_0, .int .i64 a1_1, .int .i64 a1_2, .int .i64 a1_3, .int .i64 a1_4] 26 (0, 0)) (ts18_ BK108.out) hb); replace HB := Aside0.mk (below_step (ts22_ HB.out GE108.out) hb); clear hb)))
  go_ret
  exact ⟨ts35_, ts22_ HB.out GE108.out⟩
 rw [if_neg c92] at H
 exact absurd H (by simp)
end Go.Proofs.YtlaijeeeblcinaaDoor.A

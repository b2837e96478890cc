/- Written by wip/tools/xprint.py, a program of this session that drives the kit's printer. Not trusted: Lean checks it. -/
import Derived.Test.YtlaijeeeblcinaaDoorAx0
import Derived.Test.YtlaijeeeblcinaaDoorAx3
set_option linter.all false
set_option maxHeartbeats 8000000
set_option maxRecDepth 100000
namespace Go.Proofs.YtlaijeeeblcinaaDoor.A
open Go.RowKit Go.Proofs.YtlaijeeeblcinaaDoorW.PrintWords Go.Proofs.YtlaijeeeblcinaaDoorW.PrintLast Go.Proofs.YtlaijeeeblcinaaDoorW.PrintMore
attribute [local go_sem] max2_int min2_int max_two min_two max_three min_three max_four min_four   -- for this text's walks alone
set_option linter.unusedVariables false
set_option linter.unusedSimpArgs false
/-! ### cupelref20_Check: function 18 -/
mutual
def cupelref20_Check.j0 : Nat → Bool → List Int → List Int → Int → Option (Int)
 | 0, _, _, _, _ => none
 | k + 1, x16, x193000, x193001, x193002 => if x16 = true then (some 3) else (if x193002 < 0 then (cupelref20_Check.j1 k true x193000 x193001 x193002) else (cupelref20_Check.j1 k (decide (x193002 > (x193000.length : Int))) x193000 x193001 x193002))
def cupelref20_Check.j1 : Nat → Bool → List Int → List Int → Int → Option (Int)
 | 0, _, _, _, _ => none
 | k + 1, x27, x193000, x193001, x193002 => if x27 = true then (some 2) else (cupelref20_Check.l0 k 0 x193000 x193001 x193002)
def cupelref20_Check.l0 : Nat → Int → List Int → List Int → Int → Option (Int)
 | 0, _, _, _, _ => none
 | k + 1, x3, x193000, x193001, x193002 => if x3 < (x193000.length : Int) then ((cupelref20_Decode.f k x193000 x3).bind fun bt193 => (if bt193.2.2.2.2.2.2 = 0 then (cupelref20_Check.l0 k bt193.2.2.2.2.2.1 x193000 x193001 x193002) else (some 6))) else (some 0)
end
def cupelref20_Check.f (k : Nat) (l0_0 : List Int) (l0_1 : List Int) (a0_2 : Int) : Option (Int) := if (l0_0.length : Int) > 20000 then (cupelref20_Check.j0 k true l0_0 l0_1 a0_2) else (cupelref20_Check.j0 k (decide ((l0_1.length : Int) > 20000)) l0_0 l0_1 a0_2)
theorem cupelref20_Check.mono_l : ∀ k, (∀ y0 y1 y2 y3, LeO (cupelref20_Check.j0 k y0 y1 y2 y3) (cupelref20_Check.j0 (k + 1) y0 y1 y2 y3)) ∧ (∀ y0 y1 y2 y3, LeO (cupelref20_Check.j1 k y0 y1 y2 y3) (cupelref20_Check.j1 (k + 1) y0 y1 y2 y3)) ∧ (∀ y0 y1 y2 y3, LeO (cupelref20_Check.l0 k y0 y1 y2 y3) (cupelref20_Check.l0 (k + 1) y0 y1 y2 y3))
 | 0 => ⟨fun _ _ _ _ r h => by simp [cupelref20_Check.j0] at h, fun _ _ _ _ r h => by simp [cupelref20_Check.j1] at h, fun _ _ _ _ r h => by simp [cupelref20_Check.l0] at h⟩
 | k + 1 => by
  obtain ⟨ih0, ih1, ih2⟩ := cupelref20_Check.mono_l k
  refine ⟨?_, ?_, ?_⟩
  ·intro y0 y1 y2 y3
   unfold cupelref20_Check.j0
   repeat' first
   | (with_reducible exact ih0 _ _ _ _)
   | (with_reducible exact ih1 _ _ _ _)
   | (with_reducible exact ih2 _ _ _ _)
   | (with_reducible exact cupelref20_Decode.mono _ _ _)
   | (with_reducible exact LeO.refl _)
   | (with_reducible exact LeO.none _)
   | (with_reducible refine LeO.ite ?_ ?_)
   | (with_reducible refine LeO.bind ?_ (fun _ => ?_))
   | exact LeO.none _
   | refine LeO.ite ?_ ?_
   | refine LeO.bind ?_ (fun _ => ?_)
  ·intro y0 y1 y2 y3
   unfold cupelref20_Check.j1
   repeat' first
   | (with_reducible exact ih0 _ _ _ _)
   | (with_reducible exact ih1 _ _ _ _)
   | (with_reducible exact ih2 _ _ _ _)
   | (with_reducible exact cupelref20_Decode.mono _ _ _)
   | (with_reducible exact LeO.refl _)
   | (with_reducible exact LeO.none _)
   | (with_reducible refine LeO.ite ?_ ?_)
   | (with_reducible refine LeO.bind ?_ (fun _ => ?_))
   | exact LeO.none _
   | refine LeO.ite ?_ ?_
   | refine LeO.bind ?_ (fun _ => ?_)
  intro y0 y1 y2 y3
  unfold cupelref20_Check.l0
  repeat' first
  | (with_reducible exact ih0 _ _ _ _)
  | (with_reducible exact ih1 _ _ _ _)
  | (with_reducible exact ih2 _ _ _ _)
  | (with_reducible exact cupelref20_Decode.mono _ _ _)
  | (with_reducible exact LeO.refl _)
  | (with_reducible exact LeO.none _)
  | (with_reducible refine LeO.ite ?_ ?_)
  | (with_reducible refine LeO.bind ?_ (fun _ => ?_))
  | exact LeO.none _
  | refine LeO.ite ?_ ?_
  | refine LeO.bind ?_ (fun _ => ?_)
theorem cupelref20_Check.mono : ∀ a0 a1 a2 k, LeO (cupelref20_Check.f k a0 a1 a2) (cupelref20_Check.f (k + 1) a0 a1 a2) := by
 intro a0 a1 a2 k
 obtain ⟨ih0, ih1, ih2⟩ := cupelref20_Check.mono_l k
 unfold cupelref20_Check.f
 repeat' first
   | (with_reducible exact ih0 _ _ _ _)
   | (with_reducible exact ih1 _ _ _ _)
   | (with_reducible exact ih2 _ _ _ _)
   | (with_reducible exact cupelref20_Decode.mono _ _ _)
   | (with_reducible exact LeO.refl _)
   | (with_reducible exact LeO.none _)
   | (with_reducible refine LeO.ite ?_ ?_)
   | (with_reducible refine LeO.bind ?_ (fun _ => ?_))
   | exact LeO.none _
   | refine LeO.ite ?_ ?_
   | refine LeO.bind ?_ (fun _ => ?_)
theorem cupelref20_Check.calls (k : Nat) (A0_0 : Option Addr) (c0_0 : Nat) (l0_0 : List Int) (A0_1 : Option Addr) (c0_1 : Nat) (l0_1 : List Int) (a0_2 : Int) (r : Int) (w : World) (hr0_0 : Kd.C (Kd.int .u64) w A0_0 l0_0.length l0_0) (hc0_0 : l0_0.length ≤ c0_0) (hr0_1 : Kd.C (Kd.int .i64) w A0_1 l0_1.length l0_1) (hc0_1 : l0_1.length ≤ c0_1) (h : cupelref20_Check.f k l0_0 l0_1 a0_2 = some r) :
  Calls Tryd.prog 18 #[.agg #[.slice A0_0 l0_0.length c0_0, .slice A0_1 l0_1.length c0_1, .int .i64 a0_2]] w fun e w' => e = .returned (.int .i64 r) ∧ Below w.heap.size w w' := by
 have hu35 := Tryd.underlying35
 have hu26 := Tryd.underlying26
 have HR0_0 := Aside0.mk hr0_0
 have HC0_0 := Aside0.mk hc0_0
 clear hr0_0 hc0_0
 have HR0_1 := Aside0.mk hr0_1
 have HC0_1 := Aside0.mk hc0_1
 clear hr0_1 hc0_1
 have HB := Aside0.mk (Below.refl w.heap.size w)
 have H : (if (l0_0.length : Int) > 20000 then (cupelref20_Check.j0 k true l0_0 l0_1 a0_2) else (cupelref20_Check.j0 k (decide ((l0_1.length : Int) > 20000)) l0_0 l0_1 a0_2)) = some r := h
 clear h
 have HC2 := Aside0.mk H
 clear H
 go_enter Tryd.func18, Tryd.ntmps18
 go_upto_region 1 with (first | ((with_reducible refine gate_dst (N := 1) rfl ?_); (try (refine gate_guard (by rfl) ?_; dsimp only)); refine box_event ?hg (N := 1) ?hd (cs := #[.slice A0_0 l0_0.length c0_0, .slice A0_1 l0_1.length c0_1, .int .i64 a0_2]) (t := 35) ?hr ?_; (case hd => rfl); (case hg => rfl); (case hr => exact ts15_); intro gb192 hg w3 hbox hb; have BK192 := Aside0.mk (hbox); have GW192 := Aside0.mk ((ts45_ HB.out : w.heap.size ≤ gb192)); have GE192 := Aside0.mk ((ts45_ HB.out : w.heap.size ≤ gb192)); replace HB := Aside0.mk (below_step (ts34_ HB.out) hb); clear hb hbox hg))
 (try simp only [Act.put, List.setIfInBounds_toArray, List.set_cons_zero, List.set_cons_succ])
 go_cut [16] (fun v16 wc => ∃ (kq : Nat) (x16_1 : Bool), v16 = .bool x16_1 ∧ Aside0 (cupelref20_Check.j0 kq x16_1 l0_0 l0_1 a0_2 = some r) ∧ Aside0 (kq ≤ k) ∧ Aside0 (wc.heap[gb192]? = some (.cells #[(.slice A0_0 l0_0.length c0_0), (.slice A0_1 l0_1.length c0_1), .int .i64 a0_2] 35 (0, 0))) ∧ Aside0 (Below w.heap.size w wc))
 case first =>
  have H := HC2.out
  clear HC2
  by_cases c4 : (l0_0.length : Int) > 20000
  ·rw [if_pos c4] at H
   have c4b0 : decide (20000 < (l0_0.length : Int)) = true := decide_eq_true c4
   have c4b1 : decide (20000 < l0_0.length) = true := decide_eq_true (by omega)
   clear c4
   (first | rw [c4b0] | (simp only [i64_w, i32_w]; rw [c4b0]) | skip)
   have H' := Aside0.mk H
   clear H
   have hcz5_0 : w3.cell? ⟨gb192, 0, none⟩ = some (.slice A0_0 l0_0.length c0_0) := (blk_cell BK192.out 0).trans rfl
   have hcz5_1 : w3.cell? ⟨gb192, 1, none⟩ = some (.slice A0_1 l0_1.length c0_1) := (blk_cell BK192.out 1).trans rfl
   have hcz5_2 : w3.cell? ⟨gb192, 2, none⟩ = some (.int .i64 a0_2) := (blk_cell BK192.out 2).trans rfl
   have hfz5_0 := blk_frozen BK192.out 0
   have hfz5_1 := blk_frozen BK192.out 1
   have hfz5_2 := blk_frozen BK192.out 2
   go_wp2
   go_meet
   case rel => exact ⟨_, (true), ts32_, H', ⟨ts3_⟩, ⟨ts14_ BK192.out⟩, ⟨ts17_ HB.out GE192.out⟩⟩
  rw [if_neg c4] at H
  have c4b0 : decide (20000 < (l0_0.length : Int)) = false := decide_eq_false c4
  have c4b1 : decide (20000 < l0_0.length) = false := decide_eq_false (by omega)
  clear c4
  (first | rw [c4b0] | (simp only [i64_w, i32_w]; rw [c4b0]) | skip)
  have H' := Aside0.mk H
  clear H
  have hcz6_0 : w3.cell? ⟨gb192, 0, none⟩ = some (.slice A0_0 l0_0.length c0_0) := (blk_cell BK192.out 0).trans rfl
  have hcz6_1 : w3.cell? ⟨gb192, 1, none⟩ = some (.slice A0_1 l0_1.length c0_1) := (blk_cell BK192.out 1).trans rfl
  have hcz6_2 : w3.cell? ⟨gb192, 2, none⟩ = some (.int .i64 a0_2) := (blk_cell BK192.out 2).trans rfl
  have hfz6_0 := blk_frozen BK192.out 0
  have hfz6_1 := blk_frozen BK192.out 1
  have hfz6_2 := blk_frozen BK192.out 2
  go_wp2
  go_meet
  case rel => exact ⟨_, (decide ((l0_1.length : Int) > 20000)), ts32_, H', ⟨ts3_⟩, ⟨ts14_ BK192.out⟩, ⟨ts17_ HB.out GE192.out⟩⟩
 case rest =>
  clear HC2
  try clear c1
  try clear p2
  try clear c4
  try clear c4b0
  try clear c4b1
  try clear hcz5_0
  try clear hcz5_1
  try clear hcz5_2
  try clear hcz6_0
  try clear hcz6_1
  try clear hcz6_2
  try clear hfz5_0
  try clear hfz5_1
  try clear hfz5_2
  try clear hfz6_0
  try clear hfz6_1
  try clear hfz6_2
  obtain ⟨kq, x16_1, rfl, HA, HJ1, BK192, HB⟩ := hcut
  cases kq with
  | zero => exact absurd HA.out (by simp [cupelref20_Check.j0])
  | succ kj1 =>
   have H := HA.out
   clear HA
   simp only [cupelref20_Check.j0] at H
   by_cases c7 : x16_1 = true
   ·subst c7
    rw [if_pos rfl] at H
    obtain rfl := Option.some.inj H
    go_wp2
    go_ret
    exact ⟨ts26_, ts17_ HB.out GE192.out⟩
   replace c7 := Bool.eq_false_iff.mpr c7
   subst c7
   rw [if_neg Bool.false_ne_true] at H
   have HC8 := Aside0.mk H
   clear H
   go_upto_region 3 with (fail)
   go_cut [27] (fun v27 wc => ∃ (kq : Nat) (x27_7 : Bool), v27 = .bool x27_7 ∧ Aside0 (cupelref20_Check.j1 kq x27_7 l0_0 l0_1 a0_2 = some r) ∧ Aside0 (kq ≤ kj1) ∧ Aside0 (wc.heap[gb192]? = some (.cells #[(.slice A0_0 l0_0.length c0_0), (.slice A0_1 l0_1.length c0_1), .int .i64 a0_2] 35 (0, 0))) ∧ Aside0 (Below w.heap.size w wc))
   case first =>
    have H := HC8.out
    clear HC8
    by_cases c9 : a0_2 < 0
    ·rw [if_pos c9] at H
     have c9b0 : decide (a0_2 < 0) = true := decide_eq_true c9
     clear c9
     (first | rw [c9b0] | (simp only [i64_w, i32_w]; rw [c9b0]) | skip)
     have H' := Aside0.mk H
     clear H
     have hcz10_0 : wc.cell? ⟨gb192, 0, none⟩ = some (.slice A0_0 l0_0.length c0_0) := (blk_cell BK192.out 0).trans rfl
     have hcz10_1 : wc.cell? ⟨gb192, 1, none⟩ = some (.slice A0_1 l0_1.length c0_1) := (blk_cell BK192.out 1).trans rfl
     have hcz10_2 : wc.cell? ⟨gb192, 2, none⟩ = some (.int .i64 a0_2) := (blk_cell BK192.out 2).trans rfl
     have hfz10_0 := blk_frozen BK192.out 0
     have hfz10_1 := blk_frozen BK192.out 1
     have hfz10_2 := blk_frozen BK192.out 2
     go_wp2
     go_meet
     case rel => exact ⟨_, (true), ts32_, H', ⟨ts13_ HJ1.out⟩, ⟨ts14_ BK192.out⟩, ⟨ts17_ HB.out GE192.out⟩⟩
    rw [if_neg c9] at H
    have c9b0 : decide (a0_2 < 0) = false := decide_eq_false c9
    clear c9
    (first | rw [c9b0] | (simp only [i64_w, i32_w]; rw [c9b0]) | skip)
    have H' := Aside0.mk H
    clear H
    have hcz11_0 : wc.cell? ⟨gb192, 0, none⟩ = some (.slice A0_0 l0_0.length c0_0) := (blk_cell BK192.out 0).trans rfl
    have hcz11_1 : wc.cell? ⟨gb192, 1, none⟩ = some (.slice A0_1 l0_1.length c0_1) := (blk_cell BK192.out 1).trans rfl
    have hcz11_2 : wc.cell? ⟨gb192, 2, none⟩ = some (.int .i64 a0_2) := (blk_cell BK192.out 2).trans rfl
    have hfz11_0 := blk_frozen BK192.out 0
    have hfz11_1 := blk_frozen BK192.out 1
    have hfz11_2 := blk_frozen BK192.out 2
    go_wp2
    go_meet
    case rel => exact ⟨_, (decide (a0_2 > (l0_0.length : Int))), ts32_, H', ⟨ts13_ HJ1.out⟩, ⟨ts14_ BK192.out⟩, ⟨ts17_ HB.out GE192.out⟩⟩
   case rest =>
    clear HC8
    try clear c1
    try clear p2
    try clear c4
    try clear c4b0
    try clear c4b1
    try clear c7
    try clear c9
    try clear c9b0
    try clear hcz10_0
    try clear hcz10_1
    try clear hcz10_2
    try clear hcz11_0
    try clear hcz11_1
    try clear hcz11_2
    try clear hcz5_0
    try clear hcz5_1
    try clear hcz5_2
    try clear hcz6_0
    try clear hcz6_1
    try clear hcz6_2
    try clear hfz10_0
    try clear hfz10_1
    try clear hfz10_2
    try clear hfz11_0
    try clear hfz11_1
    try clear hfz11_2
    try clear hfz5_0
    try clear hfz5_1
    try clear hfz5_2
    try clear hfz6_0
    try clear hfz6_1
    try clear hfz6_2
    try clear p2
    obtain ⟨kq, x27_7, rfl, HA, HJ7, BK192, HB⟩ := hcut
    cases kq with
    | zero => exact absurd HA.out (by simp [cupelref20_Check.j1])
    | succ kj7 =>
     have H := HA.out
     clear HA
     simp only [cupelref20_Check.j1] at H
     by_cases c12 : x27_7 = true
     ·subst c12
      rw [if_pos rfl] at H
      obtain rfl := Option.some.inj H
      go_wp2
      go_ret
      exact ⟨ts26_, ts17_ HB.out GE192.out⟩
     replace c12 := Bool.eq_false_iff.mpr c12
     subst c12
     rw [if_neg Bool.false_ne_true] at H
     have H' := Aside0.mk H
     clear H
     go_wp2
     go_loopg [3] kj7 (fun kq v3 w' => ∃ (x3_3 : Int), v3 = .int .i64 x3_3 ∧ Aside0 (cupelref20_Check.l0 kq x3_3 l0_0 l0_1 a0_2 = some r) ∧ Aside0 (kq ≤ kj7) ∧ Aside0 (w'.heap[gb192]? = some (.cells #[(.slice A0_0 l0_0.length c0_0), (.slice A0_1 l0_1.length c0_1), .int .i64 a0_2] 35 (0, 0))) ∧ Aside0 (Below w.heap.size w w'))
     case atStart => exact ⟨(0), ts32_, H', ⟨Nat.le_refl _⟩, ⟨ts14_ BK192.out⟩, ⟨ts17_ HB.out GE192.out⟩⟩
     case round =>
      clear H'
      try clear c1
      try clear p2
      try clear c4
      try clear c4b0
      try clear c4b1
      try clear c7
      try clear c9
      try clear c9b0
      try clear c12
      try clear hcz10_0
      try clear hcz10_1
      try clear hcz10_2
      try clear hcz11_0
      try clear hcz11_1
      try clear hcz11_2
      try clear hcz5_0
      try clear hcz5_1
      try clear hcz5_2
      try clear hcz6_0
      try clear hcz6_1
      try clear hcz6_2
      try clear hfz10_0
      try clear hfz10_1
      try clear hfz10_2
      try clear hfz11_0
      try clear hfz11_1
      try clear hfz11_2
      try clear hfz5_0
      try clear hfz5_1
      try clear hfz5_2
      try clear hfz6_0
      try clear hfz6_1
      try clear hfz6_2
      try clear p2
      obtain ⟨x3_3, rfl, HA, HK3, BK192, HB⟩ := hrel
      cases gk with
      | zero => exact absurd HA.out (by simp [cupelref20_Check.l0])
      | succ k3 =>
       have H := HA.out
       clear HA
       simp only [cupelref20_Check.l0] at H
       by_cases c13 : x3_3 < (l0_0.length : Int)
       ·rw [if_pos c13] at H
        have c13b0 : decide (x3_3 < (l0_0.length : Int)) = true := decide_eq_true c13
        clear c13
        obtain ⟨⟨t193, t194, t195, t196, t197, t198, t199⟩, A14, H⟩ := bsA_ H
        try dsimp only at H
        by_cases c15 : t199 = 0
        ·rw [if_pos c15] at H
         have c15b0 : (t199 == 0) = true := beq_iff_eq.mpr c15
         have c15b1 : (t199 != 0) = false := bne_eq_false_iff_eq.mpr c15
         clear c15
         have H' := Aside0.mk H
         clear H
         have hcz16_0 : wr.cell? ⟨gb192, 0, none⟩ = some (.slice A0_0 l0_0.length c0_0) := (blk_cell BK192.out 0).trans rfl
         have hcz16_1 : wr.cell? ⟨gb192, 1, none⟩ = some (.slice A0_1 l0_1.length c0_1) := (blk_cell BK192.out 1).trans rfl
         have hcz16_2 : wr.cell? ⟨gb192, 2, none⟩ = some (.int .i64 a0_2) := (blk_cell BK192.out 2).trans rfl
         have hfz16_0 := blk_frozen BK192.out 0
         have hfz16_1 := blk_frozen BK192.out 1
         have hfz16_2 := blk_frozen BK192.out 2
         go_wp2_with (first | ((with_reducible refine gate_callee (f := 16) rfl ?_); refine goesL_ (some 37) rfl rfl Tryd.func16 (by kernel_rfl) rfl #[.slice A0_0 l0_0.length c0_0, .int .i64 x3_3] rfl ts8_ ?_; (with_reducible refine (cupelref20_Decode.calls k3 _ _ l0_0 x3_3 t193 t194 t195 t196 t197 t198 t199 _ ?side1 ?side2 A14.out).mono ?_); (case side1 => exact ts35_ HR0_0.out HB.out); (case side2 => exact HC0_0.out); rintro e w17 ⟨rfl, hb⟩; refine ⟨_, rfl, ?_⟩; replace BK192 := Aside0.mk (blk_below (g := gb192) (o := .cells #[.slice A0_0 l0_0.length c0_0, .slice A0_1 l0_1.length c0_1, .int .i64 a0_2] 35 (0, 0)) (ts14_ BK192.out) hb); replace HB := Aside0.mk (below_step (ts17_ HB.out GE192.out) hb); clear hb) | ((with_reducible refine gate_dst (N := 4) rfl ?_); (try (refine gate_guard (by rfl) ?_; dsimp only)); refine box_event ?hg (N := 4) ?hd (cs := #[.int .i64 0, .int .i64 0, .int .i64 0, .int .i64 0, .int .i64 0]) (t := 26) ?hr ?_; (case hd => rfl); (case hg => rfl); (case hr => exact ts15_); intro gb200 hg w18 hbox hb; have BK200 := Aside0.mk (hbox); have GW200 := Aside0.mk ((ts38_ HB.out GE192.out : w.heap.size ≤ gb200)); have GE200 := Aside0.mk ((ts38_ HB.out GE192.out : w.heap.size ≤ gb200)); replace HB := Aside0.mk (below_step (ts17_ HB.out GE192.out) hb); have NB192_200 := Aside0.mk ((ts50_ BK192.out : gb192 ≠ gb200)); have NB200_192 := Aside0.mk ((ts43_ BK192.out : gb200 ≠ gb192)); replace BK192 := Aside0.mk (blk_below (g := gb192) (o := .cells #[.slice A0_0 l0_0.length c0_0, .slice A0_1 l0_1.length c0_1, .int .i64 a0_2] 35 (0, 0)) (ts14_ BK192.out) hb); clear hb hbox hg; have hnb19 := NB200_192.out; have hnc19 := NB192_200.out; have hcz20_0 : w18.cell? ⟨gb200, 0, none⟩ = some (.int .i64 0) := (blk_cell BK200.out 0).trans rfl; have hcz20_1 : w18.cell? ⟨gb200, 1, none⟩ = some (.int .i64 0) := (blk_cell BK200.out 1).trans rfl; have hcz20_2 : w18.cell? ⟨gb200, 2, none⟩ = some (.int .i64 0) := (blk_cell BK200.out 2).trans rfl; have hcz20_3 : w18.cell? ⟨gb200, 3, none⟩ = some (.int .i64 0) := (blk_cell BK200.out 3).trans rfl; have hcz20_4 : w18.cell? ⟨gb200, 4, none⟩ = some (.int .i64 0) := (blk_cell BK200.out 4).trans rfl; have hfz20_0 := blk_frozen BK200.out 0; have hfz20_1 := blk_frozen BK200.out 1; have hfz20_2 := blk_frozen BK200.out 2; have hfz20_3 := blk_frozen BK200.out 3; have hfz20_4 := blk_frozen BK200.out 4))
         go_roundg k3
         case measure => have := HJ1.out; have := HJ7.out; have := HK3.out; omega
         case rel => exact ⟨(t198), ts32_, H', ⟨by have := HJ1.out; have := HJ7.out; have := HK3.out; omega⟩, ⟨ts5_ NB192_200.out BK192.out⟩, ⟨ts25_ HB.out GE192.out GE200.out⟩⟩
        rw [if_neg c15] at H
        have c15b0 : (t199 == 0) = false := beq_eq_false_iff_ne.mpr c15
        have c15b1 : (t199 != 0) = true := bne_iff_ne.mpr c15
        obtain rfl := Option.some.inj H
        have hcz21_0 : wr.cell? ⟨gb192, 0, none⟩ = some (.slice A0_0 l0_0.length c0_0) := (blk_cell BK192.out 0).trans rfl
        have hcz21_1 : wr.cell? ⟨gb192, 1, none⟩ = some (.slice A0_1 l0_1.length c0_1) := (blk_cell BK192.out 1).trans rfl
        have hcz21_2 : wr.cell? ⟨gb192, 2, none⟩ = some (.int .i64 a0_2) := (blk_cell BK192.out 2).trans rfl
        have hfz21_0 := blk_frozen BK192.out 0
        have hfz21_1 := blk_frozen BK192.out 1
        have hfz21_2 := blk_frozen BK192.out 2
        go_wp2_with (first | ((with_reducible refine gate_callee (f := 16) rfl ?_); refine goesL_ (some 37) rfl rfl Tryd.func16 (by kernel_rfl) rfl #[.slice A0_0 l0_0.length c0_0, .int .i64 x3_3] rfl ts8_ ?_; (with_reducible refine (cupelref20_Decode.calls k3 _ _ l0_0 x3_3 t193 t194 t195 t196 t197 t198 t199 _ ?side1 ?side2 A14.out).mono ?_); (case side1 => exact ts35_ HR0_0.out HB.out); (case side2 => exact HC0_0.out); rintro e w22 ⟨rfl, hb⟩; refine ⟨_, rfl, ?_⟩; replace BK192 := Aside0.mk (blk_below (g := gb192) (o := .cells #[.slice A0_0 l0_0.length c0_0, .slice A0_1 l0_1.length c0_1, .int .i64 a0_2] 35 (0, 0)) (ts14_ BK192.out) hb); replace HB := Aside0.mk (below_step (ts17_ HB.out GE192.out) hb); clear hb) | ((with_reducible refine gate_dst (N := 4) rfl ?_); (try (refine gate_guard (by rfl) ?_; dsimp only)); refine box_event ?hg (N := 4) ?hd (cs := #[.int .i64 0, .int .i64 0, .int .i64 0, .int .i64 0, .int .i64 0]) (t := 26) ?hr ?_; (case hd => rfl); (case hg => rfl); (case hr => exact ts15_); intro gb200 hg w23 hbox hb; have BK200 := Aside0.mk (hbox); have GW200 := Aside0.mk ((ts38_ HB.out GE192.out : w.heap.size ≤ gb200)); have GE200 := Aside0.mk ((ts38_ HB.out GE192.out : w.heap.size ≤ gb200)); replace HB := Aside0.mk (below_step (ts17_ HB.out GE192.out) hb); have NB192_200 := Aside0.mk ((ts50_ BK192.out : gb192 ≠ gb200)); have NB200_192 := Aside0.mk ((ts43_ BK192.out : gb200 ≠ gb192)); replace BK192 := Aside0.mk (blk_below (g := gb192) (o := .cells #[.slice A0_0 l0_0.length c0_0, .slice A0_1 l0_1.length c0_1, .int .i64 a0_2] 35 (0, 0)) (ts14_ BK192.out) hb); clear hb hbox hg; have hnb24 := NB200_192.out; have hnc24 := NB192_200.out; have hcz25_0 : w23.cell? ⟨gb200, 0, none⟩ = some (.int .i64 0) := (blk_cell BK200.out 0).trans rfl; have hcz25_1 : w23.cell? ⟨gb200, 1, none⟩ = some (.int .i64 0) := (blk_cell BK200.out 1).trans rfl; have hcz25_2 : w23.cell? ⟨gb200, 2, none⟩ = some (.int .i64 0) := (blk_cell BK200.out 2).trans rfl; have hcz25_3 : w23.cell? ⟨gb200, 3, none⟩ = some (.int .i64 0) := (blk_cell BK200.out 3).trans rfl; have hcz25_4 : w23.cell? ⟨gb200, 4, none⟩ = some (.int .i64 0) := (blk_cell BK200.out 4).trans rfl; have hfz25_0 := blk_frozen BK200.out 0; have hfz25_1 := blk_frozen BK200.out 1; have hfz25_2 := blk_frozen BK200.out 2; have hfz25_3 := blk_frozen BK200.out 3; have hfz25_4 := blk_frozen BK200.out 4))
        go_ret
        exact ⟨ts26_, ts25_ HB.out GE192.out GE200.out⟩
       rw [if_neg c13] at H
       have c13b0 : decide (x3_3 < (l0_0.length : Int)) = false := decide_eq_false c13
       clear c13
       obtain rfl := Option.some.inj H
       have hcz26_0 : wr.cell? ⟨gb192, 0, none⟩ = some (.slice A0_0 l0_0.length c0_0) := (blk_cell BK192.out 0).trans rfl
       have hcz26_1 : wr.cell? ⟨gb192, 1, none⟩ = some (.slice A0_1 l0_1.length c0_1) := (blk_cell BK192.out 1).trans rfl
       have hcz26_2 : wr.cell? ⟨gb192, 2, none⟩ = some (.int .i64 a0_2) := (blk_cell BK192.out 2).trans rfl
       have hfz26_0 := blk_frozen BK192.out 0
       have hfz26_1 := blk_frozen BK192.out 1
       have hfz26_2 := blk_frozen BK192.out 2
       go_wp2
       go_ret
       exact ⟨ts26_, ts17_ HB.out GE192.out⟩
-- NOT PRINTED: function 4 (cupellaw20_TargetDecodes)
/-! ### cupelref20_skip: function 80 -/
mutual
def cupelref20_skip.l0 : Nat → ByteArray → Int → Option (Int)
 | 0, _, _ => none
 | k + 1, x0, x1 => if x1 < (x0.size : Int) then (if 0 ≤ x1 then (if (bt x0 x1) = 32 then (cupelref20_skip.j1 k x0 x1 true) else (if (bt x0 x1) = 9 then (cupelref20_skip.j1 k x0 x1 true) else (if (bt x0 x1) = 13 then (cupelref20_skip.j1 k x0 x1 true) else (cupelref20_skip.j1 k x0 x1 ((bt x0 x1) == 10))))) else (none)) else (some x1)
def cupelref20_skip.j1 : Nat → ByteArray → Int → Bool → Option (Int)
 | 0, _, _, _ => none
 | k + 1, x0, x1, x30 => if x30 = true then (cupelref20_skip.l0 k x0 (wrap64 (x1 + 1))) else (if 0 ≤ x1 then (if x1 < (x0.size : Int) then (if (bt x0 x1) = 35 then (cupelref20_skip.l1 k x0 x1) else (some x1)) else (none)) else (none))
def cupelref20_skip.l1 : Nat → ByteArray → Int → Option (Int)
 | 0, _, _ => none
 | k + 1, x0, x1 => if x1 < (x0.size : Int) then (if 0 ≤ x1 then (if (bt x0 x1) = 10 then (cupelref20_skip.l0 k x0 x1) else (cupelref20_skip.l1 k x0 (wrap64 (x1 + 1)))) else (none)) else (cupelref20_skip.l0 k x0 x1)
end
def cupelref20_skip.f (k : Nat) (a0 : ByteArray) (a1 : Int) : Option (Int) := cupelref20_skip.l0 k a0 a1
theorem cupelref20_skip.mono_l : ∀ k, (∀ y0 y1, LeO (cupelref20_skip.l0 k y0 y1) (cupelref20_skip.l0 (k + 1) y0 y1)) ∧ (∀ y0 y1 y2, LeO (cupelref20_skip.j1 k y0 y1 y2) (cupelref20_skip.j1 (k + 1) y0 y1 y2)) ∧ (∀ y0 y1, LeO (cupelref20_skip.l1 k y0 y1) (cupelref20_skip.l1 (k + 1) y0 y1))
 | 0 => ⟨fun _ _ r h => by simp [cupelref20_skip.l0] at h, fun _ _ _ r h => by simp [cupelref20_skip.j1] at h, fun _ _ r h => by simp [cupelref20_skip.l1] at h⟩
 | k + 1 => by
  obtain ⟨ih0, ih1, ih2⟩ := cupelref20_skip.mono_l k
  refine ⟨?_, ?_, ?_⟩
  ·intro y0 y1
   unfold cupelref20_skip.l0
   repeat' first
   | (with_reducible exact ih0 _ _)
   | (with_reducible exact ih1 _ _ _)
   | (with_reducible exact ih2 _ _)
   | (with_reducible exact LeO.refl _)
   | (with_reducible exact LeO.none _)
   | (with_reducible refine LeO.ite ?_ ?_)
   | (with_reducible refine LeO.bind ?_ (fun _ => ?_))
   | exact LeO.none _
   | refine LeO.ite ?_ ?_
   | refine LeO.bind ?_ (fun _ => ?_)
  ·intro y0 y1 y2
   unfold cupelref20_skip.j1
   repeat' first
   | (with_reducible exact ih0 _ _)
   | (with_reducible exact ih1 _ _ _)
   | (with_reducible exact ih2 _ _)
   | (with_reducible exact LeO.refl _)
   | (with_reducible exact LeO.none _)
   | (with_reducible refine LeO.ite ?_ ?_)
   | (with_reducible refine LeO.bind ?_ (fun _ => ?_))
   | exact LeO.none _
   | refine LeO.ite ?_ ?_
   | refine LeO.bind ?_ (fun _ => ?_)
  intro y0 y1
  unfold cupelref20_skip.l1
  repeat' first
  | (with_reducible exact ih0 _ _)
  | (with_reducible exact ih1 _ _ _)
  | (with_reducible exact ih2 _ _)
  | (with_reducible exact LeO.refl _)
  | (with_reducible exact LeO.none _)
  | (with_reducible refine LeO.ite ?_ ?_)
  | (with_reducible refine LeO.bind ?_ (fun _ => ?_))
  | exact LeO.none _
  | refine LeO.ite ?_ ?_
  | refine LeO.bind ?_ (fun _ => ?_)
/-! ### cupelref20_lower: function 81 -/
def cupelref20_lower.f (a0 : Int) : Option (Bool) := if a0 ≥ 97 then (some (decide (a0 ≤ 122))) else (some false)
/-! ### cupelref20_digit: function 82 -/
def cupelref20_digit.f (a0 : Int) : Option (Bool) := if a0 ≥ 48 then (some (decide (a0 ≤ 57))) else (some false)
end Go.Proofs.YtlaijeeeblcinaaDoor.A

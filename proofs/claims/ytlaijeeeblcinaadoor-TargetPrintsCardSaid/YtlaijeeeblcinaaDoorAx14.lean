/- Written by wip/tools/xprint.py, a program of this session that drives the kit's printer. Not trusted: Lean checks it. -/
import Derived.Test.YtlaijeeeblcinaaDoorAx0
import Derived.Test.YtlaijeeeblcinaaDoorAx3
import Derived.Test.YtlaijeeeblcinaaDoorAx4
import Derived.Test.YtlaijeeeblcinaaDoorAx12
import Derived.Test.YtlaijeeeblcinaaDoorAx13
set_option linter.all false
set_option maxHeartbeats 8000000
set_option maxRecDepth 100000
namespace Go.Proofs.YtlaijeeeblcinaaDoor.A
open Go.RowKit Go.Proofs.YtlaijeeeblcinaaDoorW.PrintWords Go.Proofs.YtlaijeeeblcinaaDoorW.PrintLast Go.Proofs.YtlaijeeeblcinaaDoorW.PrintMore
attribute [local go_sem] max2_int min2_int max_two min_two max_three min_three max_four min_four   -- for this text's walks alone
set_option linter.unusedVariables false
set_option linter.unusedSimpArgs false
/-! ### cupelref20_Print: function 23 -/
mutual
def cupelref20_Print.l0 : Nat → ByteArray → Int → List Int → List Int → Int → Option (ByteArray × Int)
 | 0, _, _, _, _, _ => none
 | k + 1, x5, x6, x620000, x620001, x620002 => if x6 < (x620001.length : Int) then (if x5.size + 5 ≤ 9223372036854775807 then (if 0 ≤ x6 then ((cupelref20_number.f k (rd x620001 x6)).bind fun t623 => (if (x5 ++ (⟨#[100, 97, 116, 97, 32]⟩ : ByteArray)).size + t623.size ≤ 9223372036854775807 then (if ((x5 ++ (⟨#[100, 97, 116, 97, 32]⟩ : ByteArray)) ++ t623).size + 2 ≤ 9223372036854775807 then (cupelref20_Print.l0 k (((x5 ++ (⟨#[100, 97, 116, 97, 32]⟩ : ByteArray)) ++ t623) ++ (⟨#[59, 10]⟩ : ByteArray)) (wrap64 (x6 + 1)) x620000 x620001 x620002) else (none)) else (none))) else (none)) else (none)) else (cupelref20_Print.l1 k x5 0 x620000 x620001 x620002)
def cupelref20_Print.l1 : Nat → ByteArray → Int → List Int → List Int → Int → Option (ByteArray × Int)
 | 0, _, _, _, _, _ => none
 | k + 1, x5, x7, x620000, x620001, x620002 => if x7 < (x620000.length : Int) then ((cupelref20_Decode.f k x620000 x7).bind fun bt624 => ((cupelref20_Line.f k bt624.1 bt624.2.1 bt624.2.2.1 bt624.2.2.2.1 bt624.2.2.2.2.1).bind fun t632 => (if x5.size + t632.size ≤ 9223372036854775807 then (if (x5 ++ t632).size + 1 ≤ 9223372036854775807 then (cupelref20_Print.l1 k ((x5 ++ t632) ++ (⟨#[10]⟩ : ByteArray)) bt624.2.2.2.2.2.1 x620000 x620001 x620002) else (none)) else (none)))) else (some (x5, 0))
end
def cupelref20_Print.f (k : Nat) (l0_0 : List Int) (l0_1 : List Int) (a0_2 : Int) : Option (ByteArray × Int) := (cupelref20_Check.f k l0_0 l0_1 a0_2).bind fun t620 => (if t620 = 0 then ((cupelref20_number.f k a0_2).bind fun t621 => (if 6 + t621.size ≤ 9223372036854775807 then (if ((⟨#[101, 110, 116, 114, 121, 32]⟩ : ByteArray) ++ t621).size + 2 ≤ 9223372036854775807 then (cupelref20_Print.l0 k (((⟨#[101, 110, 116, 114, 121, 32]⟩ : ByteArray) ++ t621) ++ (⟨#[59, 10]⟩ : ByteArray)) 0 l0_0 l0_1 a0_2) else (none)) else (none))) else (some ((⟨#[]⟩ : ByteArray), t620)))
theorem cupelref20_Print.mono_l : ∀ k, (∀ y0 y1 y2 y3 y4, LeO (cupelref20_Print.l0 k y0 y1 y2 y3 y4) (cupelref20_Print.l0 (k + 1) y0 y1 y2 y3 y4)) ∧ (∀ y0 y1 y2 y3 y4, LeO (cupelref20_Print.l1 k y0 y1 y2 y3 y4) (cupelref20_Print.l1 (k + 1) y0 y1 y2 y3 y4))
 | 0 => ⟨fun _ _ _ _ _ r h => by simp [cupelref20_Print.l0] at h, fun _ _ _ _ _ r h => by simp [cupelref20_Print.l1] at h⟩
 | k + 1 => by
  obtain ⟨ih0, ih1⟩ := cupelref20_Print.mono_l k
  refine ⟨?_, ?_⟩
  ·intro y0 y1 y2 y3 y4
   unfold cupelref20_Print.l0
   repeat' first
   | (with_reducible exact ih0 _ _ _ _ _)
   | (with_reducible exact ih1 _ _ _ _ _)
   | (with_reducible exact cupelref20_Check.mono _ _ _ _)
   | (with_reducible exact cupelref20_Decode.mono _ _ _)
   | (with_reducible exact cupelref20_Line.mono _ _ _ _ _ _)
   | (with_reducible exact cupelref20_number.mono _ _)
   | (with_reducible exact LeO.refl _)
   | (with_reducible exact LeO.none _)
   | (with_reducible refine LeO.ite ?_ ?_)
   | (with_reducible refine LeO.bind ?_ (fun _ => ?_))
   | exact LeO.none _
   | refine LeO.ite ?_ ?_
   | refine LeO.bind ?_ (fun _ => ?_)
  intro y0 y1 y2 y3 y4
  unfold cupelref20_Print.l1
  repeat' first
  | (with_reducible exact ih0 _ _ _ _ _)
  | (with_reducible exact ih1 _ _ _ _ _)
  | (with_reducible exact cupelref20_Check.mono _ _ _ _)
  | (with_reducible exact cupelref20_Decode.mono _ _ _)
  | (with_reducible exact cupelref20_Line.mono _ _ _ _ _ _)
  | (with_reducible exact cupelref20_number.mono _ _)
  | (with_reducible exact LeO.refl _)
  | (with_reducible exact LeO.none _)
  | (with_reducible refine LeO.ite ?_ ?_)
  | (with_reducible refine LeO.bind ?_ (fun _ => ?_))
  | exact LeO.none _
  | refine LeO.ite ?_ ?_
  | refine LeO.bind ?_ (fun _ => ?_)
theorem cupelref20_Print.mono : ∀ a0 a1 a2 k, LeO (cupelref20_Print.f k a0 a1 a2) (cupelref20_Print.f (k + 1) a0 a1 a2) := by
 intro a0 a1 a2 k
 obtain ⟨ih0, ih1⟩ := cupelref20_Print.mono_l k
 unfold cupelref20_Print.f
 repeat' first
   | (with_reducible exact ih0 _ _ _ _ _)
   | (with_reducible exact ih1 _ _ _ _ _)
   | (with_reducible exact cupelref20_Check.mono _ _ _ _)
   | (with_reducible exact cupelref20_Decode.mono _ _ _)
   | (with_reducible exact cupelref20_Line.mono _ _ _ _ _ _)
   | (with_reducible exact cupelref20_number.mono _ _)
   | (with_reducible exact LeO.refl _)
   | (with_reducible exact LeO.none _)
   | (with_reducible refine LeO.ite ?_ ?_)
   | (with_reducible refine LeO.bind ?_ (fun _ => ?_))
   | exact LeO.none _
   | refine LeO.ite ?_ ?_
   | refine LeO.bind ?_ (fun _ => ?_)
theorem cupelref20_Print.calls (k : Nat) (A0_0 : Option Addr) (c0_0 : Nat) (l0_0 : List Int) (A0_1 : Option Addr) (c0_1 : Nat) (l0_1 : List Int) (a0_2 : Int) (r1 : ByteArray) (r2 : Int) (w : World) (hr0_0 : Kd.C (Kd.int .u64) w A0_0 l0_0.length l0_0) (hc0_0 : l0_0.length ≤ c0_0) (hr0_1 : Kd.C (Kd.int .i64) w A0_1 l0_1.length l0_1) (hc0_1 : l0_1.length ≤ c0_1) (h : cupelref20_Print.f k l0_0 l0_1 a0_2 = some (r1, r2)) :
  Calls Tryd.prog 23 #[.agg #[.slice A0_0 l0_0.length c0_0, .slice A0_1 l0_1.length c0_1, .int .i64 a0_2]] w fun e w' => e = .returned (.tuple #[.string r1, .int .i64 r2]) ∧ Below w.heap.size w w' := by
 have hu35 := Tryd.underlying35
 have hu26 := Tryd.underlying26
 have HR0_0 := Aside0.mk hr0_0
 have HC0_0 := Aside0.mk hc0_0
 clear hr0_0 hc0_0
 have HR0_1 := Aside0.mk hr0_1
 have HC0_1 := Aside0.mk hc0_1
 clear hr0_1 hc0_1
 have HB := Aside0.mk (Below.refl w.heap.size w)
 have H : ((cupelref20_Check.f k l0_0 l0_1 a0_2).bind fun t620 => (if t620 = 0 then ((cupelref20_number.f k a0_2).bind fun t621 => (if 6 + t621.size ≤ 9223372036854775807 then (if ((⟨#[101, 110, 116, 114, 121, 32]⟩ : ByteArray) ++ t621).size + 2 ≤ 9223372036854775807 then (cupelref20_Print.l0 k (((⟨#[101, 110, 116, 114, 121, 32]⟩ : ByteArray) ++ t621) ++ (⟨#[59, 10]⟩ : ByteArray)) 0 l0_0 l0_1 a0_2) else (none)) else (none))) else (some ((⟨#[]⟩ : ByteArray), t620)))) = some (r1, r2) := h
 clear h
 obtain ⟨t620, A2, H⟩ := bsA_ H
 try dsimp only at H
 by_cases c3 : t620 = 0
 ·rw [if_pos c3] at H
  have c3b0 : (t620 == 0) = true := beq_iff_eq.mpr c3
  have c3b1 : (t620 != 0) = false := bne_eq_false_iff_eq.mpr c3
  clear c3
  obtain ⟨t621, A4, H⟩ := bsA_ H
  try dsimp only at H
  by_cases c5 : 6 + t621.size ≤ 9223372036854775807
  ·rw [if_pos c5] at H
   have c5b0 := eq_true c5
   have c5b1 : decide (6 + t621.size ≤ 9223372036854775807) = true := decide_eq_true c5
   try have c5b2 : (9223372036854775807 < 6 + t621.size) = False := eq_false (Nat.not_lt.2 c5)
   have c5b3 := c5b2
   try simp only [ByteArray.size_append, bsz1, bsz2, bsz3, bsz5, bsz6] at c5b3
   by_cases c6 : ((⟨#[101, 110, 116, 114, 121, 32]⟩ : ByteArray) ++ t621).size + 2 ≤ 9223372036854775807
   ·rw [if_pos c6] at H
    have c6b0 := eq_true c6
    have c6b1 : decide (((⟨#[101, 110, 116, 114, 121, 32]⟩ : ByteArray) ++ t621).size + 2 ≤ 9223372036854775807) = true := decide_eq_true c6
    try have c6b2 : (9223372036854775807 < ((⟨#[101, 110, 116, 114, 121, 32]⟩ : ByteArray) ++ t621).size + 2) = False := eq_false (Nat.not_lt.2 c6)
    have c6b3 := c6b2
    try simp only [ByteArray.size_append, bsz1, bsz2, bsz3, bsz5, bsz6] at c6b3
    have H' := Aside0.mk H
    clear H
    go_enter Tryd.func23, Tryd.ntmps23
    go_wp2_with (first | ((with_reducible refine gate_dst (N := 1) rfl ?_); refine box_event ?hg (N := 1) ?hd (cs := #[.slice A0_0 l0_0.length c0_0, .slice A0_1 l0_1.length c0_1, .int .i64 a0_2]) (t := 35) ?hr ?_; (case hd => rfl); (case hg => rfl); (case hr => exact ts15_); intro gb619 hg w7 hbox hb; have BK619 := Aside0.mk (hbox); have GW619 := Aside0.mk ((ts45_ HB.out : w.heap.size ≤ gb619)); have GE619 := Aside0.mk ((ts45_ HB.out : w.heap.size ≤ gb619)); replace HB := Aside0.mk (below_step (ts34_ HB.out) hb); clear hb hbox hg; have hcz8_0 : w7.cell? ⟨gb619, 0, none⟩ = some (.slice A0_0 l0_0.length c0_0) := (blk_cell BK619.out 0).trans rfl; have hcz8_1 : w7.cell? ⟨gb619, 1, none⟩ = some (.slice A0_1 l0_1.length c0_1) := (blk_cell BK619.out 1).trans rfl; have hcz8_2 : w7.cell? ⟨gb619, 2, none⟩ = some (.int .i64 a0_2) := (blk_cell BK619.out 2).trans rfl; have hfz8_0 := blk_frozen BK619.out 0; have hfz8_1 := blk_frozen BK619.out 1; have hfz8_2 := blk_frozen BK619.out 2) | ((with_reducible refine gate_callee (f := 18) rfl ?_); refine goesL_ (some 12) rfl rfl Tryd.func18 (by kernel_rfl) rfl #[.agg #[.slice A0_0 l0_0.length c0_0, .slice A0_1 l0_1.length c0_1, .int .i64 a0_2]] rfl ts8_ ?_; (with_reducible refine (cupelref20_Check.calls k _ _ l0_0 _ _ l0_1 a0_2 t620 _ ?side1 ?side2 ?side3 ?side4 A2.out).mono ?_); (case side1 => exact ts35_ HR0_0.out HB.out); (case side2 => exact HC0_0.out); (case side3 => exact ts35_ HR0_1.out HB.out); (case side4 => exact HC0_1.out); rintro e w9 ⟨rfl, hb⟩; refine ⟨_, rfl, ?_⟩; replace BK619 := Aside0.mk (blk_below (g := gb619) (o := .cells #[.slice A0_0 l0_0.length c0_0, .slice A0_1 l0_1.length c0_1, .int .i64 a0_2] 35 (0, 0)) (ts14_ BK619.out) hb); replace HB := Aside0.mk (below_step (ts17_ HB.out GE619.out) hb); clear hb; have hcz10_0 : w9.cell? ⟨gb619, 0, none⟩ = some (.slice A0_0 l0_0.length c0_0) := (blk_cell BK619.out 0).trans rfl; have hcz10_1 : w9.cell? ⟨gb619, 1, none⟩ = some (.slice A0_1 l0_1.length c0_1) := (blk_cell BK619.out 1).trans rfl; have hcz10_2 : w9.cell? ⟨gb619, 2, none⟩ = some (.int .i64 a0_2) := (blk_cell BK619.out 2).trans rfl; have hfz10_0 := blk_frozen BK619.out 0; have hfz10_1 := blk_frozen BK619.out 1; have hfz10_2 := blk_frozen BK619.out 2) | ((with_reducible refine gate_callee (f := 53) rfl ?_); refine goesL_ (some 18) rfl rfl Tryd.func53 (by kernel_rfl) rfl #[.int .i64 a0_2] rfl ts8_ ?_; (with_reducible refine (cupelref20_number.calls k a0_2 t621 _ A4.out).mono ?_); rintro e w11 ⟨rfl, hb⟩; refine ⟨_, rfl, ?_⟩; replace BK619 := Aside0.mk (blk_below (g := gb619) (o := .cells #[.slice A0_0 l0_0.length c0_0, .slice A0_1 l0_1.length c0_1, .int .i64 a0_2] 35 (0, 0)) (ts14_ BK619.out) hb); replace HB := Aside0.mk (below_step (ts17_ HB.out GE619.out) hb); clear hb))
    go_loopg [5, 6] k (fun kq v5 v6 w' => ∃ (x5_1 : ByteArray) (x6_1 : Int), v5 = .string x5_1 ∧ v6 = .int .i64 x6_1 ∧ Aside0 (cupelref20_Print.l0 kq x5_1 x6_1 l0_0 l0_1 a0_2 = some (r1, r2)) ∧ Aside0 (kq ≤ k) ∧ Aside0 (w'.heap[gb619]? = some (.cells #[(.slice A0_0 l0_0.length c0_0), (.slice A0_1 l0_1.length c0_1), .int .i64 a0_2] 35 (0, 0))) ∧ Aside0 (Below w.heap.size w w'))
    case atStart => exact ⟨(((⟨#[101, 110, 116, 114, 121, 32]⟩ : ByteArray) ++ t621) ++ (⟨#[59, 10]⟩ : ByteArray)), (0), ts32_, ts32_, H', ⟨Nat.le_refl _⟩, ⟨ts14_ BK619.out⟩, ⟨ts17_ HB.out GE619.out⟩⟩
    case round =>
     clear H'
     try clear c1
     try clear c2
     try clear p2
     try clear c3
     try clear c3b0
     try clear c3b1
     try clear c5
     try clear c5b0
     try clear c5b1
     try clear c5b2
     try clear c6
     try clear c6b0
     try clear c6b1
     try clear c6b2
     try clear hcz10_0
     try clear hcz10_1
     try clear hcz10_2
     try clear hcz8_0
     try clear hcz8_1
     try clear hcz8_2
     try clear hfz10_0
     try clear hfz10_1
     try clear hfz10_2
     try clear hfz8_0
     try clear hfz8_1
     try clear hfz8_2
     obtain ⟨x5_1, x6_1, rfl, rfl, HA, HK1, BK619, HB⟩ := hrel
     cases gk with
     | zero => exact absurd HA.out (by simp [cupelref20_Print.l0])
     | succ k1 =>
      have H := HA.out
      clear HA
      simp only [cupelref20_Print.l0] at H
      by_cases c12 : x6_1 < (l0_1.length : Int)
      ·rw [if_pos c12] at H
       have c12b0 : decide (x6_1 < (l0_1.length : Int)) = true := decide_eq_true c12
       clear c12
       by_cases c13 : x5_1.size + 5 ≤ 9223372036854775807
       ·rw [if_pos c13] at H
        have c13b0 := eq_true c13
        have c13b1 : decide (x5_1.size + 5 ≤ 9223372036854775807) = true := decide_eq_true c13
        try have c13b2 : (9223372036854775807 < x5_1.size + 5) = False := eq_false (Nat.not_lt.2 c13)
        have c13b3 := c13b2
        try simp only [ByteArray.size_append, bsz1, bsz2, bsz3, bsz5, bsz6] at c13b3
        by_cases c14 : 0 ≤ x6_1
        ·rw [if_pos c14] at H
         have c14b0 : decide (0 ≤ x6_1) = true := decide_eq_true c14
         clear c14
         obtain ⟨t623, A15, H⟩ := bsA_ H
         try dsimp only at H
         by_cases c16 : (x5_1 ++ (⟨#[100, 97, 116, 97, 32]⟩ : ByteArray)).size + t623.size ≤ 9223372036854775807
         ·rw [if_pos c16] at H
          have c16b0 := eq_true c16
          have c16b1 : decide ((x5_1 ++ (⟨#[100, 97, 116, 97, 32]⟩ : ByteArray)).size + t623.size ≤ 9223372036854775807) = true := decide_eq_true c16
          try have c16b2 : (9223372036854775807 < (x5_1 ++ (⟨#[100, 97, 116, 97, 32]⟩ : ByteArray)).size + t623.size) = False := eq_false (Nat.not_lt.2 c16)
          have c16b3 := c16b2
          try simp only [ByteArray.size_append, bsz1, bsz2, bsz3, bsz5, bsz6] at c16b3
          by_cases c17 : ((x5_1 ++ (⟨#[100, 97, 116, 97, 32]⟩ : ByteArray)) ++ t623).size + 2 ≤ 9223372036854775807
          ·rw [if_pos c17] at H
           have c17b0 := eq_true c17
           have c17b1 : decide (((x5_1 ++ (⟨#[100, 97, 116, 97, 32]⟩ : ByteArray)) ++ t623).size + 2 ≤ 9223372036854775807) = true := decide_eq_true c17
           try have c17b2 : (9223372036854775807 < ((x5_1 ++ (⟨#[100, 97, 116, 97, 32]⟩ : ByteArray)) ++ t623).size + 2) = False := eq_false (Nat.not_lt.2 c17)
           have c17b3 := c17b2
           try simp only [ByteArray.size_append, bsz1, bsz2, bsz3, bsz5, bsz6] at c17b3
           have H' := Aside0.mk H
           clear H
           have hcz18_0 : wr.cell? ⟨gb619, 0, none⟩ = some (.slice A0_0 l0_0.length c0_0) := (blk_cell BK619.out 0).trans rfl
           have hcz18_1 : wr.cell? ⟨gb619, 1, none⟩ = some (.slice A0_1 l0_1.length c0_1) := (blk_cell BK619.out 1).trans rfl
           have hcz18_2 : wr.cell? ⟨gb619, 2, none⟩ = some (.int .i64 a0_2) := (blk_cell BK619.out 2).trans rfl
           have hfz18_0 := blk_frozen BK619.out 0
           have hfz18_1 := blk_frozen BK619.out 1
           have hfz18_2 := blk_frozen BK619.out 2
           have p622 : 0 ≤ (x6_1 : Int) := of_decide_eq_true ts24_
           have q622 : x6_1 < (l0_1.length : Int) := of_decide_eq_true ts24_
           obtain ⟨ad622, e622, hx622_0⟩ := Kd.at_int HR0_1.out x6_1 p622 q622
           cases e622
           replace hx622_0 := (HB.out.cell (World.block_lt_of_cell? w _ hx622_0)).trans hx622_0
           replace p622 := eq_true p622
           replace q622 := eq_true q622
           go_wp2_with (first | ((with_reducible refine gate_callee (f := 53) rfl ?_); refine goesL_ (some 35) rfl rfl Tryd.func53 (by kernel_rfl) rfl #[.int .i64 (rd l0_1 x6_1)] rfl ts8_ ?_; (with_reducible refine (cupelref20_number.calls k1 (rd l0_1 x6_1) t623 _ A15.out).mono ?_); rintro e w19 ⟨rfl, hb⟩; refine ⟨_, rfl, ?_⟩; replace BK619 := Aside0.mk (blk_below (g := gb619) (o := .cells #[.slice A0_0 l0_0.length c0_0, .slice (some ad622) l0_1.length c0_1, .int .i64 a0_2] 35 (0, 0)) (ts14_ BK619.out) hb); replace HB := Aside0.mk (below_step (ts17_ HB.out GE619.out) hb); clear hb))
           go_roundg k1
           case measure => have := HK1.out; omega
           case rel => exact ⟨(((x5_1 ++ (⟨#[100, 97, 116, 97, 32]⟩ : ByteArray)) ++ t623) ++ (⟨#[59, 10]⟩ : ByteArray)), (wrap64 (x6_1 + 1)), ts32_, ts32_, H', ⟨by have := HK1.out; omega⟩, ⟨ts14_ BK619.out⟩, ⟨ts17_ HB.out GE619.out⟩⟩
          rw [if_neg c17] at H
          exact absurd H (by simp)
         rw [if_neg c16] at H
         exact absurd H (by simp)
        rw [if_neg c14] at H
        exact absurd H (by simp)
       rw [if_neg c13] at H
       exact absurd H (by simp)
      rw [if_neg c12] at H
      have c12b0 : decide (x6_1 < (l0_1.length : Int)) = false := decide_eq_false c12
      clear c12
      have H' := Aside0.mk H
      clear H
      have hcz20_0 : wr.cell? ⟨gb619, 0, none⟩ = some (.slice A0_0 l0_0.length c0_0) := (blk_cell BK619.out 0).trans rfl
      have hcz20_1 : wr.cell? ⟨gb619, 1, none⟩ = some (.slice A0_1 l0_1.length c0_1) := (blk_cell BK619.out 1).trans rfl
      have hcz20_2 : wr.cell? ⟨gb619, 2, none⟩ = some (.int .i64 a0_2) := (blk_cell BK619.out 2).trans rfl
      have hfz20_0 := blk_frozen BK619.out 0
      have hfz20_1 := blk_frozen BK619.out 1
      have hfz20_2 := blk_frozen BK619.out 2
      go_wp2
      go_loopg [5, 7] k1 (fun kq v5 v7 w' => ∃ (x5_2 : ByteArray) (x7_2 : Int), v5 = .string x5_2 ∧ v7 = .int .i64 x7_2 ∧ Aside0 (cupelref20_Print.l1 kq x5_2 x7_2 l0_0 l0_1 a0_2 = some (r1, r2)) ∧ Aside0 (kq ≤ k1) ∧ Aside0 (w'.heap[gb619]? = some (.cells #[(.slice A0_0 l0_0.length c0_0), (.slice A0_1 l0_1.length c0_1), .int .i64 a0_2] 35 (0, 0))) ∧ Aside0 (Below w.heap.size w w'))
      case atStart => exact ⟨(x5_1), (0), ts32_, ts32_, H', ⟨Nat.le_refl _⟩, ⟨ts14_ BK619.out⟩, ⟨ts17_ HB.out GE619.out⟩⟩
      case round =>
       clear H'
       try clear c1
       try clear c2
       try clear p2
       try clear c3
       try clear c3b0
       try clear c3b1
       try clear c5
       try clear c5b0
       try clear c5b1
       try clear c5b2
       try clear c6
       try clear c6b0
       try clear c6b1
       try clear c6b2
       try clear p6
       try clear q6
       try clear hx6
       try clear c12
       try clear c12b0
       try clear c13
       try clear c13b0
       try clear c13b1
       try clear c13b2
       try clear c14
       try clear c14b0
       try clear c16
       try clear c16b0
       try clear c16b1
       try clear c16b2
       try clear c17
       try clear c17b0
       try clear c17b1
       try clear c17b2
       try clear c18
       try clear hcz10_0
       try clear hcz10_1
       try clear hcz10_2
       try clear hcz18_0
       try clear hcz18_1
       try clear hcz18_2
       try clear hcz20_0
       try clear hcz20_1
       try clear hcz20_2
       try clear hcz8_0
       try clear hcz8_1
       try clear hcz8_2
       try clear hfz10_0
       try clear hfz10_1
       try clear hfz10_2
       try clear hfz18_0
       try clear hfz18_1
       try clear hfz18_2
       try clear hfz20_0
       try clear hfz20_1
       try clear hfz20_2
       try clear hfz8_0
       try clear hfz8_1
       try clear hfz8_2
       try clear hx622_0
       try clear p2
       try clear p622
       try clear q622
       obtain ⟨x5_2, x7_2, rfl, rfl, HA, HK2, BK619, HB⟩ := hrel
       cases gk with
       | zero => exact absurd HA.out (by simp [cupelref20_Print.l1])
       | succ k2 =>
        have H := HA.out
        clear HA
        simp only [cupelref20_Print.l1] at H
        by_cases c21 : x7_2 < (l0_0.length : Int)
        ·rw [if_pos c21] at H
         have c21b0 : decide (x7_2 < (l0_0.length : Int)) = true := decide_eq_true c21
         clear c21
         obtain ⟨⟨t624, t625, t626, t627, t628, t629, t630⟩, A22, H⟩ := bsA_ H
         try dsimp only at H
         obtain ⟨t632, A23, H⟩ := bsA_ H
         try dsimp only at H
         by_cases c24 : x5_2.size + t632.size ≤ 9223372036854775807
         ·rw [if_pos c24] at H
          have c24b0 := eq_true c24
          have c24b1 : decide (x5_2.size + t632.size ≤ 9223372036854775807) = true := decide_eq_true c24
          try have c24b2 : (9223372036854775807 < x5_2.size + t632.size) = False := eq_false (Nat.not_lt.2 c24)
          have c24b3 := c24b2
          try simp only [ByteArray.size_append, bsz1, bsz2, bsz3, bsz5, bsz6] at c24b3
          by_cases c25 : (x5_2 ++ t632).size + 1 ≤ 9223372036854775807
          ·rw [if_pos c25] at H
           have c25b0 := eq_true c25
           have c25b1 : decide ((x5_2 ++ t632).size + 1 ≤ 9223372036854775807) = true := decide_eq_true c25
           try have c25b2 : (9223372036854775807 < (x5_2 ++ t632).size + 1) = False := eq_false (Nat.not_lt.2 c25)
           have c25b3 := c25b2
           try simp only [ByteArray.size_append, bsz1, bsz2, bsz3, bsz5, bsz6] at c25b3
           have H' := Aside0.mk H
           clear H
           have hcz26_0 : wr.cell? ⟨gb619, 0, none⟩ = some (.slice A0_0 l0_0.length c0_0) := (blk_cell BK619.out 0).trans rfl
           have hcz26_1 : wr.cell? ⟨gb619, 1, none⟩ = some (.slice A0_1 l0_1.length c0_1) := (blk_cell BK619.out 1).trans rfl
           have hcz26_2 : wr.cell? ⟨gb619, 2, none⟩ = some (.int .i64 a0_2) := (blk_cell BK619.out 2).trans rfl
           have hfz26_0 := blk_frozen BK619.out 0
           have hfz26_1 := blk_frozen BK619.out 1
           have hfz26_2 := blk_frozen BK619.out 2
           go_wp2_with (first | ((with_reducible refine gate_callee (f := 16) rfl ?_); refine goesL_ (some 47) rfl rfl Tryd.func16 (by kernel_rfl) rfl #[.slice A0_0 l0_0.length c0_0, .int .i64 x7_2] rfl ts8_ ?_; (with_reducible refine (cupelref20_Decode.calls k2 _ _ l0_0 x7_2 t624 t625 t626 t627 t628 t629 t630 _ ?side1 ?side2 A22.out).mono ?_); (case side1 => exact ts35_ HR0_0.out HB.out); (case side2 => exact HC0_0.out); rintro e w27 ⟨rfl, hb⟩; refine ⟨_, rfl, ?_⟩; replace BK619 := Aside0.mk (blk_below (g := gb619) (o := .cells #[.slice A0_0 l0_0.length c0_0, .slice A0_1 l0_1.length c0_1, .int .i64 a0_2] 35 (0, 0)) (ts14_ BK619.out) hb); replace HB := Aside0.mk (below_step (ts17_ HB.out GE619.out) hb); clear hb) | ((with_reducible refine gate_dst (N := 8) rfl ?_); refine box_event ?hg (N := 8) ?hd (cs := #[.int .i64 0, .int .i64 0, .int .i64 0, .int .i64 0, .int .i64 0]) (t := 26) ?hr ?_; (case hd => rfl); (case hg => rfl); (case hr => exact ts15_); intro gb631 hg w28 hbox hb; have BK631 := Aside0.mk (hbox); have GW631 := Aside0.mk ((ts38_ HB.out GE619.out : w.heap.size ≤ gb631)); have GE631 := Aside0.mk ((ts38_ HB.out GE619.out : w.heap.size ≤ gb631)); replace HB := Aside0.mk (below_step (ts17_ HB.out GE619.out) hb); have NB619_631 := Aside0.mk ((by rw [hg]; exact Nat.ne_of_lt (blk_lt (g := gb619) (o := .cells #[.slice A0_0 l0_0.length c0_0, .slice A0_1 l0_1.length c0_1, .int .i64 a0_2] 35 (0, 0)) (ts14_ BK619.out)) : gb619 ≠ gb631)); have NB631_619 := Aside0.mk ((by rw [hg]; exact Nat.ne_of_gt (blk_lt (g := gb619) (o := .cells #[.slice A0_0 l0_0.length c0_0, .slice A0_1 l0_1.length c0_1, .int .i64 a0_2] 35 (0, 0)) (ts14_ BK619.out)) : gb631 ≠ gb619)); replace BK619 := Aside0.mk (blk_below (g := gb619) (o := .cells #[.slice A0_0 l0_0.length c0_0, .slice A0_1 l0_1.length c0_1, .int .i64 a0_2] 35 (0, 0)) (ts14_ BK619.out) hb); clear hb hbox hg; have hnb29 := NB631_619.out; have hnc29 := NB619_631.out; have hcz30_0 : w28.cell? ⟨gb631, 0, none⟩ = some (.int .i64 0) := (blk_cell BK631.out 0).trans rfl; have hcz30_1 : w28.cell? ⟨gb631, 1, none⟩ = some (.int .i64 0) := (blk_cell BK631.out 1).trans rfl; have hcz30_2 : w28.cell? ⟨gb631, 2, none⟩ = some (.int .i64 0) := (blk_cell BK631.out 2).trans rfl; have hcz30_3 : w28.cell? ⟨gb631, 3, none⟩ = some (.int .i64 0) := (blk_cell BK631.out 3).trans rfl; have hcz30_4 : w28.cell? ⟨gb631, 4, none⟩ = some (.int .i64 0) := (blk_cell BK631.out 4).trans rfl; have hfz30_0 := blk_frozen BK631.out 0; have hfz30_1 := blk_frozen BK631.out 1; have hfz30_2 := blk_frozen BK631.out 2; have hfz30_3 := blk_frozen BK631.out 3; have hfz30_4 := blk_frozen BK631.out 4) | ((with_reducible refine gate_callee (f := 54) rfl ?_); refine goesL_ (some 53) rfl rfl Tryd.func54 (by kernel_rfl) rfl #[.agg #[.int .i64 t624, .int .i64 t625, .int .i64 t626, .int .i64 t627, .int .i64 t628]] rfl ts8_ ?_; (with_reducible refine (cupelref20_Line.calls k2 t624 t625 t626 t627 t628 t632 _ A23.out).mono ?_); rintro e w31 ⟨rfl, hb⟩; refine ⟨_, rfl, ?_⟩; replace BK619 := Aside0.mk (blk_below (g := gb619) (o := .cells #[.slice A0_0 l0_0.length c0_0, .slice A0_1 l0_1.length c0_1, .int .i64 a0_2] 35 (0, 0)) (ts5_ NB619_631.out BK619.out) hb); replace BK631 := Aside0.mk (blk_below (g := gb631) (o := .cells #[.int .i64 t624, .int .i64 t625, .int .i64 t626, .int .i64 t627, .int .i64 t628] 26 (0, 0)) (by (with_reducible repeat (first | refine blk_drewN ?_ _ | refine blk_drew ?_ | refine blk_alloc ?_ _)); refine blk_put (cs := #[.int .i64 t624, .int .i64 t625, .int .i64 t626, .int .i64 t627, .int .i64 0]) ?_ 4 _ rfl; (with_reducible repeat (first | refine blk_drewN ?_ _ | refine blk_drew ?_ | refine blk_alloc ?_ _)); refine blk_put (cs := #[.int .i64 t624, .int .i64 t625, .int .i64 t626, .int .i64 0, .int .i64 0]) ?_ 3 _ rfl; (with_reducible repeat (first | refine blk_drewN ?_ _ | refine blk_drew ?_ | refine blk_alloc ?_ _)); refine blk_put (cs := #[.int .i64 t624, .int .i64 t625, .int .i64 0, .int .i64 0, .int .i64 0]) ?_ 2 _ rfl; (with_reducible repeat (first | refine blk_drewN ?_ _ | refine blk_drew ?_ | refine blk_alloc ?_ _)); refine blk_put (cs := #[.int .i64 t624, .int .i64 0, .int .i64 0, .int .i64 0, .int .i64 0]) ?_ 1 _ rfl; (with_reducible repeat (first | refine blk_drewN ?_ _ | refine blk_drew ?_ | refine blk_alloc ?_ _)); refine blk_put (cs := #[.int .i64 0, .int .i64 0, .int .i64 0, .int .i64 0, .int .i64 0]) ?_ 0 _ rfl; (with_reducible repeat (first | refine blk_drewN ?_ _ | refine blk_drew ?_ | refine blk_alloc ?_ _)); exact BK631.out) hb); replace HB := Aside0.mk (below_step (ts25_ HB.out GE619.out GE631.out) hb); clear hb))
           go_roundg k2
           case measure => have := HK1.out; have := HK2.out; omega
           case rel => exact ⟨((x5_2 ++ t632) ++ (⟨#[10]⟩ : ByteArray)), (t629), ts32_, ts32_, H', ⟨by have := HK1.out; have := HK2.out; omega⟩, ⟨ts14_ BK619.out⟩, ⟨ts25_ HB.out GE619.out GE631.out⟩⟩
          rw [if_neg c25] at H
          exact absurd H (by simp)
         rw [if_neg c24] at H
         exact absurd H (by simp)
        rw [if_neg c21] at H
        have c21b0 : decide (x7_2 < (l0_0.length : Int)) = false := decide_eq_false c21
        clear c21
        simp only [Option.some.injEq, Prod.mk.injEq] at H
        obtain ⟨rfl, rfl⟩ := H
        have hcz32_0 : wr.cell? ⟨gb619, 0, none⟩ = some (.slice A0_0 l0_0.length c0_0) := (blk_cell BK619.out 0).trans rfl
        have hcz32_1 : wr.cell? ⟨gb619, 1, none⟩ = some (.slice A0_1 l0_1.length c0_1) := (blk_cell BK619.out 1).trans rfl
        have hcz32_2 : wr.cell? ⟨gb619, 2, none⟩ = some (.int .i64 a0_2) := (blk_cell BK619.out 2).trans rfl
        have hfz32_0 := blk_frozen BK619.out 0
        have hfz32_1 := blk_frozen BK619.out 1
        have hfz32_2 := blk_frozen BK619.out 2
        go_wp2
        go_ret2
        exact ⟨ts26_, ts17_ HB.out GE619.out⟩
   rw [if_neg c6] at H
   exact absurd H (by simp)
  rw [if_neg c5] at H
  exact absurd H (by simp)
 rw [if_neg c3] at H
 have c3b0 : (t620 == 0) = false := beq_eq_false_iff_ne.mpr c3
 have c3b1 : (t620 != 0) = true := bne_iff_ne.mpr c3
 simp only [Option.some.injEq, Prod.mk.injEq] at H
 obtain ⟨rfl, rfl⟩ := H
 go_enter Tryd.func23, Tryd.ntmps23
 go_wp2_with (first | ((with_reducible refine gate_dst (N := 1) rfl ?_); refine box_event ?hg (N := 1) ?hd (cs := #[.slice A0_0 l0_0.length c0_0, .slice A0_1 l0_1.length c0_1, .int .i64 a0_2]) (t := 35) ?hr ?_; (case hd => rfl); (case hg => rfl); (case hr => exact ts15_); intro gb619 hg w33 hbox hb; have BK619 := Aside0.mk (hbox); have GW619 := Aside0.mk ((ts45_ HB.out : w.heap.size ≤ gb619)); have GE619 := Aside0.mk ((ts45_ HB.out : w.heap.size ≤ gb619)); replace HB := Aside0.mk (below_step (ts34_ HB.out) hb); clear hb hbox hg; have hcz34_0 : w33.cell? ⟨gb619, 0, none⟩ = some (.slice A0_0 l0_0.length c0_0) := (blk_cell BK619.out 0).trans rfl; have hcz34_1 : w33.cell? ⟨gb619, 1, none⟩ = some (.slice A0_1 l0_1.length c0_1) := (blk_cell BK619.out 1).trans rfl; have hcz34_2 : w33.cell? ⟨gb619, 2, none⟩ = some (.int .i64 a0_2) := (blk_cell BK619.out 2).trans rfl; have hfz34_0 := blk_frozen BK619.out 0; have hfz34_1 := blk_frozen BK619.out 1; have hfz34_2 := blk_frozen BK619.out 2) | ((with_reducible refine gate_callee (f := 18) rfl ?_); refine goesL_ (some 12) rfl rfl Tryd.func18 (by kernel_rfl) rfl #[.agg #[.slice A0_0 l0_0.length c0_0, .slice A0_1 l0_1.length c0_1, .int .i64 a0_2]] rfl ts8_ ?_; (with_reducible refine (cupelref20_Check.calls k _ _ l0_0 _ _ l0_1 a0_2 t620 _ ?side1 ?side2 ?side3 ?side4 A2.out).mono ?_); (case side1 => exact ts35_ HR0_0.out HB.out); (case side2 => exact HC0_0.out); (case side3 => exact ts35_ HR0_1.out HB.out); (case side4 => exact HC0_1.out); rintro e w35 ⟨rfl, hb⟩; refine ⟨_, rfl, ?_⟩; replace BK619 := Aside0.mk (blk_below (g := gb619) (o := .cells #[.slice A0_0 l0_0.length c0_0, .slice A0_1 l0_1.length c0_1, .int .i64 a0_2] 35 (0, 0)) (ts14_ BK619.out) hb); replace HB := Aside0.mk (below_step (ts17_ HB.out GE619.out) hb); clear hb))
 go_ret2
 exact ⟨ts26_, ts17_ HB.out GE619.out⟩
-- NOT PRINTED: function 6 (cupellaw20_TargetPrints)
-- NOT PRINTED: function 7 (cupellaw20_TargetBack)
-- NOT PRINTED: function 8 (cupellaw20_TargetCanon)
end Go.Proofs.YtlaijeeeblcinaaDoor.A

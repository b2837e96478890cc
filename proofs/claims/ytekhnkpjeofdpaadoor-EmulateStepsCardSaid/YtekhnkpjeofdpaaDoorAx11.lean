/- Written by wip/tools/xprint.py, a program of this session that drives the kit's printer. Not trusted: Lean checks it. -/
import Derived.Test.YtekhnkpjeofdpaaDoorAx0
import Derived.Test.YtekhnkpjeofdpaaDoorAx2
import Derived.Test.YtekhnkpjeofdpaaDoorAx4
import Derived.Test.YtekhnkpjeofdpaaDoorAx7
import Derived.Test.YtekhnkpjeofdpaaDoorAx8
import Derived.Test.YtekhnkpjeofdpaaDoorAx10
import Derived.Test.YtekhnkpjeofdpaaDoorRefNext
import Derived.Test.YtekhnkpjeofdpaaDoorRefRows
namespace Go.Proofs.YtekhnkpjeofdpaaDoor.A
open Go.RowKit Go.Proofs.YtekhnkpjeofdpaaDoorW.PrintWords Go.Proofs.YtekhnkpjeofdpaaDoorW.PrintLast Go.Proofs.YtekhnkpjeofdpaaDoorW.PrintMore
attribute [local go_sem] max2_int min2_int max_two min_two max_three min_three max_four min_four   -- for this text's walks alone
set_option linter.unusedVariables false
set_option linter.unusedSimpArgs false
/-! ### cupelref20_Parse: function 43 -/
mutual
def cupelref20_Parse.l0 : Nat → ByteArray → Int → Int → Int → ByteArray → Int → Bool → Int → List Int → Int → Option (List Int × List Int × Int × Int × Int)
 | 0, _, _, _, _, _, _, _, _, _, _ => none
 | k + 1, x452000, x452001, x452002, x452003, x452004, x452005, x452006, x452007, x478001, x478002 => (cupelref20_reader_take.f k x452000 x452001 x452002 x452003 x452004 x452005 x452006 x452007 (⟨#[100, 97, 116, 97]⟩ : ByteArray)).bind fun bt486 => (if bt486.1 = true then ((cupelref20_reader_number.f k bt486.2.1 bt486.2.2.1 bt486.2.2.2.1 bt486.2.2.2.2.1 bt486.2.2.2.2.2.1 bt486.2.2.2.2.2.2.1 bt486.2.2.2.2.2.2.2.1 bt486.2.2.2.2.2.2.2.2 2).bind fun bt495 => (if x478001.length < 17592186044416 then ((cupelref20_reader_want.f k bt495.2.1 bt495.2.2.1 bt495.2.2.2.1 bt495.2.2.2.2.1 bt495.2.2.2.2.2.1 bt495.2.2.2.2.2.2.1 bt495.2.2.2.2.2.2.2.1 bt495.2.2.2.2.2.2.2.2 (⟨#[59]⟩ : ByteArray)).bind fun bt507 => (cupelref20_Parse.l0 k bt507.1 bt507.2.1 bt507.2.2.1 bt507.2.2.2.1 bt507.2.2.2.2.1 bt507.2.2.2.2.2.1 bt507.2.2.2.2.2.2.1 bt507.2.2.2.2.2.2.2 (x478001 ++ [bt495.1]) x478002)) else (none))) else ((cupelref20_rows.f).bind fun t515 => (cupelref20_Parse.l1 k t515 bt486.2.1 bt486.2.2.1 bt486.2.2.2.1 bt486.2.2.2.2.1 bt486.2.2.2.2.2.1 bt486.2.2.2.2.2.2.1 bt486.2.2.2.2.2.2.2.1 bt486.2.2.2.2.2.2.2.2 ([] : List Int) x478001 x478002)))
def cupelref20_Parse.l1 : Nat → List (S96) → ByteArray → Int → Int → Int → ByteArray → Int → Bool → Int → List Int → List Int → Int → Option (List Int × List Int × Int × Int × Int)
 | 0, _, _, _, _, _, _, _, _, _, _, _, _ => none
 | k + 1, x7, x452000, x452001, x452002, x452003, x452004, x452005, x452006, x452007, x478000, x478001, x478002 => if x452006 = true then (cupelref20_Parse.j2 k x7 false x452000 x452001 x452002 x452003 x452004 x452005 x452006 x452007 x478000 x478001 x478002) else (cupelref20_Parse.j2 k x7 (x452003 != 46) x452000 x452001 x452002 x452003 x452004 x452005 x452006 x452007 x478000 x478001 x478002)
def cupelref20_Parse.j2 : Nat → List (S96) → Bool → ByteArray → Int → Int → Int → ByteArray → Int → Bool → Int → List Int → List Int → Int → Option (List Int × List Int × Int × Int × Int)
 | 0, _, _, _, _, _, _, _, _, _, _, _, _, _ => none
 | k + 1, x7, x52, x452000, x452001, x452002, x452003, x452004, x452005, x452006, x452007, x478000, x478001, x478002 => if x52 = true then (cupelref20_Parse.l2 k x7 false 0 x452000 x452001 x452002 x452003 x452004 x452005 x452006 x452007 x478000 x478001 x478002) else (if x452006 = true then (some (([] : List Int), ([] : List Int), 0, x452007, 6)) else ((cupelref20_Check.f k x478000 x478001 x478002).bind fun t557 => (if t557 = 0 then (some (x478000, x478001, x478002, 0, 0)) else (some (([] : List Int), ([] : List Int), 0, 0, t557)))))
def cupelref20_Parse.l2 : Nat → List (S96) → Bool → Int → ByteArray → Int → Int → Int → ByteArray → Int → Bool → Int → List Int → List Int → Int → Option (List Int × List Int × Int × Int × Int)
 | 0, _, _, _, _, _, _, _, _, _, _, _, _, _, _ => none
 | k + 1, x7, x8, x9, x452000, x452001, x452002, x452003, x452004, x452005, x452006, x452007, x478000, x478001, x478002 => if x9 < (x7.length : Int) then (cupelref20_Parse.j4 k x7 x8 x9 (!x8) x452000 x452001 x452002 x452003 x452004 x452005 x452006 x452007 x478000 x478001 x478002) else (cupelref20_Parse.j4 k x7 x8 x9 false x452000 x452001 x452002 x452003 x452004 x452005 x452006 x452007 x478000 x478001 x478002)
def cupelref20_Parse.j4 : Nat → List (S96) → Bool → Int → Bool → ByteArray → Int → Int → Int → ByteArray → Int → Bool → Int → List Int → List Int → Int → Option (List Int × List Int × Int × Int × Int)
 | 0, _, _, _, _, _, _, _, _, _, _, _, _, _, _, _ => none
 | k + 1, x7, x8, x9, x60, x452000, x452001, x452002, x452003, x452004, x452005, x452006, x452007, x478000, x478001, x478002 => if x60 = true then (if 0 ≤ x9 then (if x9 < (x7.length : Int) then ((cupelref20_reader_take.f k x452000 x452001 x452002 x452003 x452004 x452005 x452006 x452007 ((rd_T96 x7 x9).f1)).bind fun bt527 => (if bt527.1 = true then ((cupelref20_reader_instr.f k bt527.2.1 bt527.2.2.1 bt527.2.2.2.1 bt527.2.2.2.2.1 bt527.2.2.2.2.2.1 bt527.2.2.2.2.2.2.1 bt527.2.2.2.2.2.2.2.1 bt527.2.2.2.2.2.2.2.2 ((rd_T96 x7 x9).f0) ((rd_T96 x7 x9).f1) ((rd_T96 x7 x9).f2) ((rd_T96 x7 x9).f3) ((rd_T96 x7 x9).f4) ((rd_T96 x7 x9).f5)).bind fun bt537 => (if bt537.2.2.2.2.2.2.2.2.2.2.2.1 = true then (cupelref20_Parse.l2 k x7 true (wrap64 (x9 + 1)) bt537.2.2.2.2.2.1 bt537.2.2.2.2.2.2.1 bt537.2.2.2.2.2.2.2.1 bt537.2.2.2.2.2.2.2.2.1 bt537.2.2.2.2.2.2.2.2.2.1 bt537.2.2.2.2.2.2.2.2.2.2.1 bt537.2.2.2.2.2.2.2.2.2.2.2.1 bt537.2.2.2.2.2.2.2.2.2.2.2.2 x478000 x478001 x478002) else ((cupelref20_words.f bt537.1 bt537.2.1 bt537.2.2.1 bt537.2.2.2.1 bt537.2.2.2.2.1).bind fun t551 => (if x478000.length + t551.length < 17592186044416 then (cupelref20_Parse.l2 k x7 true (wrap64 (x9 + 1)) bt537.2.2.2.2.2.1 bt537.2.2.2.2.2.2.1 bt537.2.2.2.2.2.2.2.1 bt537.2.2.2.2.2.2.2.2.1 bt537.2.2.2.2.2.2.2.2.2.1 bt537.2.2.2.2.2.2.2.2.2.2.1 bt537.2.2.2.2.2.2.2.2.2.2.2.1 bt537.2.2.2.2.2.2.2.2.2.2.2.2 (x478000 ++ t551) x478001 x478002) else (none))))) else (cupelref20_Parse.l2 k x7 x8 (wrap64 (x9 + 1)) bt527.2.1 bt527.2.2.1 bt527.2.2.2.1 bt527.2.2.2.2.1 bt527.2.2.2.2.2.1 bt527.2.2.2.2.2.2.1 bt527.2.2.2.2.2.2.2.1 bt527.2.2.2.2.2.2.2.2 x478000 x478001 x478002))) else (none)) else (none)) else (if x8 = true then (cupelref20_Parse.l1 k x7 x452000 x452001 x452002 x452003 x452004 x452005 x452006 x452007 x478000 x478001 x478002) else ((cupelref20_reader_wrong.f x452000 x452001 x452002 x452003 x452004 x452005 x452006 x452007).bind fun bt518 => (cupelref20_Parse.l1 k x7 bt518.1 bt518.2.1 bt518.2.2.1 bt518.2.2.2.1 bt518.2.2.2.2.1 bt518.2.2.2.2.2.1 bt518.2.2.2.2.2.2.1 bt518.2.2.2.2.2.2.2 x478000 x478001 x478002)))
end
def cupelref20_Parse.f (k : Nat) (a0 : ByteArray) : Option (List Int × List Int × Int × Int × Int) := if (a0.size : Int) > 600000 then (some (([] : List Int), ([] : List Int), 0, 0, 3)) else ((cupelref20_reader_next.f k a0 0 0 0 (⟨#[]⟩ : ByteArray) 0 false 0).bind fun bt452 => ((cupelref20_reader_want.f k bt452.1 bt452.2.1 bt452.2.2.1 bt452.2.2.2.1 bt452.2.2.2.2.1 bt452.2.2.2.2.2.1 bt452.2.2.2.2.2.2.1 bt452.2.2.2.2.2.2.2 (⟨#[101, 110, 116, 114, 121]⟩ : ByteArray)).bind fun bt460 => ((cupelref20_reader_number.f k bt460.1 bt460.2.1 bt460.2.2.1 bt460.2.2.2.1 bt460.2.2.2.2.1 bt460.2.2.2.2.2.1 bt460.2.2.2.2.2.2.1 bt460.2.2.2.2.2.2.2 3).bind fun bt468 => ((cupelref20_reader_want.f k bt468.2.1 bt468.2.2.1 bt468.2.2.2.1 bt468.2.2.2.2.1 bt468.2.2.2.2.2.1 bt468.2.2.2.2.2.2.1 bt468.2.2.2.2.2.2.2.1 bt468.2.2.2.2.2.2.2.2 (⟨#[59]⟩ : ByteArray)).bind fun bt478 => (cupelref20_Parse.l0 k bt478.1 bt478.2.1 bt478.2.2.1 bt478.2.2.2.1 bt478.2.2.2.2.1 bt478.2.2.2.2.2.1 bt478.2.2.2.2.2.2.1 bt478.2.2.2.2.2.2.2 ([] : List Int) bt468.1)))))
def cupelref20_Parse.T9 : Bool × List (List Nat × List Nat) := (true, [([], []), ([0], [0]), ([], []), ([2], [2]), ([3], [3]), ([1, 4, 3], [1, 4]), ([0, 1, 2, 3, 4, 5], []), ([6, 5, 5, 0, 1, 2, 3, 4, 5], [5, 6])])
def cupelref20_Parse.B9 : List Nat := [0, 1, 0, 4, 12, 31, 63, 127]
theorem cupelref20_Parse.tab9 : rtab .any (opsOf Tryd.f43 9) = cupelref20_Parse.T9 := by kernel_rfl
theorem cupelref20_Parse.bits9 : waitsOk cupelref20_Parse.T9.2 cupelref20_Parse.B9 = true := by kernel_rfl
def cupelref20_Parse.T25 : Bool × List (List Nat × List Nat) := (true, [([], []), ([], []), ([1], [1]), ([2], [2]), ([3], [3]), ([0, 0], [0]), ([4, 5, 0, 1, 2, 3, 4, 5], [4]), ([6, 0, 1, 2, 3, 4, 5, 6], [])])
def cupelref20_Parse.B25 : List Nat := [0, 0, 2, 6, 14, 1, 63, 127]
theorem cupelref20_Parse.tab25 : rtab .any (opsOf Tryd.f43 25) = cupelref20_Parse.T25 := by kernel_rfl
theorem cupelref20_Parse.bits25 : waitsOk cupelref20_Parse.T25.2 cupelref20_Parse.B25 = true := by kernel_rfl
set_option maxHeartbeats 8000000 in
set_option maxRecDepth 100000 in
theorem cupelref20_Parse.calls (k : Nat) (a0 : ByteArray) (r1 : List Int) (r2 : List Int) (r3 : Int) (r4 : Int) (r5 : Int) (w : World) (h : cupelref20_Parse.f k a0 = some (r1, r2, r3, r4, r5)) :
  Calls Tryd.prog 43 #[.string a0] w fun e w' => ∃ v0_ v1_ : Value, e = .returned (.tuple #[.agg #[v0_, v1_, .int .i64 r3], .int .i64 r4, .int .i64 r5]) ∧ Kd.R (Kd.int .u64) 55 w' w.heap.size (fun _ => True) v0_ r1 ∧ Kd.R (Kd.int .i64) 2 w' w.heap.size (fun _ => True) v1_ r2 ∧ Below w.heap.size w w' := by
 have hu25 := Tryd.underlying25
 have hu105 := Tryd.underlying105
 have hu96 := Tryd.underlying96
 have hu67 := Tryd.underlying67
 have HB := Aside0.mk (Below.refl w.heap.size w)
 have H : (if (a0.size : Int) > 600000 then (some (([] : List Int), ([] : List Int), 0, 0, 3)) else ((cupelref20_reader_next.f k a0 0 0 0 (⟨#[]⟩ : ByteArray) 0 false 0).bind fun bt452 => ((cupelref20_reader_want.f k bt452.1 bt452.2.1 bt452.2.2.1 bt452.2.2.2.1 bt452.2.2.2.2.1 bt452.2.2.2.2.2.1 bt452.2.2.2.2.2.2.1 bt452.2.2.2.2.2.2.2 (⟨#[101, 110, 116, 114, 121]⟩ : ByteArray)).bind fun bt460 => ((cupelref20_reader_number.f k bt460.1 bt460.2.1 bt460.2.2.1 bt460.2.2.2.1 bt460.2.2.2.2.1 bt460.2.2.2.2.2.1 bt460.2.2.2.2.2.2.1 bt460.2.2.2.2.2.2.2 3).bind fun bt468 => ((cupelref20_reader_want.f k bt468.2.1 bt468.2.2.1 bt468.2.2.2.1 bt468.2.2.2.2.1 bt468.2.2.2.2.2.1 bt468.2.2.2.2.2.2.1 bt468.2.2.2.2.2.2.2.1 bt468.2.2.2.2.2.2.2.2 (⟨#[59]⟩ : ByteArray)).bind fun bt478 => (cupelref20_Parse.l0 k bt478.1 bt478.2.1 bt478.2.2.1 bt478.2.2.2.1 bt478.2.2.2.2.1 bt478.2.2.2.2.2.1 bt478.2.2.2.2.2.2.1 bt478.2.2.2.2.2.2.2 ([] : List Int) bt468.1)))))) = some (r1, r2, r3, r4, r5) := h
 clear h
 by_cases c2 : (a0.size : Int) > 600000
 ·rw [if_pos c2] at H
  have c2b0 : decide (600000 < (a0.size : Int)) = true := decide_eq_true c2
  have c2b1 : decide (600000 < a0.size) = true := decide_eq_true (by omega)
  clear c2
  simp only [Option.some.injEq, Prod.mk.injEq] at H
  obtain ⟨rfl, rfl, rfl, rfl, rfl⟩ := H
  go_enter Tryd.func43, Tryd.ntmps43
  go_wp2_with (first | ((with_reducible refine gate_dst (N := 2) rfl ?_); refine box_event ?hg (N := 2) ?hd (cs := #[.slice none 0 0, .slice none 0 0, .int .i64 0]) (t := 25) ?hr ?_; (case hd => rfl); (case hg => rfl); (case hr => exact ts40_); intro gb450 hg w3 hbox hb; have n0_ := Aside0.mk (below_step (ts50_ HB.out) hb); have n1_ := Aside0.mk (hbox); have n2_ := Aside0.mk ((ts72_ HB.out : w.heap.size ≤ gb450)); have n3_ := Aside0.mk ((ts72_ HB.out : w.heap.size ≤ gb450)); clear HB; have HB := n0_; have BK450 := n1_; have GW450 := n2_; have GE450 := n3_; clear n0_ n1_ n2_ n3_; clear hb hbox hg; have hcz4_0 : w3.cell? ⟨gb450, 0, none⟩ = some (.slice none 0 0) := (blk_cell BK450.out 0).trans rfl; have hcz4_1 : w3.cell? ⟨gb450, 1, none⟩ = some (.slice none 0 0) := (blk_cell BK450.out 1).trans rfl; have hcz4_2 : w3.cell? ⟨gb450, 2, none⟩ = some (.int .i64 0) := (blk_cell BK450.out 2).trans rfl; have hfz4_0 := blk_frozen BK450.out 0; have hfz4_1 := blk_frozen BK450.out 1; have hfz4_2 := blk_frozen BK450.out 2))
  refine bodyPost_ret (results_ctt rfl _ _ gb450 25 #[.slice none 0 0, .slice none 0 0, .int .i64 0] (0, 0) _ rfl (ts3_ BK450.out) Tryd.underlying25 rfl (by kernel_rfl)) rfl ?_
  exact ⟨_, _, ts9_, ts19_, ts19_, ts0_ HB.out GE450.out⟩
 ·rw [if_neg c2] at H
  have c2b0 : decide (600000 < (a0.size : Int)) = false := decide_eq_false c2
  have c2b1 : decide (600000 < a0.size) = false := decide_eq_false (by omega)
  clear c2
  replace H := Option.bind_eq_some_iff.mp H
  obtain ⟨⟨t452, t453, t454, t455, t456, t457, t458, t459⟩, A50, H⟩ := H
  try dsimp only at H
  have A5 := Aside0.mk A50
  clear A50
  replace H := Option.bind_eq_some_iff.mp H
  obtain ⟨⟨t460, t461, t462, t463, t464, t465, t466, t467⟩, A60, H⟩ := H
  try dsimp only at H
  have A6 := Aside0.mk A60
  clear A60
  replace H := Option.bind_eq_some_iff.mp H
  obtain ⟨⟨t468, t469, t470, t471, t472, t473, t474, t475, t476⟩, A70, H⟩ := H
  try dsimp only at H
  have A7 := Aside0.mk A70
  clear A70
  replace H := Option.bind_eq_some_iff.mp H
  obtain ⟨⟨t478, t479, t480, t481, t482, t483, t484, t485⟩, A80, H⟩ := H
  try dsimp only at H
  have A8 := Aside0.mk A80
  clear A80
  have H' := Aside0.mk H
  clear H
  go_enter Tryd.func43, Tryd.ntmps43
  go_wp2_with (first | ((with_reducible refine gate_dst (N := 2) rfl ?_); refine box_event ?hg (N := 2) ?hd (cs := #[.slice none 0 0, .slice none 0 0, .int .i64 0]) (t := 25) ?hr ?_; (case hd => rfl); (case hg => rfl); (case hr => exact ts40_); intro gb450 hg w9 hbox hb; have n0_ := Aside0.mk (below_step (ts50_ HB.out) hb); have n1_ := Aside0.mk (hbox); have n2_ := Aside0.mk ((ts72_ HB.out : w.heap.size ≤ gb450)); have n3_ := Aside0.mk ((ts72_ HB.out : w.heap.size ≤ gb450)); clear HB; have HB := n0_; have BK450 := n1_; have GW450 := n2_; have GE450 := n3_; clear n0_ n1_ n2_ n3_; clear hb hbox hg) | ((with_reducible refine gate_dst (N := 18) rfl ?_); refine box_event ?hg (N := 18) ?hd (cs := #[.string a0, .int .i64 0, .int .i64 0, .int .u8 0, .string (⟨#[]⟩ : ByteArray), .int .i64 0, .bool false, .int .i64 0]) (t := 105) ?hr ?_; (case hd => rfl); (case hg => rfl); (case hr => exact ts40_); intro gb451 hg w10 hbox hb; have n0_ := Aside0.mk (blk_below (g := gb450) (o := .cells #[.slice none 0 0, .slice none 0 0, .int .i64 0] 25 (0, 0)) (ts29_ BK450.out) hb); have n1_ := Aside0.mk (below_step (ts0_ HB.out GE450.out) hb); have n2_ := Aside0.mk ((ts59_ BK450.out : gb450 ≠ gb451)); have n3_ := Aside0.mk ((ts66_ BK450.out : gb451 ≠ gb450)); have n4_ := Aside0.mk ((⟨hbox, (ts63_ HB.out GE450.out : w.heap.size ≤ gb451)⟩ : IsS105 w _ gb451 a0 0 0 0 (⟨#[]⟩ : ByteArray) 0 false 0)); clear BK450; clear HB; have BK450 := n0_; have HB := n1_; have NB450_451 := n2_; have NB451_450 := n3_; have HI451 := n4_; clear n0_ n1_ n2_ n3_ n4_; clear hb hbox hg) | ((with_reducible refine gate_callee (f := 68) rfl ?_); refine goesL_ (some 20) rfl rfl Tryd.func68 (by kernel_rfl) rfl #[.pointer (some ⟨gb451, 0, none⟩)] rfl ts47_ ?_; (with_reducible refine (cupelref20_reader_next.calls k gb451 a0 0 0 0 (⟨#[]⟩ : ByteArray) 0 false 0 t452 t453 t454 t455 t456 t457 t458 t459 w _ ?side1 ?side2 A5.out).mono ?_); (case side1 => exact ts22_ HI451.out NB451_450.out); (case side2 => exact ts37_ HB.out HI451.out GE450.out); rintro e w11 ⟨rfl, hi, hb, hk⟩; refine ⟨_, rfl, ?_⟩; have n0_ := Aside0.mk (KeepBut.blk hk (g' := gb450) (o := .cells #[.slice none 0 0, .slice none 0 0, .int .i64 0] 25 (0, 0)) (ts29_ BK450.out) NB450_451.out (by simp)); have n1_ := Aside0.mk (hb); have n2_ := Aside0.mk (hi); clear BK450; clear HB; clear HI451; have BK450 := n0_; have HB := n1_; have HI451 := n2_; clear n0_ n1_ n2_; (try clear hb); (try clear hb2); (try clear hk); (try clear hi)) | ((with_reducible refine gate_callee (f := 69) rfl ?_); refine goesL_ (some 22) rfl rfl Tryd.func69 (by kernel_rfl) rfl #[.pointer (some ⟨gb451, 0, none⟩), .string (⟨#[101, 110, 116, 114, 121]⟩ : ByteArray)] rfl ts47_ ?_; (with_reducible refine (cupelref20_reader_want.calls k gb451 t452 t453 t454 t455 t456 t457 t458 t459 (⟨#[101, 110, 116, 114, 121]⟩ : ByteArray) t460 t461 t462 t463 t464 t465 t466 t467 w _ ?side1 ?side2 A6.out).mono ?_); (case side1 => exact ts22_ HI451.out NB451_450.out); (case side2 => exact ts37_ HB.out HI451.out GE450.out); rintro e w12 ⟨rfl, hi, hb, hk⟩; refine ⟨_, rfl, ?_⟩; have n0_ := Aside0.mk (KeepBut.blk hk (g' := gb450) (o := .cells #[.slice none 0 0, .slice none 0 0, .int .i64 0] 25 (0, 0)) (ts29_ BK450.out) NB450_451.out (by simp)); have n1_ := Aside0.mk (hb); have n2_ := Aside0.mk (hi); clear BK450; clear HB; clear HI451; have BK450 := n0_; have HB := n1_; have HI451 := n2_; clear n0_ n1_ n2_; (try clear hb); (try clear hb2); (try clear hk); (try clear hi)) | ((with_reducible refine gate_callee (f := 70) rfl ?_); refine goesL_ (some 24) rfl rfl Tryd.func70 (by kernel_rfl) rfl #[.pointer (some ⟨gb451, 0, none⟩), .int .i64 3] rfl ts47_ ?_; (with_reducible refine (cupelref20_reader_number.calls k gb451 t460 t461 t462 t463 t464 t465 t466 t467 3 t468 t469 t470 t471 t472 t473 t474 t475 t476 w _ ?side1 ?side2 A7.out).mono ?_); (case side1 => exact ts22_ HI451.out NB451_450.out); (case side2 => exact ts37_ HB.out HI451.out GE450.out); rintro e w13 ⟨rfl, hi, hb, hk⟩; refine ⟨_, rfl, ?_⟩; have n0_ := Aside0.mk (KeepBut.blk hk (g' := gb450) (o := .cells #[.slice none 0 0, .slice none 0 0, .int .i64 0] 25 (0, 0)) (ts29_ BK450.out) NB450_451.out (by simp)); have n1_ := Aside0.mk (hb); have n2_ := Aside0.mk (hi); clear BK450; clear HB; clear HI451; have BK450 := n0_; have HB := n1_; have HI451 := n2_; clear n0_ n1_ n2_; (try clear hb); (try clear hb2); (try clear hk); (try clear hi)) | ((with_reducible refine gate_dst (N := 6) rfl ?_); refine box_event ?hg (N := 6) ?hd (cs := #[.slice none 0 0, .slice none 0 0, .int .i64 0]) (t := 25) ?hr ?_; (case hd => rfl); (case hg => rfl); (case hr => exact ts40_); intro gb477 hg w14 hbox hb; have n0_ := Aside0.mk (blk_below (g := gb450) (o := .cells #[.slice none 0 0, .slice none 0 0, .int .i64 0] 25 (0, 0)) (ts29_ BK450.out) hb); have n1_ := Aside0.mk (IsS105.below (ts22_ HI451.out NB451_450.out) hb); have n2_ := Aside0.mk (below_step (ts37_ HB.out HI451.out GE450.out) hb); have n3_ := Aside0.mk (hbox); have n4_ := Aside0.mk ((by rw [hg]; exact (below_size (ts37_ HB.out HI451.out GE450.out)) : w.heap.size ≤ gb477)); have n5_ := Aside0.mk ((by rw [hg]; exact (below_size (ts37_ HB.out HI451.out GE450.out)) : w.heap.size ≤ gb477)); have n6_ := Aside0.mk ((ts59_ BK450.out : gb450 ≠ gb477)); have n7_ := Aside0.mk ((ts66_ BK450.out : gb477 ≠ gb450)); have n8_ := Aside0.mk ((by rw [hg]; exact Nat.ne_of_lt (IsS105.lt (show IsS105 w _ gb451 t469 t470 t471 t472 t473 t474 t475 t476 from by repeat (first | (with_reducible first | exact HI451.out | apply IsS105.alloc | apply IsS105.drewN | apply IsS105.drew | apply IsS105.set_0 | apply IsS105.set_1 | apply IsS105.set_2 | apply IsS105.set_3 | apply IsS105.set_4 | apply IsS105.set_5 | apply IsS105.set_6 | apply IsS105.set_7 | refine IsS105.far ?_ NB451_450.out _) | exact HI451.out))) : gb451 ≠ gb477)); have n9_ := Aside0.mk ((by rw [hg]; exact Nat.ne_of_gt (IsS105.lt (show IsS105 w _ gb451 t469 t470 t471 t472 t473 t474 t475 t476 from by repeat (first | (with_reducible first | exact HI451.out | apply IsS105.alloc | apply IsS105.drewN | apply IsS105.drew | apply IsS105.set_0 | apply IsS105.set_1 | apply IsS105.set_2 | apply IsS105.set_3 | apply IsS105.set_4 | apply IsS105.set_5 | apply IsS105.set_6 | apply IsS105.set_7 | refine IsS105.far ?_ NB451_450.out _) | exact HI451.out))) : gb477 ≠ gb451)); clear BK450; clear HI451; clear HB; have BK450 := n0_; have HI451 := n1_; have HB := n2_; have BK477 := n3_; have GW477 := n4_; have GE477 := n5_; have NB450_477 := n6_; have NB477_450 := n7_; have NB451_477 := n8_; have NB477_451 := n9_; clear n0_ n1_ n2_ n3_ n4_ n5_ n6_ n7_ n8_ n9_; clear hb hbox hg; have hnb15 := NB477_450.out; have hnc15 := NB450_477.out; have hnb16 := NB477_451.out; have hnc16 := NB451_477.out; have hcz17_0 : w14.cell? ⟨gb477, 0, none⟩ = some (.slice none 0 0) := (blk_cell BK477.out 0).trans rfl; have hcz17_1 : w14.cell? ⟨gb477, 1, none⟩ = some (.slice none 0 0) := (blk_cell BK477.out 1).trans rfl; have hcz17_2 : w14.cell? ⟨gb477, 2, none⟩ = some (.int .i64 0) := (blk_cell BK477.out 2).trans rfl; have hfz17_0 := blk_frozen BK477.out 0; have hfz17_1 := blk_frozen BK477.out 1; have hfz17_2 := blk_frozen BK477.out 2) | ((with_reducible refine gate_callee (f := 69) rfl ?_); refine goesL_ (some 27) rfl rfl Tryd.func69 (by kernel_rfl) rfl #[.pointer (some ⟨gb451, 0, none⟩), .string (⟨#[59]⟩ : ByteArray)] rfl ts47_ ?_; (with_reducible refine (cupelref20_reader_want.calls k gb451 t469 t470 t471 t472 t473 t474 t475 t476 (⟨#[59]⟩ : ByteArray) t478 t479 t480 t481 t482 t483 t484 t485 w _ ?side1 ?side2 A8.out).mono ?_); (case side1 => exact ts42_ HI451.out NB451_450.out NB451_477.out); (case side2 => exact ts31_ HB.out HI451.out GE450.out GE477.out); rintro e w18 ⟨rfl, hi, hb, hk⟩; refine ⟨_, rfl, ?_⟩; have n0_ := Aside0.mk (KeepBut.blk hk (g' := gb450) (o := .cells #[.slice none 0 0, .slice none 0 0, .int .i64 0] 25 (0, 0)) (by (with_reducible repeat (first | refine blk_drewN ?_ _ | refine blk_drew ?_ | refine blk_alloc ?_ _)); refine blk_far ?_ NB450_477.out _; (with_reducible repeat (first | refine blk_drewN ?_ _ | refine blk_drew ?_ | refine blk_alloc ?_ _)); refine blk_far ?_ NB450_477.out _; (with_reducible repeat (first | refine blk_drewN ?_ _ | refine blk_drew ?_ | refine blk_alloc ?_ _)); refine blk_far ?_ NB450_477.out _; (with_reducible repeat (first | refine blk_drewN ?_ _ | refine blk_drew ?_ | refine blk_alloc ?_ _)); exact BK450.out) NB450_451.out (by simp)); have n1_ := Aside0.mk (KeepBut.blk hk (g' := gb477) (o := .cells #[.slice none 0 0, .slice none 0 0, .int .i64 t468] 25 (0, 0)) (ts3_ BK477.out) NB477_451.out (by simp)); have n2_ := Aside0.mk (hb); have n3_ := Aside0.mk (hi); clear BK450; clear BK477; clear HB; clear HI451; have BK450 := n0_; have BK477 := n1_; have HB := n2_; have HI451 := n3_; clear n0_ n1_ n2_ n3_; (try clear hb); (try clear hb2); (try clear hk); (try clear hi)))
  try go_frame
  go_loopg [] k (fun kq w' => ∃ (x452000_1 : ByteArray) (x452001_1 : Int) (x452002_1 : Int) (x452003_1 : Int) (x452004_1 : ByteArray) (x452005_1 : Int) (x452006_1 : Bool) (x452007_1 : Int) (x478001_1 : List Int) (u478001 : Value), Aside0 (cupelref20_Parse.l0 kq x452000_1 x452001_1 x452002_1 x452003_1 x452004_1 x452005_1 x452006_1 x452007_1 x478001_1 t468 = some (r1, r2, r3, r4, r5)) ∧ Aside0 (kq ≤ k) ∧ Aside0 (Kd.R (Kd.int .i64) 2 w' w.heap.size (fun _ => True) u478001 x478001_1) ∧ Aside0 (w'.heap[gb450]? = some (.cells #[(.slice none 0 0), (.slice none 0 0), .int .i64 0] 25 (0, 0))) ∧ Aside0 (w'.heap[gb477]? = some (.cells #[(.slice none 0 0), u478001, .int .i64 t468] 25 (0, 0))) ∧ Aside0 (IsS105 w w' gb451 x452000_1 x452001_1 x452002_1 x452003_1 x452004_1 x452005_1 x452006_1 x452007_1) ∧ Aside0 (Below w.heap.size w w'))
  case atStart => exact ⟨(t478), (t479), (t480), (t481), (t482), (t483), (t484), (t485), (([] : List Int)), (.slice none 0 0), H', ⟨Nat.le_refl _⟩, ⟨ts19_⟩, ⟨ts29_ BK450.out⟩, ⟨ts29_ BK477.out⟩, ⟨ts42_ HI451.out NB451_450.out NB451_477.out⟩, ⟨ts31_ HB.out HI451.out GE450.out GE477.out⟩⟩
  case round =>
   clear H'
   try clear c1
   try clear c2
   try clear c2b0
   try clear c2b1
   try clear p2
   try clear c4
   try clear c6
   try clear c7
   try clear c15
   try clear c16
   try clear hcz17_0
   try clear hcz17_1
   try clear hcz17_2
   try clear hcz4_0
   try clear hcz4_1
   try clear hcz4_2
   try clear hfz17_0
   try clear hfz17_1
   try clear hfz17_2
   try clear hfz4_0
   try clear hfz4_1
   try clear hfz4_2
   obtain ⟨x452000_1, x452001_1, x452002_1, x452003_1, x452004_1, x452005_1, x452006_1, x452007_1, x478001_1, u478001, HA, HK1, HO_478001, BK450, BK477, HI451, HB⟩ := hrel
   cases gk with
   | zero => exact absurd HA.out (by simp [cupelref20_Parse.l0])
   | succ k1 =>
    have H := HA.out
    clear HA
    simp only [cupelref20_Parse.l0] at H
    replace H := Option.bind_eq_some_iff.mp H
    obtain ⟨⟨t486, t487, t488, t489, t490, t491, t492, t493, t494⟩, A190, H⟩ := H
    try dsimp only at H
    have A19 := Aside0.mk A190
    clear A190
    by_cases c20 : t486 = true
    ·subst c20
     rw [if_pos rfl] at H
     replace H := Option.bind_eq_some_iff.mp H
     obtain ⟨⟨t495, t496, t497, t498, t499, t500, t501, t502, t503⟩, A210, H⟩ := H
     try dsimp only at H
     have A21 := Aside0.mk A210
     clear A210
     by_cases c22 : x478001_1.length < 17592186044416
     ·rw [if_pos c22] at H
      have LMc22 := Aside0.mk c22
      clear c22
      obtain ⟨y504, hy504⟩ : ∃ y_ : List Int, y_ = (x478001_1 ++ [t495]) := ⟨_, rfl⟩
      replace H : ((cupelref20_reader_want.f k1 t496 t497 t498 t499 t500 t501 t502 t503 (⟨#[59]⟩ : ByteArray)).bind fun bt507 => (cupelref20_Parse.l0 k1 bt507.1 bt507.2.1 bt507.2.2.1 bt507.2.2.2.1 bt507.2.2.2.2.1 bt507.2.2.2.2.2.1 bt507.2.2.2.2.2.2.1 bt507.2.2.2.2.2.2.2 y504 t468)) = some (r1, r2, r3, r4, r5) := by first | (rw [hy504]; with_reducible exact H) | (have H2_ := (Option.bind_some _ _).symm.trans H; rw [hy504]; with_reducible exact H2_) | (have H2_ := (Option.bind_some _ _).symm.trans H; with_reducible exact H2_) | with_reducible exact H | (rw [hy504]; exact H) | exact H
      have Ny504 := Aside0.mk hy504
      clear hy504
      replace H := Option.bind_eq_some_iff.mp H
      obtain ⟨⟨t507, t508, t509, t510, t511, t512, t513, t514⟩, A230, H⟩ := H
      try dsimp only at H
      have A23 := Aside0.mk A230
      clear A230
      have H' := Aside0.mk H
      clear H
      try go_wp2_with (first | ((with_reducible refine gate_callee (f := 71) rfl ?_); refine goesL_ (some 29) rfl rfl Tryd.func71 (by kernel_rfl) rfl #[.pointer (some ⟨gb451, 0, none⟩), .string (⟨#[100, 97, 116, 97]⟩ : ByteArray)] rfl ts47_ ?_; (with_reducible refine (cupelref20_reader_take.calls k1 gb451 x452000_1 x452001_1 x452002_1 x452003_1 x452004_1 x452005_1 x452006_1 x452007_1 (⟨#[100, 97, 116, 97]⟩ : ByteArray) true t487 t488 t489 t490 t491 t492 t493 t494 w _ ?side1 ?side2 A19.out).mono ?_); (case side1 => exact ts42_ HI451.out NB451_450.out NB451_477.out); (case side2 => exact ts31_ HB.out HI451.out GE450.out GE477.out); rintro e w24 ⟨rfl, hi, hb, hk⟩; refine ⟨_, rfl, ?_⟩; have n0_ := Aside0.mk (Kd.R_mono (Kd.R_keep (IsS105.apart (show IsS105 w _ gb451 x452000_1 x452001_1 x452002_1 x452003_1 x452004_1 x452005_1 x452006_1 x452007_1 from by repeat (first | (with_reducible first | exact HI451.out | apply IsS105.alloc | apply IsS105.drewN | apply IsS105.drew | apply IsS105.set_0 | apply IsS105.set_1 | apply IsS105.set_2 | apply IsS105.set_3 | apply IsS105.set_4 | apply IsS105.set_5 | apply IsS105.set_6 | apply IsS105.set_7 | refine IsS105.far ?_ NB451_450.out _ | refine IsS105.far ?_ NB451_477.out _) | exact HI451.out)) (ts53_ HO_478001.out) (by decide)) hk (fun _ h => h.2)) (fun _ h => h.1)); have n1_ := Aside0.mk (KeepBut.blk hk (g' := gb450) (o := .cells #[.slice none 0 0, .slice none 0 0, .int .i64 0] 25 (0, 0)) (ts29_ BK450.out) NB450_451.out (by simp)); have n2_ := Aside0.mk (KeepBut.blk hk (g' := gb477) (o := .cells #[.slice none 0 0, u478001, .int .i64 t468] 25 (0, 0)) (ts29_ BK477.out) NB477_451.out (by simp)); have n3_ := Aside0.mk (hb); have n4_ := Aside0.mk (hi); clear HO_478001; clear BK450; clear BK477; clear HB; clear HI451; have HO_478001 := n0_; have BK450 := n1_; have BK477 := n2_; have HB := n3_; have HI451 := n4_; clear n0_ n1_ n2_ n3_ n4_; (try clear hb); (try clear hb2); (try clear hk); (try clear hi)))
      have n0_ := Aside0.mk (Kd.R_drew HO_478001.out)
      have n1_ := Aside0.mk (blk_drew BK450.out)
      have n2_ := Aside0.mk (blk_drew BK477.out)
      have n3_ := Aside0.mk (IsS105.drew HI451.out)
      have n4_ := Aside0.mk (below_drew1 HB.out)
      clear HO_478001
      clear BK450
      clear BK477
      clear HI451
      clear HB
      have HO_478001 := n0_
      have BK450 := n1_
      have BK477 := n2_
      have HI451 := n3_
      have HB := n4_
      clear n0_ n1_ n2_ n3_ n4_
      refine start_ (n := 8) (S := fun w' => w'.cell? ⟨gb477, 0, none⟩ = some (.slice none 0 0) ∧ w'.cell? ⟨gb477, 1, none⟩ = some (u478001) ∧ w'.cell? ⟨gb477, 2, none⟩ = some (.int .i64 t468)) (ds := [7]) #[false, false, false, false, false, false, false, false] (by kernel_rfl) rfl rfl ⟨(blk_cell BK477.out 0).trans rfl, (blk_cell BK477.out 1).trans rfl, (blk_cell BK477.out 2).trans rfl⟩ (fun hHeld => ?_); refine with_tabW cupelref20_Parse.tab9 cupelref20_Parse.bits9 (fun HT_ HW_ => ?_)
      generalize w24.drew = w25 at HO_478001 BK450 BK477 HI451 HB hHeld ⊢
      refine pure_ (i := 0) (N := some 30) (v := ?_) (a' := ?_) #[true, false, false, false, false, false, false, false] rfl rfl (any_of HT_.out (by kernel_rfl)) (fun _ _ _ h => h) (Or.inl ⟨by rfl, ?_⟩) ?_ ?_
      rotate_left
      ·intro w'
       go_simp
       with_reducible rfl
      rotate_left
      ·simp only [Act.put, List.setIfInBounds_toArray, List.set_cons_zero, List.set_cons_succ, i64_w, i32_w]
       rfl
      refine pure_ (i := 2) (N := some 32) (v := ?_) (a' := ?_) #[true, false, true, false, false, false, false, false] rfl rfl (any_of HT_.out (by kernel_rfl)) (fun _ _ _ h => h) (Or.inl ⟨by rfl, ?_⟩) ?_ ?_
      rotate_left
      ·intro w'
       go_simp
       with_reducible rfl
      rotate_left
      ·simp only [Act.put, List.setIfInBounds_toArray, List.set_cons_zero, List.set_cons_succ, i64_w, i32_w]
       rfl
      refine take_ (i := 1) (N := some 31) (v := ?_) (a' := ?_) #[true, true, true, false, false, false, false, false] rfl rfl (take_ofW HT_.out HW_.out (by kernel_rfl)) (fun _ _ _ h => h) (Or.inl ⟨by rfl, ?_⟩) hHeld ?_ ?_
      rotate_left
      ·rintro w' ⟨s0, s1, s2⟩
       go_simp
       with_reducible rfl
      rotate_left
      ·simp only [Act.put, List.setIfInBounds_toArray, List.set_cons_zero, List.set_cons_succ, i64_w, i32_w]
       rfl
      refine one_ (i := 3) (N := some 33) #[true, true, true, true, false, false, false, false] rfl rfl (one_of HT_.out (by kernel_rfl)) (by decide) (fun K hK => ?_)
      refine goes_ Tryd.func70 (by kernel_rfl) rfl #[.pointer (some ⟨gb451, 0, none⟩), .int .i64 2] (by rfl) rfl rfl ts47_ ?_
      with_reducible refine (cupelref20_reader_number.calls k1 gb451 t487 t488 t489 t490 t491 t492 t493 t494 2 t495 t496 t497 t498 t499 t500 t501 t502 t503 w _ ?side1 ?side2 A21.out).mono ?_
      (case side1 => exact ts42_ HI451.out NB451_450.out NB451_477.out)
      (case side2 => exact ts31_ HB.out HI451.out GE450.out GE477.out)
      rintro e w26 ⟨rfl, hi, hb, hk⟩
      refine ⟨_, rfl, ?_⟩
      have n0_ := Aside0.mk (Kd.R_mono (Kd.R_keep (IsS105.apart (show IsS105 w _ gb451 t487 t488 t489 t490 t491 t492 t493 t494 from by repeat (first | (with_reducible first | exact HI451.out | apply IsS105.alloc | apply IsS105.drewN | apply IsS105.drew | apply IsS105.set_0 | apply IsS105.set_1 | apply IsS105.set_2 | apply IsS105.set_3 | apply IsS105.set_4 | apply IsS105.set_5 | apply IsS105.set_6 | apply IsS105.set_7 | refine IsS105.far ?_ NB451_450.out _ | refine IsS105.far ?_ NB451_477.out _) | exact HI451.out)) (ts53_ HO_478001.out) (by decide)) hk (fun _ h => h.2)) (fun _ h => h.1))
      have n1_ := Aside0.mk (KeepBut.blk hk (g' := gb450) (o := .cells #[.slice none 0 0, .slice none 0 0, .int .i64 0] 25 (0, 0)) (ts29_ BK450.out) NB450_451.out (by simp))
      have n2_ := Aside0.mk (KeepBut.blk hk (g' := gb477) (o := .cells #[.slice none 0 0, u478001, .int .i64 t468] 25 (0, 0)) (ts29_ BK477.out) NB477_451.out (by simp))
      have n3_ := Aside0.mk (hb)
      have n4_ := Aside0.mk (hi)
      clear HO_478001
      clear BK450
      clear BK477
      clear HB
      clear HI451
      have HO_478001 := n0_
      have BK450 := n1_
      have BK477 := n2_
      have HB := n3_
      have HI451 := n4_
      clear n0_ n1_ n2_ n3_ n4_
      (try clear hb)
      (try clear hb2)
      (try clear hk)
      (try clear hi)
      refine hK.out _ _ ⟨(blk_cell BK477.out 0).trans rfl, (blk_cell BK477.out 1).trans rfl, (blk_cell BK477.out 2).trans rfl⟩ (fun hHeld => ?_)
      clear hK K
      refine norm_ (a' := ?_) ?_ ?_
      rotate_left
      ·show Act.put _ (some 33) _ = _
       simp only [Act.put, List.setIfInBounds_toArray, List.set_cons_zero, List.set_cons_succ, i64_w, i32_w]
       rfl
      refine one_ (i := 4) (N := some 34) #[true, true, true, true, true, false, false, false] rfl rfl (one_of HT_.out (by kernel_rfl)) (by decide) (fun K hK => ?_)
      refine value_ (w1 := ?_) (v := ?_) (by rfl) rfl ?_ ?_
      rotate_left 2
      ·go_simp
       constructor
       ·rfl
       ·rfl
      refine hK.out _ _ ⟨(blk_cell (blk_alloc BK477.out _) 0).trans rfl, (blk_cell (blk_alloc BK477.out _) 1).trans rfl, (blk_cell (blk_alloc BK477.out _) 2).trans rfl⟩ (fun hHeld => ?_)
      clear hK K
      refine norm_ (a' := ?_) ?_ ?_
      rotate_left
      ·show Act.put _ (some 34) _ = _
       simp only [Act.put, List.setIfInBounds_toArray, List.set_cons_zero, List.set_cons_succ, i64_w, i32_w]
       rfl
      refine one_ (i := 5) (N := some 35) #[true, true, true, true, true, true, false, false] rfl rfl (one_of HT_.out (by kernel_rfl)) (by decide) (fun K hK => ?_)
      refine Kd.R_append_step (Kd.int .i64) (w0 := w) w.heap.size (by rfl) (.tmp 31) (.tmp 34) 23 2 (.int .i64 0) 8 rfl Tryd.underlying23 info2 rfl (by decide) (by omega) u478001 x478001_1 t495 [.int .i64 t495] (fun _ => True) (fun _ => False) rfl rfl ?aP (fun _ hk => hk.elim) ?aF ?aO ?aB ?aS ?aL ?_
      (case aP => exact rfl)
      (case aB => exact (ts31_ HB.out HI451.out GE450.out GE477.out))
      (case aF => exact (fun _ _ => trivial))
      (case aO => exact (ts53_ HO_478001.out))
      (case aS => exact (below_size (ts31_ HB.out HI451.out GE450.out GE477.out)))
      (case aL => have := LMc22.out; omega)
      intro v505 w27 ho hb hg hat
      rw [← Ny504.out] at ho
      have n0_ := Aside0.mk (blk_grown (g := gb450) (o := .cells #[.slice none 0 0, .slice none 0 0, .int .i64 0] 25 (0, 0)) (ts29_ BK450.out) hg (Kd.R_ne HO_478001.out BK450.out (by decide)))
      have n1_ := Aside0.mk (blk_grown (g := gb477) (o := .cells #[.slice none 0 0, u478001, .int .i64 t468] 25 (0, 0)) (ts29_ BK477.out) hg (Kd.R_ne HO_478001.out BK477.out (by decide)))
      have n2_ := Aside0.mk (IsS105.grown (ts42_ HI451.out NB451_450.out NB451_477.out) hg (IsS105.own_ne HI451.out HO_478001.out (by decide)))
      have n3_ := Aside0.mk (hb)
      have n4_ := Aside0.mk (ho)
      clear BK450
      clear BK477
      clear HI451
      clear HB
      clear HO_478001
      have BK450 := n0_
      have BK477 := n1_
      have HI451 := n2_
      have HB := n3_
      have HO506 := n4_
      clear n0_ n1_ n2_ n3_ n4_
      clear ho hb hg hat
      obtain ⟨Ao28, co28, eo28⟩ := Kd.R_slice HO506.out
      (first | subst eo28 | (injection eo28 with f1_ f2_ f3_; have f4_ := f1_.symm; have f5_ := f3_.symm; clear f1_ f2_ f3_; subst f4_; subst f5_))
      refine hK.out _ _ ⟨(blk_cell BK477.out 0).trans rfl, (blk_cell BK477.out 1).trans rfl, (blk_cell BK477.out 2).trans rfl⟩ (fun hHeld => ?_)
      clear hK K
      refine norm_ (a' := ?_) ?_ ?_
      rotate_left
      ·show Act.put _ (some 35) _ = _
       simp only [Act.put, List.setIfInBounds_toArray, List.set_cons_zero, List.set_cons_succ, i64_w, i32_w]
       rfl
      refine pure_ (i := 6) (N := some 36) (v := ?_) (a' := ?_) #[true, true, true, true, true, true, true, false] rfl rfl (any_of HT_.out (by kernel_rfl)) (fun _ _ _ h => h) (Or.inl ⟨by rfl, ?_⟩) ?_ ?_
      rotate_left
      ·intro w'
       go_simp
       with_reducible rfl
      rotate_left
      ·simp only [Act.put, List.setIfInBounds_toArray, List.set_cons_zero, List.set_cons_succ, i64_w, i32_w]
       rfl
      refine last_ (i := 7) (N := none) #[true, true, true, true, true, true, true, true] rfl rfl (one_of HT_.out (by kernel_rfl)) (by decide) (fun K hK => ?_)
      have hs29 : w27.cell? ⟨gb477, 1, none⟩ = some (u478001) := (blk_cell BK477.out 1).trans rfl
      have hfs29 := blk_frozen BK477.out 1
      have hns29_0 := NB450_477.out
      have hms29_0 := NB477_450.out
      refine skip_ (w1 := ?_) (by rfl) rfl ?_ ?_
      rotate_left
      ·go_simp
       rfl
      refine hK.out _ _ ?_
      clear hK K
      refine done_ (done_of HT_.out (by kernel_rfl)) ?_
      try go_wp2_with (first | ((with_reducible refine gate_callee (f := 69) rfl ?_); refine goesL_ (some 38) rfl rfl Tryd.func69 (by kernel_rfl) rfl #[.pointer (some ⟨gb451, 0, none⟩), .string (⟨#[59]⟩ : ByteArray)] rfl ts47_ ?_; (with_reducible refine (cupelref20_reader_want.calls k1 gb451 t496 t497 t498 t499 t500 t501 t502 t503 (⟨#[59]⟩ : ByteArray) t507 t508 t509 t510 t511 t512 t513 t514 w _ ?side1 ?side2 A23.out).mono ?_); (case side1 => exact ts42_ HI451.out NB451_450.out NB451_477.out); (case side2 => exact ts31_ HB.out HI451.out GE450.out GE477.out); rintro e w30 ⟨rfl, hi, hb, hk⟩; refine ⟨_, rfl, ?_⟩; have n0_ := Aside0.mk (KeepBut.blk hk (g' := gb450) (o := .cells #[.slice none 0 0, .slice none 0 0, .int .i64 0] 25 (0, 0)) (ts41_ NB450_477.out BK450.out) NB450_451.out (by simp)); have n1_ := Aside0.mk (KeepBut.blk hk (g' := gb477) (o := .cells #[.slice none 0 0, .slice Ao28 y504.length co28, .int .i64 t468] 25 (0, 0)) (by (with_reducible repeat (first | refine blk_drewN ?_ _ | refine blk_drew ?_ | refine blk_alloc ?_ _)); refine blk_put (cs := #[.slice none 0 0, u478001, .int .i64 t468]) ?_ 1 _ rfl; (with_reducible repeat (first | refine blk_drewN ?_ _ | refine blk_drew ?_ | refine blk_alloc ?_ _)); exact BK477.out) NB477_451.out (by simp)); have n2_ := Aside0.mk (Kd.R_mono (Kd.R_keep (IsS105.apart (show IsS105 w _ gb451 t496 t497 t498 t499 t500 t501 t502 t503 from by repeat (first | (with_reducible first | exact HI451.out | apply IsS105.alloc | apply IsS105.drewN | apply IsS105.drew | apply IsS105.set_0 | apply IsS105.set_1 | apply IsS105.set_2 | apply IsS105.set_3 | apply IsS105.set_4 | apply IsS105.set_5 | apply IsS105.set_6 | apply IsS105.set_7 | refine IsS105.far ?_ NB451_450.out _ | refine IsS105.far ?_ NB451_477.out _) | exact HI451.out)) (by (with_reducible repeat (first | apply Kd.R_alloc | apply Kd.R_drewN | apply Kd.R_drew)); exact (Kd.R_mono (Kd.R_far (p := ⟨gb477, 1, none⟩) (Kd.R_types HO506.out BK477.out (by decide)) (fun _ hk => hk.2) (.slice Ao28 y504.length co28)) (fun _ h_ => h_.1))) (by decide)) hk (fun _ h => h.2)) (fun _ h => h.1)); have n3_ := Aside0.mk (hb); have n4_ := Aside0.mk (hi); clear BK450; clear BK477; clear HO506; clear HB; clear HI451; have BK450 := n0_; have BK477 := n1_; have HO506 := n2_; have HB := n3_; have HI451 := n4_; clear n0_ n1_ n2_ n3_ n4_; (try clear hb); (try clear hb2); (try clear hk); (try clear hi)))
      go_roundg k1
      case measure => have := HK1.out; omega
      case rel => exact ⟨(t507), (t508), (t509), (t510), (t511), (t512), (t513), (t514), (y504), (.slice Ao28 y504.length co28), H', ⟨by have := HK1.out; omega⟩, ⟨ts53_ HO506.out⟩, ⟨ts29_ BK450.out⟩, ⟨ts29_ BK477.out⟩, ⟨ts42_ HI451.out NB451_450.out NB451_477.out⟩, ⟨ts31_ HB.out HI451.out GE450.out GE477.out⟩⟩
     ·rw [if_neg c22] at H
      exact absurd H (by simp)
    ·replace c20 := Bool.eq_false_iff.mpr c20
     subst c20
     rw [if_neg Bool.false_ne_true] at H
     replace H := Option.bind_eq_some_iff.mp H
     obtain ⟨t515, A310, H⟩ := H
     try dsimp only at H
     have A31 := Aside0.mk A310
     clear A310
     have H' := Aside0.mk H
     clear H
     go_wp2_with (first | ((with_reducible refine gate_callee (f := 71) rfl ?_); refine goesL_ (some 29) rfl rfl Tryd.func71 (by kernel_rfl) rfl #[.pointer (some ⟨gb451, 0, none⟩), .string (⟨#[100, 97, 116, 97]⟩ : ByteArray)] rfl ts47_ ?_; (with_reducible refine (cupelref20_reader_take.calls k1 gb451 x452000_1 x452001_1 x452002_1 x452003_1 x452004_1 x452005_1 x452006_1 x452007_1 (⟨#[100, 97, 116, 97]⟩ : ByteArray) false t487 t488 t489 t490 t491 t492 t493 t494 w _ ?side1 ?side2 A19.out).mono ?_); (case side1 => exact ts42_ HI451.out NB451_450.out NB451_477.out); (case side2 => exact ts31_ HB.out HI451.out GE450.out GE477.out); rintro e w32 ⟨rfl, hi, hb, hk⟩; refine ⟨_, rfl, ?_⟩; have n0_ := Aside0.mk (Kd.R_mono (Kd.R_keep (IsS105.apart (show IsS105 w _ gb451 x452000_1 x452001_1 x452002_1 x452003_1 x452004_1 x452005_1 x452006_1 x452007_1 from by repeat (first | (with_reducible first | exact HI451.out | apply IsS105.alloc | apply IsS105.drewN | apply IsS105.drew | apply IsS105.set_0 | apply IsS105.set_1 | apply IsS105.set_2 | apply IsS105.set_3 | apply IsS105.set_4 | apply IsS105.set_5 | apply IsS105.set_6 | apply IsS105.set_7 | refine IsS105.far ?_ NB451_450.out _ | refine IsS105.far ?_ NB451_477.out _) | exact HI451.out)) (ts53_ HO_478001.out) (by decide)) hk (fun _ h => h.2)) (fun _ h => h.1)); have n1_ := Aside0.mk (KeepBut.blk hk (g' := gb450) (o := .cells #[.slice none 0 0, .slice none 0 0, .int .i64 0] 25 (0, 0)) (ts29_ BK450.out) NB450_451.out (by simp)); have n2_ := Aside0.mk (KeepBut.blk hk (g' := gb477) (o := .cells #[.slice none 0 0, u478001, .int .i64 t468] 25 (0, 0)) (ts29_ BK477.out) NB477_451.out (by simp)); have n3_ := Aside0.mk (hb); have n4_ := Aside0.mk (hi); clear HO_478001; clear BK450; clear BK477; clear HB; clear HI451; have HO_478001 := n0_; have BK450 := n1_; have BK477 := n2_; have HB := n3_; have HI451 := n4_; clear n0_ n1_ n2_ n3_ n4_; (try clear hb); (try clear hb2); (try clear hk); (try clear hi)) | ((with_reducible refine gate_callee (f := 72) rfl ?_); refine goesL_ (some 39) rfl rfl Tryd.func72 (by kernel_rfl) rfl #[] rfl ts47_ ?_; (with_reducible refine (cupelref20_rows.calls  t515 _ A31.out).mono ?_); rintro e w33 ⟨v516, rfl, ho0, hb⟩; refine ⟨_, rfl, ?_⟩; have n0_ := Aside0.mk (Kd.R_below (ts53_ HO_478001.out) hb); have n1_ := Aside0.mk (Kd.R_lower ho0 (below_size (ts31_ HB.out HI451.out GE450.out GE477.out))); have n2_ := Aside0.mk (blk_below (g := gb450) (o := .cells #[.slice none 0 0, .slice none 0 0, .int .i64 0] 25 (0, 0)) (ts29_ BK450.out) hb); have n3_ := Aside0.mk (blk_below (g := gb477) (o := .cells #[.slice none 0 0, u478001, .int .i64 t468] 25 (0, 0)) (ts29_ BK477.out) hb); have n4_ := Aside0.mk (IsS105.below (ts42_ HI451.out NB451_450.out NB451_477.out) hb); have n5_ := Aside0.mk (below_step (ts31_ HB.out HI451.out GE450.out GE477.out) hb); clear HO_478001; clear BK450; clear BK477; clear HI451; clear HB; have HO_478001 := n0_; have HO517 := n1_; have BK450 := n2_; have BK477 := n3_; have HI451 := n4_; have HB := n5_; clear n0_ n1_ n2_ n3_ n4_ n5_; (try clear hb); (try clear hb2); (try clear hk); (try clear hi); (try clear ho0)))
     try go_frame
     go_loopg [] k1 (fun kq w' => ∃ (x452000_2 : ByteArray) (x452001_2 : Int) (x452002_2 : Int) (x452003_2 : Int) (x452004_2 : ByteArray) (x452005_2 : Int) (x452006_2 : Bool) (x452007_2 : Int) (x478000_2 : List Int) (u478000 : Value), Aside0 (cupelref20_Parse.l1 kq t515 x452000_2 x452001_2 x452002_2 x452003_2 x452004_2 x452005_2 x452006_2 x452007_2 x478000_2 x478001_1 t468 = some (r1, r2, r3, r4, r5)) ∧ Aside0 (kq ≤ k1) ∧ Aside0 (Kd.R k96 96 w' w.heap.size (fun _ => True) v516 t515) ∧ Aside0 (Kd.R (Kd.int .u64) 55 w' w.heap.size (fun _ => True) u478000 x478000_2) ∧ Aside0 (Kd.R (Kd.int .i64) 2 w' w.heap.size (fun _ => True) u478001 x478001_1) ∧ Aside0 (w'.heap[gb450]? = some (.cells #[(.slice none 0 0), (.slice none 0 0), .int .i64 0] 25 (0, 0))) ∧ Aside0 (w'.heap[gb477]? = some (.cells #[u478000, u478001, .int .i64 t468] 25 (0, 0))) ∧ Aside0 (IsS105 w w' gb451 x452000_2 x452001_2 x452002_2 x452003_2 x452004_2 x452005_2 x452006_2 x452007_2) ∧ Aside0 (Below w.heap.size w w'))
     case atStart => exact ⟨(t487), (t488), (t489), (t490), (t491), (t492), (t493), (t494), (([] : List Int)), (.slice none 0 0), H', ⟨Nat.le_refl _⟩, ⟨ts53_ HO517.out⟩, ⟨ts19_⟩, ⟨ts53_ HO_478001.out⟩, ⟨ts29_ BK450.out⟩, ⟨ts29_ BK477.out⟩, ⟨ts42_ HI451.out NB451_450.out NB451_477.out⟩, ⟨ts31_ HB.out HI451.out GE450.out GE477.out⟩⟩
     case round =>
      clear H'
      try clear c1
      try clear c2
      try clear c2b0
      try clear c2b1
      try clear p2
      try clear c4
      try clear c6
      try clear c7
      try clear c15
      try clear c16
      try clear c20
      try clear c22
      try clear hcz17_0
      try clear hcz17_1
      try clear hcz17_2
      try clear hcz4_0
      try clear hcz4_1
      try clear hcz4_2
      try clear hfz17_0
      try clear hfz17_1
      try clear hfz17_2
      try clear hfz4_0
      try clear hfz4_1
      try clear hfz4_2
      try clear p2
      obtain ⟨x452000_2, x452001_2, x452002_2, x452003_2, x452004_2, x452005_2, x452006_2, x452007_2, x478000_2, u478000, HA, HK2, HO_7, HO_478000, HO_478001, BK450, BK477, HI451, HB⟩ := hrel
      cases gk with
      | zero => exact absurd HA.out (by simp [cupelref20_Parse.l1])
      | succ k2 =>
       have H := HA.out
       clear HA
       simp only [cupelref20_Parse.l1] at H
       have HC34 := Aside0.mk H
       clear H
       go_upto_region 12 with (fail)
       go_cut [52] (fun v52 wc => ∃ (kq : Nat) (x52_33 : Bool), v52 = .bool x52_33 ∧ Aside0 (cupelref20_Parse.j2 kq t515 x52_33 x452000_2 x452001_2 x452002_2 x452003_2 x452004_2 x452005_2 x452006_2 x452007_2 x478000_2 x478001_1 t468 = some (r1, r2, r3, r4, r5)) ∧ Aside0 (kq ≤ k2) ∧ Aside0 (Kd.R k96 96 wc w.heap.size (fun _ => True) v516 t515) ∧ Aside0 (Kd.R (Kd.int .u64) 55 wc w.heap.size (fun _ => True) u478000 x478000_2) ∧ Aside0 (Kd.R (Kd.int .i64) 2 wc w.heap.size (fun _ => True) u478001 x478001_1) ∧ Aside0 (wc.heap[gb450]? = some (.cells #[(.slice none 0 0), (.slice none 0 0), .int .i64 0] 25 (0, 0))) ∧ Aside0 (wc.heap[gb477]? = some (.cells #[u478000, u478001, .int .i64 t468] 25 (0, 0))) ∧ Aside0 (IsS105 w wc gb451 x452000_2 x452001_2 x452002_2 x452003_2 x452004_2 x452005_2 x452006_2 x452007_2) ∧ Aside0 (Below w.heap.size w wc))
       case first =>
        have H := HC34.out
        clear HC34
        by_cases c35 : x452006_2 = true
        ·subst c35
         rw [if_pos rfl] at H
         have H' := Aside0.mk H
         clear H
         obtain ⟨HGz36, hgz36⟩ := HI451.out
         have hcz36_0 := cellS105_0 HGz36
         have hcz36_1 := cellS105_1 HGz36
         have hcz36_2 := cellS105_2 HGz36
         have hcz36_3 := cellS105_3 HGz36
         have hcz36_4 := cellS105_4 HGz36
         have hcz36_5 := cellS105_5 HGz36
         have hcz36_6 := cellS105_6 HGz36
         have hcz36_7 := cellS105_7 HGz36
         have hfz36_0 := blk_frozen HGz36 0
         have hfz36_1 := blk_frozen HGz36 1
         have hfz36_2 := blk_frozen HGz36 2
         have hfz36_3 := blk_frozen HGz36 3
         have hfz36_4 := blk_frozen HGz36 4
         have hfz36_5 := blk_frozen HGz36 5
         have hfz36_6 := blk_frozen HGz36 6
         have hfz36_7 := blk_frozen HGz36 7
         clear HGz36 hgz36
         go_wp2
         go_meet
         case rel => exact ⟨_, (false), ts36_, H', ⟨ts25_ HK1.out HK2.out⟩, ⟨ts53_ HO_7.out⟩, ⟨ts53_ HO_478000.out⟩, ⟨ts53_ HO_478001.out⟩, ⟨ts29_ BK450.out⟩, ⟨ts29_ BK477.out⟩, ⟨ts42_ HI451.out NB451_450.out NB451_477.out⟩, ⟨ts31_ HB.out HI451.out GE450.out GE477.out⟩⟩
        ·replace c35 := Bool.eq_false_iff.mpr c35
         subst c35
         rw [if_neg Bool.false_ne_true] at H
         have H' := Aside0.mk H
         clear H
         obtain ⟨HGz37, hgz37⟩ := HI451.out
         have hcz37_0 := cellS105_0 HGz37
         have hcz37_1 := cellS105_1 HGz37
         have hcz37_2 := cellS105_2 HGz37
         have hcz37_3 := cellS105_3 HGz37
         have hcz37_4 := cellS105_4 HGz37
         have hcz37_5 := cellS105_5 HGz37
         have hcz37_6 := cellS105_6 HGz37
         have hcz37_7 := cellS105_7 HGz37
         have hfz37_0 := blk_frozen HGz37 0
         have hfz37_1 := blk_frozen HGz37 1
         have hfz37_2 := blk_frozen HGz37 2
         have hfz37_3 := blk_frozen HGz37 3
         have hfz37_4 := blk_frozen HGz37 4
         have hfz37_5 := blk_frozen HGz37 5
         have hfz37_6 := blk_frozen HGz37 6
         have hfz37_7 := blk_frozen HGz37 7
         clear HGz37 hgz37
         go_wp2
         go_meet
         case rel => exact ⟨_, ((x452003_2 != 46)), ts36_, H', ⟨ts25_ HK1.out HK2.out⟩, ⟨ts53_ HO_7.out⟩, ⟨ts53_ HO_478000.out⟩, ⟨ts53_ HO_478001.out⟩, ⟨ts29_ BK450.out⟩, ⟨ts29_ BK477.out⟩, ⟨ts42_ HI451.out NB451_450.out NB451_477.out⟩, ⟨ts31_ HB.out HI451.out GE450.out GE477.out⟩⟩
       case rest =>
        clear HC34
        try clear c1
        try clear c2
        try clear c2b0
        try clear c2b1
        try clear p2
        try clear c3
        try clear c4
        try clear c6
        try clear c7
        try clear c15
        try clear c16
        try clear c20
        try clear c22
        try clear c35
        try clear hcz17_0
        try clear hcz17_1
        try clear hcz17_2
        try clear hcz36_0
        try clear hcz36_1
        try clear hcz36_2
        try clear hcz36_3
        try clear hcz36_4
        try clear hcz36_5
        try clear hcz36_6
        try clear hcz36_7
        try clear hcz37_0
        try clear hcz37_1
        try clear hcz37_2
        try clear hcz37_3
        try clear hcz37_4
        try clear hcz37_5
        try clear hcz37_6
        try clear hcz37_7
        try clear hcz4_0
        try clear hcz4_1
        try clear hcz4_2
        try clear hfz17_0
        try clear hfz17_1
        try clear hfz17_2
        try clear hfz36_0
        try clear hfz36_1
        try clear hfz36_2
        try clear hfz36_3
        try clear hfz36_4
        try clear hfz36_5
        try clear hfz36_6
        try clear hfz36_7
        try clear hfz37_0
        try clear hfz37_1
        try clear hfz37_2
        try clear hfz37_3
        try clear hfz37_4
        try clear hfz37_5
        try clear hfz37_6
        try clear hfz37_7
        try clear hfz4_0
        try clear hfz4_1
        try clear hfz4_2
        try clear p2
        obtain ⟨kq, x52_33, rfl, HA, HJ33, HO_7, HO_478000, HO_478001, BK450, BK477, HI451, HB⟩ := hcut
        cases kq with
        | zero => exact absurd HA.out (by simp [cupelref20_Parse.j2])
        | succ kj33 =>
         have H := HA.out
         clear HA
         simp only [cupelref20_Parse.j2] at H
         by_cases c38 : x52_33 = true
         ·subst c38
          rw [if_pos rfl] at H
          have H' := Aside0.mk H
          clear H
          go_wp2
          try go_frame
          go_loopg [8, 9] kj33 (fun kq v8 v9 w' => ∃ (x8_4 : Bool) (x9_4 : Int) (x452000_4 : ByteArray) (x452001_4 : Int) (x452002_4 : Int) (x452003_4 : Int) (x452004_4 : ByteArray) (x452005_4 : Int) (x452006_4 : Bool) (x452007_4 : Int) (x478000_4 : List Int) (u478000 : Value), v8 = .bool x8_4 ∧ v9 = .int .i64 x9_4 ∧ Aside0 (cupelref20_Parse.l2 kq t515 x8_4 x9_4 x452000_4 x452001_4 x452002_4 x452003_4 x452004_4 x452005_4 x452006_4 x452007_4 x478000_4 x478001_1 t468 = some (r1, r2, r3, r4, r5)) ∧ Aside0 (kq ≤ kj33) ∧ Aside0 (Kd.R k96 96 w' w.heap.size (fun _ => True) v516 t515) ∧ Aside0 (Kd.R (Kd.int .u64) 55 w' w.heap.size (fun _ => True) u478000 x478000_4) ∧ Aside0 (Kd.R (Kd.int .i64) 2 w' w.heap.size (fun _ => True) u478001 x478001_1) ∧ Aside0 (w'.heap[gb450]? = some (.cells #[(.slice none 0 0), (.slice none 0 0), .int .i64 0] 25 (0, 0))) ∧ Aside0 (w'.heap[gb477]? = some (.cells #[u478000, u478001, .int .i64 t468] 25 (0, 0))) ∧ Aside0 (IsS105 w w' gb451 x452000_4 x452001_4 x452002_4 x452003_4 x452004_4 x452005_4 x452006_4 x452007_4) ∧ Aside0 (Below w.heap.size w w'))
          case atStart => exact ⟨(false), (0), (x452000_2), (x452001_2), (x452002_2), (x452003_2), (x452004_2), (x452005_2), (x452006_2), (x452007_2), (x478000_2), (u478000), ts36_, ts36_, H', ⟨Nat.le_refl _⟩, ⟨ts53_ HO_7.out⟩, ⟨ts53_ HO_478000.out⟩, ⟨ts53_ HO_478001.out⟩, ⟨ts29_ BK450.out⟩, ⟨ts29_ BK477.out⟩, ⟨ts42_ HI451.out NB451_450.out NB451_477.out⟩, ⟨ts31_ HB.out HI451.out GE450.out GE477.out⟩⟩
          case round =>
           clear H'
           try clear c1
           try clear c2
           try clear c2b0
           try clear c2b1
           try clear p2
           try clear c3
           try clear c4
           try clear c6
           try clear c7
           try clear c15
           try clear c16
           try clear c20
           try clear c22
           try clear c35
           try clear c38
           try clear hcz17_0
           try clear hcz17_1
           try clear hcz17_2
           try clear hcz36_0
           try clear hcz36_1
           try clear hcz36_2
           try clear hcz36_3
           try clear hcz36_4
           try clear hcz36_5
           try clear hcz36_6
           try clear hcz36_7
           try clear hcz37_0
           try clear hcz37_1
           try clear hcz37_2
           try clear hcz37_3
           try clear hcz37_4
           try clear hcz37_5
           try clear hcz37_6
           try clear hcz37_7
           try clear hcz4_0
           try clear hcz4_1
           try clear hcz4_2
           try clear hfz17_0
           try clear hfz17_1
           try clear hfz17_2
           try clear hfz36_0
           try clear hfz36_1
           try clear hfz36_2
           try clear hfz36_3
           try clear hfz36_4
           try clear hfz36_5
           try clear hfz36_6
           try clear hfz36_7
           try clear hfz37_0
           try clear hfz37_1
           try clear hfz37_2
           try clear hfz37_3
           try clear hfz37_4
           try clear hfz37_5
           try clear hfz37_6
           try clear hfz37_7
           try clear hfz4_0
           try clear hfz4_1
           try clear hfz4_2
           try clear p2
           obtain ⟨x8_4, x9_4, x452000_4, x452001_4, x452002_4, x452003_4, x452004_4, x452005_4, x452006_4, x452007_4, x478000_4, u478000, rfl, rfl, HA, HK4, HO_7, HO_478000, HO_478001, BK450, BK477, HI451, HB⟩ := hrel
           cases gk with
           | zero => exact absurd HA.out (by simp [cupelref20_Parse.l2])
           | succ k4 =>
            have H := HA.out
            clear HA
            simp only [cupelref20_Parse.l2] at H
            have HC39 := Aside0.mk H
            clear H
            go_upto_region 15 with (fail)
            go_cut [60] (fun v60 wc => ∃ (kq : Nat) (x60_38 : Bool), v60 = .bool x60_38 ∧ Aside0 (cupelref20_Parse.j4 kq t515 x8_4 x9_4 x60_38 x452000_4 x452001_4 x452002_4 x452003_4 x452004_4 x452005_4 x452006_4 x452007_4 x478000_4 x478001_1 t468 = some (r1, r2, r3, r4, r5)) ∧ Aside0 (kq ≤ k4) ∧ Aside0 (Kd.R k96 96 wc w.heap.size (fun _ => True) v516 t515) ∧ Aside0 (Kd.R (Kd.int .u64) 55 wc w.heap.size (fun _ => True) u478000 x478000_4) ∧ Aside0 (Kd.R (Kd.int .i64) 2 wc w.heap.size (fun _ => True) u478001 x478001_1) ∧ Aside0 (wc.heap[gb450]? = some (.cells #[(.slice none 0 0), (.slice none 0 0), .int .i64 0] 25 (0, 0))) ∧ Aside0 (wc.heap[gb477]? = some (.cells #[u478000, u478001, .int .i64 t468] 25 (0, 0))) ∧ Aside0 (IsS105 w wc gb451 x452000_4 x452001_4 x452002_4 x452003_4 x452004_4 x452005_4 x452006_4 x452007_4) ∧ Aside0 (Below w.heap.size w wc))
            case first =>
             have H := HC39.out
             clear HC39
             by_cases c40 : x9_4 < (t515.length : Int)
             ·rw [if_pos c40] at H
              have c40b0 : decide (x9_4 < (t515.length : Int)) = true := decide_eq_true c40
              clear c40
              (first | rw [c40b0] | (simp only [i64_w, i32_w]; rw [c40b0]) | skip)
              have H' := Aside0.mk H
              clear H
              obtain ⟨Ao41, co41, eo41⟩ := Kd.R_slice HO_7.out
              subst eo41
              go_wp2
              go_meet
              case rel => exact ⟨_, (!x8_4), ts36_, H', ⟨by have := HK1.out; have := HK2.out; have := HJ33.out; have := HK4.out; first | omega | exact Nat.le_refl _⟩, ⟨ts53_ HO_7.out⟩, ⟨ts53_ HO_478000.out⟩, ⟨ts53_ HO_478001.out⟩, ⟨ts29_ BK450.out⟩, ⟨ts29_ BK477.out⟩, ⟨ts42_ HI451.out NB451_450.out NB451_477.out⟩, ⟨ts31_ HB.out HI451.out GE450.out GE477.out⟩⟩
             ·rw [if_neg c40] at H
              have c40b0 : decide (x9_4 < (t515.length : Int)) = false := decide_eq_false c40
              clear c40
              (first | rw [c40b0] | (simp only [i64_w, i32_w]; rw [c40b0]) | skip)
              have H' := Aside0.mk H
              clear H
              obtain ⟨Ao42, co42, eo42⟩ := Kd.R_slice HO_7.out
              subst eo42
              go_wp2
              go_meet
              case rel => exact ⟨_, (false), ts36_, H', ⟨by have := HK1.out; have := HK2.out; have := HJ33.out; have := HK4.out; first | omega | exact Nat.le_refl _⟩, ⟨ts53_ HO_7.out⟩, ⟨ts53_ HO_478000.out⟩, ⟨ts53_ HO_478001.out⟩, ⟨ts29_ BK450.out⟩, ⟨ts29_ BK477.out⟩, ⟨ts42_ HI451.out NB451_450.out NB451_477.out⟩, ⟨ts31_ HB.out HI451.out GE450.out GE477.out⟩⟩
            case rest =>
             clear HC39
             try clear c1
             try clear c2
             try clear c2b0
             try clear c2b1
             try clear p2
             try clear c3
             try clear c4
             try clear c6
             try clear c7
             try clear c15
             try clear c16
             try clear c20
             try clear c22
             try clear c35
             try clear c38
             try clear c40
             try clear c40b0
             try clear hcz17_0
             try clear hcz17_1
             try clear hcz17_2
             try clear hcz36_0
             try clear hcz36_1
             try clear hcz36_2
             try clear hcz36_3
             try clear hcz36_4
             try clear hcz36_5
             try clear hcz36_6
             try clear hcz36_7
             try clear hcz37_0
             try clear hcz37_1
             try clear hcz37_2
             try clear hcz37_3
             try clear hcz37_4
             try clear hcz37_5
             try clear hcz37_6
             try clear hcz37_7
             try clear hcz4_0
             try clear hcz4_1
             try clear hcz4_2
             try clear hfz17_0
             try clear hfz17_1
             try clear hfz17_2
             try clear hfz36_0
             try clear hfz36_1
             try clear hfz36_2
             try clear hfz36_3
             try clear hfz36_4
             try clear hfz36_5
             try clear hfz36_6
             try clear hfz36_7
             try clear hfz37_0
             try clear hfz37_1
             try clear hfz37_2
             try clear hfz37_3
             try clear hfz37_4
             try clear hfz37_5
             try clear hfz37_6
             try clear hfz37_7
             try clear hfz4_0
             try clear hfz4_1
             try clear hfz4_2
             try clear p2
             obtain ⟨kq, x60_38, rfl, HA, HJ38, HO_7, HO_478000, HO_478001, BK450, BK477, HI451, HB⟩ := hcut
             cases kq with
             | zero => exact absurd HA.out (by simp [cupelref20_Parse.j4])
             | succ kj38 =>
              have H := HA.out
              clear HA
              simp only [cupelref20_Parse.j4] at H
              by_cases c43 : x60_38 = true
              ·subst c43
               rw [if_pos rfl] at H
               by_cases c44 : 0 ≤ x9_4
               ·rw [if_pos c44] at H
                have c44b0 : decide (0 ≤ x9_4) = true := decide_eq_true c44
                clear c44
                by_cases c45 : x9_4 < (t515.length : Int)
                ·rw [if_pos c45] at H
                 have c45b0 : decide (x9_4 < (t515.length : Int)) = true := decide_eq_true c45
                 clear c45
                 replace H := Option.bind_eq_some_iff.mp H
                 obtain ⟨⟨t527, t528, t529, t530, t531, t532, t533, t534, t535⟩, A460, H⟩ := H
                 try dsimp only at H
                 have A46 := Aside0.mk A460
                 clear A460
                 by_cases c47 : t527 = true
                 ·subst c47
                  rw [if_pos rfl] at H
                  replace H := Option.bind_eq_some_iff.mp H
                  obtain ⟨⟨t537, t538, t539, t540, t541, t542, t543, t544, t545, t546, t547, t548, t549⟩, A480, H⟩ := H
                  try dsimp only at H
                  have A48 := Aside0.mk A480
                  clear A480
                  by_cases c49 : t548 = true
                  ·subst c49
                   rw [if_pos rfl] at H
                   have H' := Aside0.mk H
                   clear H
                   obtain ⟨Ao50, co50, eo50⟩ := Kd.R_slice HO_7.out
                   subst eo50
                   have p526 : 0 ≤ (x9_4 : Int) := of_decide_eq_true ts7_
                   have q526 : x9_4 < (t515.length : Int) := of_decide_eq_true ts7_
                   obtain ⟨ad526, e526, hx526_0, hx526_1, hx526_2, hx526_3, hx526_4, hx526_5⟩ := at_T96 (Kd.R_reads' HO_7.out).2.2 x9_4 p526 q526
                   cases e526
                   replace p526 := eq_true p526
                   replace q526 := eq_true q526
                   go_wp2_with (first | ((with_reducible refine gate_callee (f := 71) rfl ?_); refine goesL_ (some 69) rfl rfl Tryd.func71 (by kernel_rfl) rfl #[.pointer (some ⟨gb451, 0, none⟩), .string ((rd_T96 t515 x9_4).f1)] rfl ts47_ ?_; (with_reducible refine (cupelref20_reader_take.calls kj38 gb451 x452000_4 x452001_4 x452002_4 x452003_4 x452004_4 x452005_4 x452006_4 x452007_4 ((rd_T96 t515 x9_4).f1) true t528 t529 t530 t531 t532 t533 t534 t535 w _ ?side1 ?side2 A46.out).mono ?_); (case side1 => exact ts42_ HI451.out NB451_450.out NB451_477.out); (case side2 => exact ts31_ HB.out HI451.out GE450.out GE477.out); rintro e w51 ⟨rfl, hi, hb, hk⟩; refine ⟨_, rfl, ?_⟩; have n0_ := Aside0.mk (Kd.R_mono (Kd.R_keep (IsS105.apart (show IsS105 w _ gb451 x452000_4 x452001_4 x452002_4 x452003_4 x452004_4 x452005_4 x452006_4 x452007_4 from by repeat (first | (with_reducible first | exact HI451.out | apply IsS105.alloc | apply IsS105.drewN | apply IsS105.drew | apply IsS105.set_0 | apply IsS105.set_1 | apply IsS105.set_2 | apply IsS105.set_3 | apply IsS105.set_4 | apply IsS105.set_5 | apply IsS105.set_6 | apply IsS105.set_7 | refine IsS105.far ?_ NB451_450.out _ | refine IsS105.far ?_ NB451_477.out _) | exact HI451.out)) (ts53_ HO_7.out) (by decide)) hk (fun _ h => h.2)) (fun _ h => h.1)); have n1_ := Aside0.mk (Kd.R_mono (Kd.R_keep (IsS105.apart (show IsS105 w _ gb451 x452000_4 x452001_4 x452002_4 x452003_4 x452004_4 x452005_4 x452006_4 x452007_4 from by repeat (first | (with_reducible first | exact HI451.out | apply IsS105.alloc | apply IsS105.drewN | apply IsS105.drew | apply IsS105.set_0 | apply IsS105.set_1 | apply IsS105.set_2 | apply IsS105.set_3 | apply IsS105.set_4 | apply IsS105.set_5 | apply IsS105.set_6 | apply IsS105.set_7 | refine IsS105.far ?_ NB451_450.out _ | refine IsS105.far ?_ NB451_477.out _) | exact HI451.out)) (ts53_ HO_478000.out) (by decide)) hk (fun _ h => h.2)) (fun _ h => h.1)); have n2_ := Aside0.mk (Kd.R_mono (Kd.R_keep (IsS105.apart (show IsS105 w _ gb451 x452000_4 x452001_4 x452002_4 x452003_4 x452004_4 x452005_4 x452006_4 x452007_4 from by repeat (first | (with_reducible first | exact HI451.out | apply IsS105.alloc | apply IsS105.drewN | apply IsS105.drew | apply IsS105.set_0 | apply IsS105.set_1 | apply IsS105.set_2 | apply IsS105.set_3 | apply IsS105.set_4 | apply IsS105.set_5 | apply IsS105.set_6 | apply IsS105.set_7 | refine IsS105.far ?_ NB451_450.out _ | refine IsS105.far ?_ NB451_477.out _) | exact HI451.out)) (ts53_ HO_478001.out) (by decide)) hk (fun _ h => h.2)) (fun _ h => h.1)); have n3_ := Aside0.mk (KeepBut.blk hk (g' := gb450) (o := .cells #[.slice none 0 0, .slice none 0 0, .int .i64 0] 25 (0, 0)) (ts29_ BK450.out) NB450_451.out (by simp)); have n4_ := Aside0.mk (KeepBut.blk hk (g' := gb477) (o := .cells #[u478000, u478001, .int .i64 t468] 25 (0, 0)) (ts29_ BK477.out) NB477_451.out (by simp)); have n5_ := Aside0.mk (hb); have n6_ := Aside0.mk (hi); clear HO_7; clear HO_478000; clear HO_478001; clear BK450; clear BK477; clear HB; clear HI451; have HO_7 := n0_; have HO_478000 := n1_; have HO_478001 := n2_; have BK450 := n3_; have BK477 := n4_; have HB := n5_; have HI451 := n6_; clear n0_ n1_ n2_ n3_ n4_ n5_ n6_; (try clear hb); (try clear hb2); (try clear hk); (try clear hi); have p536 : 0 ≤ (x9_4 : Int) := of_decide_eq_true ts7_; have q536 : x9_4 < (t515.length : Int) := of_decide_eq_true ts7_; obtain ⟨ad536, e536, hx536_0, hx536_1, hx536_2, hx536_3, hx536_4, hx536_5⟩ := at_T96 (Kd.R_reads' HO_7.out).2.2 x9_4 p536 q536; obtain rfl : ad526 = ad536 := (by injection e536); replace p536 := eq_true p536; replace q536 := eq_true q536) | ((with_reducible refine gate_callee (f := 73) rfl ?_); refine goesL_ (some 75) rfl rfl Tryd.func73 (by kernel_rfl) rfl #[.pointer (some ⟨gb451, 0, none⟩), .agg #[.int .i64 ((rd_T96 t515 x9_4).f0), .string ((rd_T96 t515 x9_4).f1), .bool ((rd_T96 t515 x9_4).f2), .bool ((rd_T96 t515 x9_4).f3), .bool ((rd_T96 t515 x9_4).f4), .int .i64 ((rd_T96 t515 x9_4).f5)]] rfl ts47_ ?_; (with_reducible refine (cupelref20_reader_instr.calls kj38 gb451 t528 t529 t530 t531 t532 t533 t534 t535 ((rd_T96 t515 x9_4).f0) ((rd_T96 t515 x9_4).f1) ((rd_T96 t515 x9_4).f2) ((rd_T96 t515 x9_4).f3) ((rd_T96 t515 x9_4).f4) ((rd_T96 t515 x9_4).f5) t537 t538 t539 t540 t541 t542 t543 t544 t545 t546 t547 true t549 w _ ?side1 ?side2 A48.out).mono ?_); (case side1 => exact ts42_ HI451.out NB451_450.out NB451_477.out); (case side2 => exact ts31_ HB.out HI451.out GE450.out GE477.out); rintro e w52 ⟨rfl, hi, hb, hk⟩; refine ⟨_, rfl, ?_⟩; have n0_ := Aside0.mk (Kd.R_mono (Kd.R_keep (IsS105.apart (show IsS105 w _ gb451 t528 t529 t530 t531 t532 t533 t534 t535 from by repeat (first | (with_reducible first | exact HI451.out | apply IsS105.alloc | apply IsS105.drewN | apply IsS105.drew | apply IsS105.set_0 | apply IsS105.set_1 | apply IsS105.set_2 | apply IsS105.set_3 | apply IsS105.set_4 | apply IsS105.set_5 | apply IsS105.set_6 | apply IsS105.set_7 | refine IsS105.far ?_ NB451_450.out _ | refine IsS105.far ?_ NB451_477.out _) | exact HI451.out)) (ts53_ HO_7.out) (by decide)) hk (fun _ h => h.2)) (fun _ h => h.1)); have n1_ := Aside0.mk (Kd.R_mono (Kd.R_keep (IsS105.apart (show IsS105 w _ gb451 t528 t529 t530 t531 t532 t533 t534 t535 from by repeat (first | (with_reducible first | exact HI451.out | apply IsS105.alloc | apply IsS105.drewN | apply IsS105.drew | apply IsS105.set_0 | apply IsS105.set_1 | apply IsS105.set_2 | apply IsS105.set_3 | apply IsS105.set_4 | apply IsS105.set_5 | apply IsS105.set_6 | apply IsS105.set_7 | refine IsS105.far ?_ NB451_450.out _ | refine IsS105.far ?_ NB451_477.out _) | exact HI451.out)) (ts53_ HO_478000.out) (by decide)) hk (fun _ h => h.2)) (fun _ h => h.1)); have n2_ := Aside0.mk (Kd.R_mono (Kd.R_keep (IsS105.apart (show IsS105 w _ gb451 t528 t529 t530 t531 t532 t533 t534 t535 from by repeat (first | (with_reducible first | exact HI451.out | apply IsS105.alloc | apply IsS105.drewN | apply IsS105.drew | apply IsS105.set_0 | apply IsS105.set_1 | apply IsS105.set_2 | apply IsS105.set_3 | apply IsS105.set_4 | apply IsS105.set_5 | apply IsS105.set_6 | apply IsS105.set_7 | refine IsS105.far ?_ NB451_450.out _ | refine IsS105.far ?_ NB451_477.out _) | exact HI451.out)) (ts53_ HO_478001.out) (by decide)) hk (fun _ h => h.2)) (fun _ h => h.1)); have n3_ := Aside0.mk (KeepBut.blk hk (g' := gb450) (o := .cells #[.slice none 0 0, .slice none 0 0, .int .i64 0] 25 (0, 0)) (ts29_ BK450.out) NB450_451.out (by simp)); have n4_ := Aside0.mk (KeepBut.blk hk (g' := gb477) (o := .cells #[u478000, u478001, .int .i64 t468] 25 (0, 0)) (ts29_ BK477.out) NB477_451.out (by simp)); have n5_ := Aside0.mk (hb); have n6_ := Aside0.mk (hi); clear HO_7; clear HO_478000; clear HO_478001; clear BK450; clear BK477; clear HB; clear HI451; have HO_7 := n0_; have HO_478000 := n1_; have HO_478001 := n2_; have BK450 := n3_; have BK477 := n4_; have HB := n5_; have HI451 := n6_; clear n0_ n1_ n2_ n3_ n4_ n5_ n6_; (try clear hb); (try clear hb2); (try clear hk); (try clear hi)) | ((with_reducible refine gate_dst (N := 10) rfl ?_); refine box_event ?hg (N := 10) ?hd (cs := #[.int .i64 0, .int .i64 0, .int .i64 0, .int .i64 0, .int .i64 0]) (t := 67) ?hr ?_; (case hd => rfl); (case hg => rfl); (case hr => exact ts40_); intro gb550 hg w53 hbox hb; have n0_ := Aside0.mk (Kd.R_below (ts53_ HO_7.out) hb); have n1_ := Aside0.mk (Kd.R_below (ts53_ HO_478000.out) hb); have n2_ := Aside0.mk (Kd.R_below (ts53_ HO_478001.out) hb); have n3_ := Aside0.mk (blk_below (g := gb450) (o := .cells #[.slice none 0 0, .slice none 0 0, .int .i64 0] 25 (0, 0)) (ts29_ BK450.out) hb); have n4_ := Aside0.mk (blk_below (g := gb477) (o := .cells #[u478000, u478001, .int .i64 t468] 25 (0, 0)) (ts29_ BK477.out) hb); have n5_ := Aside0.mk (IsS105.below (ts42_ HI451.out NB451_450.out NB451_477.out) hb); have n6_ := Aside0.mk (below_step (ts31_ HB.out HI451.out GE450.out GE477.out) hb); have n7_ := Aside0.mk (hbox); have n8_ := Aside0.mk ((by rw [hg]; exact (below_size (ts31_ HB.out HI451.out GE450.out GE477.out)) : w.heap.size ≤ gb550)); have n9_ := Aside0.mk ((by rw [hg]; exact (below_size (ts31_ HB.out HI451.out GE450.out GE477.out)) : w.heap.size ≤ gb550)); have n10_ := Aside0.mk ((ts59_ BK450.out : gb450 ≠ gb550)); have n11_ := Aside0.mk ((ts66_ BK450.out : gb550 ≠ gb450)); have n12_ := Aside0.mk ((by rw [hg]; exact Nat.ne_of_lt (blk_lt (g := gb477) (o := .cells #[u478000, u478001, .int .i64 t468] 25 (0, 0)) (ts29_ BK477.out)) : gb477 ≠ gb550)); have n13_ := Aside0.mk ((by rw [hg]; exact Nat.ne_of_gt (blk_lt (g := gb477) (o := .cells #[u478000, u478001, .int .i64 t468] 25 (0, 0)) (ts29_ BK477.out)) : gb550 ≠ gb477)); have n14_ := Aside0.mk ((by rw [hg]; exact Nat.ne_of_lt (IsS105.lt (show IsS105 w _ gb451 t542 t543 t544 t545 t546 t547 true t549 from by repeat (first | (with_reducible first | exact HI451.out | apply IsS105.alloc | apply IsS105.drewN | apply IsS105.drew | apply IsS105.set_0 | apply IsS105.set_1 | apply IsS105.set_2 | apply IsS105.set_3 | apply IsS105.set_4 | apply IsS105.set_5 | apply IsS105.set_6 | apply IsS105.set_7 | refine IsS105.far ?_ NB451_450.out _ | refine IsS105.far ?_ NB451_477.out _) | exact HI451.out))) : gb451 ≠ gb550)); have n15_ := Aside0.mk ((by rw [hg]; exact Nat.ne_of_gt (IsS105.lt (show IsS105 w _ gb451 t542 t543 t544 t545 t546 t547 true t549 from by repeat (first | (with_reducible first | exact HI451.out | apply IsS105.alloc | apply IsS105.drewN | apply IsS105.drew | apply IsS105.set_0 | apply IsS105.set_1 | apply IsS105.set_2 | apply IsS105.set_3 | apply IsS105.set_4 | apply IsS105.set_5 | apply IsS105.set_6 | apply IsS105.set_7 | refine IsS105.far ?_ NB451_450.out _ | refine IsS105.far ?_ NB451_477.out _) | exact HI451.out))) : gb550 ≠ gb451)); clear HO_7; clear HO_478000; clear HO_478001; clear BK450; clear BK477; clear HI451; clear HB; have HO_7 := n0_; have HO_478000 := n1_; have HO_478001 := n2_; have BK450 := n3_; have BK477 := n4_; have HI451 := n5_; have HB := n6_; have BK550 := n7_; have GW550 := n8_; have GE550 := n9_; have NB450_550 := n10_; have NB550_450 := n11_; have NB477_550 := n12_; have NB550_477 := n13_; have NB451_550 := n14_; have NB550_451 := n15_; clear n0_ n1_ n2_ n3_ n4_ n5_ n6_ n7_ n8_ n9_ n10_ n11_ n12_ n13_ n14_ n15_; clear hb hbox hg; have hnb54 := NB550_450.out; have hnc54 := NB450_550.out; have hnb55 := NB550_477.out; have hnc55 := NB477_550.out; have hnb56 := NB550_451.out; have hnc56 := NB451_550.out; have hcz57_0 : w53.cell? ⟨gb550, 0, none⟩ = some (.int .i64 0) := (blk_cell BK550.out 0).trans rfl; have hcz57_1 : w53.cell? ⟨gb550, 1, none⟩ = some (.int .i64 0) := (blk_cell BK550.out 1).trans rfl; have hcz57_2 : w53.cell? ⟨gb550, 2, none⟩ = some (.int .i64 0) := (blk_cell BK550.out 2).trans rfl; have hcz57_3 : w53.cell? ⟨gb550, 3, none⟩ = some (.int .i64 0) := (blk_cell BK550.out 3).trans rfl; have hcz57_4 : w53.cell? ⟨gb550, 4, none⟩ = some (.int .i64 0) := (blk_cell BK550.out 4).trans rfl; have hfz57_0 := blk_frozen BK550.out 0; have hfz57_1 := blk_frozen BK550.out 1; have hfz57_2 := blk_frozen BK550.out 2; have hfz57_3 := blk_frozen BK550.out 3; have hfz57_4 := blk_frozen BK550.out 4; obtain ⟨HGz58, hgz58⟩ := HI451.out; have hcz58_0 := cellS105_0 HGz58; have hcz58_1 := cellS105_1 HGz58; have hcz58_2 := cellS105_2 HGz58; have hcz58_3 := cellS105_3 HGz58; have hcz58_4 := cellS105_4 HGz58; have hcz58_5 := cellS105_5 HGz58; have hcz58_6 := cellS105_6 HGz58; have hcz58_7 := cellS105_7 HGz58; have hfz58_0 := blk_frozen HGz58 0; have hfz58_1 := blk_frozen HGz58 1; have hfz58_2 := blk_frozen HGz58 2; have hfz58_3 := blk_frozen HGz58 3; have hfz58_4 := blk_frozen HGz58 4; have hfz58_5 := blk_frozen HGz58 5; have hfz58_6 := blk_frozen HGz58 6; have hfz58_7 := blk_frozen HGz58 7; clear HGz58 hgz58))
                   go_roundg kj38
                   case measure => have := HK1.out; have := HK2.out; have := HJ33.out; have := HK4.out; have := HJ38.out; omega
                   case rel => exact ⟨(true), (wrap64 (x9_4 + 1)), (t542), (t543), (t544), (t545), (t546), (t547), (true), (t549), (x478000_4), (u478000), ts36_, ts36_, H', ⟨ts24_ HK1.out HK2.out HJ33.out HK4.out HJ38.out⟩, ⟨ts1_ HO_7.out BK550.out⟩, ⟨ts1_ HO_478000.out BK550.out⟩, ⟨ts1_ HO_478001.out BK550.out⟩, ⟨ts43_ NB450_550.out BK450.out⟩, ⟨ts43_ NB477_550.out BK477.out⟩, ⟨ts6_ HI451.out NB451_450.out NB451_477.out NB451_550.out⟩, ⟨ts28_ HB.out HI451.out GE450.out GE477.out GE550.out⟩⟩
                  ·replace c49 := Bool.eq_false_iff.mpr c49
                   subst c49
                   rw [if_neg Bool.false_ne_true] at H
                   replace H := Option.bind_eq_some_iff.mp H
                   obtain ⟨t551, A590, H⟩ := H
                   try dsimp only at H
                   have A59 := Aside0.mk A590
                   clear A590
                   by_cases c60 : x478000_4.length + t551.length < 17592186044416
                   ·rw [if_pos c60] at H
                    have LMc60 := Aside0.mk c60
                    clear c60
                    obtain ⟨y554, hy554⟩ : ∃ y_ : List Int, y_ = (x478000_4 ++ t551) := ⟨_, rfl⟩
                    replace H : (cupelref20_Parse.l2 kj38 t515 true (wrap64 (x9_4 + 1)) t542 t543 t544 t545 t546 t547 false t549 y554 x478001_1 t468) = some (r1, r2, r3, r4, r5) := by first | (rw [hy554]; with_reducible exact H) | (have H2_ := (Option.bind_some _ _).symm.trans H; rw [hy554]; with_reducible exact H2_) | (have H2_ := (Option.bind_some _ _).symm.trans H; with_reducible exact H2_) | with_reducible exact H | (rw [hy554]; exact H) | exact H
                    have Ny554 := Aside0.mk hy554
                    clear hy554
                    have H' := Aside0.mk H
                    clear H
                    obtain ⟨Ao61, co61, eo61⟩ := Kd.R_slice HO_7.out
                    subst eo61
                    have p526 : 0 ≤ (x9_4 : Int) := of_decide_eq_true ts7_
                    have q526 : x9_4 < (t515.length : Int) := of_decide_eq_true ts7_
                    obtain ⟨ad526, e526, hx526_0, hx526_1, hx526_2, hx526_3, hx526_4, hx526_5⟩ := at_T96 (Kd.R_reads' HO_7.out).2.2 x9_4 p526 q526
                    cases e526
                    replace p526 := eq_true p526
                    replace q526 := eq_true q526
                    try go_wp2_with (first | ((with_reducible refine gate_callee (f := 71) rfl ?_); refine goesL_ (some 69) rfl rfl Tryd.func71 (by kernel_rfl) rfl #[.pointer (some ⟨gb451, 0, none⟩), .string ((rd_T96 t515 x9_4).f1)] rfl ts47_ ?_; (with_reducible refine (cupelref20_reader_take.calls kj38 gb451 x452000_4 x452001_4 x452002_4 x452003_4 x452004_4 x452005_4 x452006_4 x452007_4 ((rd_T96 t515 x9_4).f1) true t528 t529 t530 t531 t532 t533 t534 t535 w _ ?side1 ?side2 A46.out).mono ?_); (case side1 => exact ts42_ HI451.out NB451_450.out NB451_477.out); (case side2 => exact ts31_ HB.out HI451.out GE450.out GE477.out); rintro e w62 ⟨rfl, hi, hb, hk⟩; refine ⟨_, rfl, ?_⟩; have n0_ := Aside0.mk (Kd.R_mono (Kd.R_keep (IsS105.apart (show IsS105 w _ gb451 x452000_4 x452001_4 x452002_4 x452003_4 x452004_4 x452005_4 x452006_4 x452007_4 from by repeat (first | (with_reducible first | exact HI451.out | apply IsS105.alloc | apply IsS105.drewN | apply IsS105.drew | apply IsS105.set_0 | apply IsS105.set_1 | apply IsS105.set_2 | apply IsS105.set_3 | apply IsS105.set_4 | apply IsS105.set_5 | apply IsS105.set_6 | apply IsS105.set_7 | refine IsS105.far ?_ NB451_450.out _ | refine IsS105.far ?_ NB451_477.out _) | exact HI451.out)) (ts53_ HO_7.out) (by decide)) hk (fun _ h => h.2)) (fun _ h => h.1)); have n1_ := Aside0.mk (Kd.R_mono (Kd.R_keep (IsS105.apart (show IsS105 w _ gb451 x452000_4 x452001_4 x452002_4 x452003_4 x452004_4 x452005_4 x452006_4 x452007_4 from by repeat (first | (with_reducible first | exact HI451.out | apply IsS105.alloc | apply IsS105.drewN | apply IsS105.drew | apply IsS105.set_0 | apply IsS105.set_1 | apply IsS105.set_2 | apply IsS105.set_3 | apply IsS105.set_4 | apply IsS105.set_5 | apply IsS105.set_6 | apply IsS105.set_7 | refine IsS105.far ?_ NB451_450.out _ | refine IsS105.far ?_ NB451_477.out _) | exact HI451.out)) (ts53_ HO_478000.out) (by decide)) hk (fun _ h => h.2)) (fun _ h => h.1)); have n2_ := Aside0.mk (Kd.R_mono (Kd.R_keep (IsS105.apart (show IsS105 w _ gb451 x452000_4 x452001_4 x452002_4 x452003_4 x452004_4 x452005_4 x452006_4 x452007_4 from by repeat (first | (with_reducible first | exact HI451.out | apply IsS105.alloc | apply IsS105.drewN | apply IsS105.drew | apply IsS105.set_0 | apply IsS105.set_1 | apply IsS105.set_2 | apply IsS105.set_3 | apply IsS105.set_4 | apply IsS105.set_5 | apply IsS105.set_6 | apply IsS105.set_7 | refine IsS105.far ?_ NB451_450.out _ | refine IsS105.far ?_ NB451_477.out _) | exact HI451.out)) (ts53_ HO_478001.out) (by decide)) hk (fun _ h => h.2)) (fun _ h => h.1)); have n3_ := Aside0.mk (KeepBut.blk hk (g' := gb450) (o := .cells #[.slice none 0 0, .slice none 0 0, .int .i64 0] 25 (0, 0)) (ts29_ BK450.out) NB450_451.out (by simp)); have n4_ := Aside0.mk (KeepBut.blk hk (g' := gb477) (o := .cells #[u478000, u478001, .int .i64 t468] 25 (0, 0)) (ts29_ BK477.out) NB477_451.out (by simp)); have n5_ := Aside0.mk (hb); have n6_ := Aside0.mk (hi); clear HO_7; clear HO_478000; clear HO_478001; clear BK450; clear BK477; clear HB; clear HI451; have HO_7 := n0_; have HO_478000 := n1_; have HO_478001 := n2_; have BK450 := n3_; have BK477 := n4_; have HB := n5_; have HI451 := n6_; clear n0_ n1_ n2_ n3_ n4_ n5_ n6_; (try clear hb); (try clear hb2); (try clear hk); (try clear hi); have p536 : 0 ≤ (x9_4 : Int) := of_decide_eq_true ts7_; have q536 : x9_4 < (t515.length : Int) := of_decide_eq_true ts7_; obtain ⟨ad536, e536, hx536_0, hx536_1, hx536_2, hx536_3, hx536_4, hx536_5⟩ := at_T96 (Kd.R_reads' HO_7.out).2.2 x9_4 p536 q536; obtain rfl : ad526 = ad536 := (by injection e536); replace p536 := eq_true p536; replace q536 := eq_true q536) | ((with_reducible refine gate_callee (f := 73) rfl ?_); refine goesL_ (some 75) rfl rfl Tryd.func73 (by kernel_rfl) rfl #[.pointer (some ⟨gb451, 0, none⟩), .agg #[.int .i64 ((rd_T96 t515 x9_4).f0), .string ((rd_T96 t515 x9_4).f1), .bool ((rd_T96 t515 x9_4).f2), .bool ((rd_T96 t515 x9_4).f3), .bool ((rd_T96 t515 x9_4).f4), .int .i64 ((rd_T96 t515 x9_4).f5)]] rfl ts47_ ?_; (with_reducible refine (cupelref20_reader_instr.calls kj38 gb451 t528 t529 t530 t531 t532 t533 t534 t535 ((rd_T96 t515 x9_4).f0) ((rd_T96 t515 x9_4).f1) ((rd_T96 t515 x9_4).f2) ((rd_T96 t515 x9_4).f3) ((rd_T96 t515 x9_4).f4) ((rd_T96 t515 x9_4).f5) t537 t538 t539 t540 t541 t542 t543 t544 t545 t546 t547 false t549 w _ ?side1 ?side2 A48.out).mono ?_); (case side1 => exact ts42_ HI451.out NB451_450.out NB451_477.out); (case side2 => exact ts31_ HB.out HI451.out GE450.out GE477.out); rintro e w63 ⟨rfl, hi, hb, hk⟩; refine ⟨_, rfl, ?_⟩; have n0_ := Aside0.mk (Kd.R_mono (Kd.R_keep (IsS105.apart (show IsS105 w _ gb451 t528 t529 t530 t531 t532 t533 t534 t535 from by repeat (first | (with_reducible first | exact HI451.out | apply IsS105.alloc | apply IsS105.drewN | apply IsS105.drew | apply IsS105.set_0 | apply IsS105.set_1 | apply IsS105.set_2 | apply IsS105.set_3 | apply IsS105.set_4 | apply IsS105.set_5 | apply IsS105.set_6 | apply IsS105.set_7 | refine IsS105.far ?_ NB451_450.out _ | refine IsS105.far ?_ NB451_477.out _) | exact HI451.out)) (ts53_ HO_7.out) (by decide)) hk (fun _ h => h.2)) (fun _ h => h.1)); have n1_ := Aside0.mk (Kd.R_mono (Kd.R_keep (IsS105.apart (show IsS105 w _ gb451 t528 t529 t530 t531 t532 t533 t534 t535 from by repeat (first | (with_reducible first | exact HI451.out | apply IsS105.alloc | apply IsS105.drewN | apply IsS105.drew | apply IsS105.set_0 | apply IsS105.set_1 | apply IsS105.set_2 | apply IsS105.set_3 | apply IsS105.set_4 | apply IsS105.set_5 | apply IsS105.set_6 | apply IsS105.set_7 | refine IsS105.far ?_ NB451_450.out _ | refine IsS105.far ?_ NB451_477.out _) | exact HI451.out)) (ts53_ HO_478000.out) (by decide)) hk (fun _ h => h.2)) (fun _ h => h.1)); have n2_ := Aside0.mk (Kd.R_mono (Kd.R_keep (IsS105.apart (show IsS105 w _ gb451 t528 t529 t530 t531 t532 t533 t534 t535 from by repeat (first | (with_reducible first | exact HI451.out | apply IsS105.alloc | apply IsS105.drewN | apply IsS105.drew | apply IsS105.set_0 | apply IsS105.set_1 | apply IsS105.set_2 | apply IsS105.set_3 | apply IsS105.set_4 | apply IsS105.set_5 | apply IsS105.set_6 | apply IsS105.set_7 | refine IsS105.far ?_ NB451_450.out _ | refine IsS105.far ?_ NB451_477.out _) | exact HI451.out)) (ts53_ HO_478001.out) (by decide)) hk (fun _ h => h.2)) (fun _ h => h.1)); have n3_ := Aside0.mk (KeepBut.blk hk (g' := gb450) (o := .cells #[.slice none 0 0, .slice none 0 0, .int .i64 0] 25 (0, 0)) (ts29_ BK450.out) NB450_451.out (by simp)); have n4_ := Aside0.mk (KeepBut.blk hk (g' := gb477) (o := .cells #[u478000, u478001, .int .i64 t468] 25 (0, 0)) (ts29_ BK477.out) NB477_451.out (by simp)); have n5_ := Aside0.mk (hb); have n6_ := Aside0.mk (hi); clear HO_7; clear HO_478000; clear HO_478001; clear BK450; clear BK477; clear HB; clear HI451; have HO_7 := n0_; have HO_478000 := n1_; have HO_478001 := n2_; have BK450 := n3_; have BK477 := n4_; have HB := n5_; have HI451 := n6_; clear n0_ n1_ n2_ n3_ n4_ n5_ n6_; (try clear hb); (try clear hb2); (try clear hk); (try clear hi)) | ((with_reducible refine gate_dst (N := 10) rfl ?_); refine box_event ?hg (N := 10) ?hd (cs := #[.int .i64 0, .int .i64 0, .int .i64 0, .int .i64 0, .int .i64 0]) (t := 67) ?hr ?_; (case hd => rfl); (case hg => rfl); (case hr => exact ts40_); intro gb550 hg w64 hbox hb; have n0_ := Aside0.mk (Kd.R_below (ts53_ HO_7.out) hb); have n1_ := Aside0.mk (Kd.R_below (ts53_ HO_478000.out) hb); have n2_ := Aside0.mk (Kd.R_below (ts53_ HO_478001.out) hb); have n3_ := Aside0.mk (blk_below (g := gb450) (o := .cells #[.slice none 0 0, .slice none 0 0, .int .i64 0] 25 (0, 0)) (ts29_ BK450.out) hb); have n4_ := Aside0.mk (blk_below (g := gb477) (o := .cells #[u478000, u478001, .int .i64 t468] 25 (0, 0)) (ts29_ BK477.out) hb); have n5_ := Aside0.mk (IsS105.below (ts42_ HI451.out NB451_450.out NB451_477.out) hb); have n6_ := Aside0.mk (below_step (ts31_ HB.out HI451.out GE450.out GE477.out) hb); have n7_ := Aside0.mk (hbox); have n8_ := Aside0.mk ((by rw [hg]; exact (below_size (ts31_ HB.out HI451.out GE450.out GE477.out)) : w.heap.size ≤ gb550)); have n9_ := Aside0.mk ((by rw [hg]; exact (below_size (ts31_ HB.out HI451.out GE450.out GE477.out)) : w.heap.size ≤ gb550)); have n10_ := Aside0.mk ((ts59_ BK450.out : gb450 ≠ gb550)); have n11_ := Aside0.mk ((ts66_ BK450.out : gb550 ≠ gb450)); have n12_ := Aside0.mk ((by rw [hg]; exact Nat.ne_of_lt (blk_lt (g := gb477) (o := .cells #[u478000, u478001, .int .i64 t468] 25 (0, 0)) (ts29_ BK477.out)) : gb477 ≠ gb550)); have n13_ := Aside0.mk ((by rw [hg]; exact Nat.ne_of_gt (blk_lt (g := gb477) (o := .cells #[u478000, u478001, .int .i64 t468] 25 (0, 0)) (ts29_ BK477.out)) : gb550 ≠ gb477)); have n14_ := Aside0.mk ((by rw [hg]; exact Nat.ne_of_lt (IsS105.lt (show IsS105 w _ gb451 t542 t543 t544 t545 t546 t547 false t549 from by repeat (first | (with_reducible first | exact HI451.out | apply IsS105.alloc | apply IsS105.drewN | apply IsS105.drew | apply IsS105.set_0 | apply IsS105.set_1 | apply IsS105.set_2 | apply IsS105.set_3 | apply IsS105.set_4 | apply IsS105.set_5 | apply IsS105.set_6 | apply IsS105.set_7 | refine IsS105.far ?_ NB451_450.out _ | refine IsS105.far ?_ NB451_477.out _) | exact HI451.out))) : gb451 ≠ gb550)); have n15_ := Aside0.mk ((by rw [hg]; exact Nat.ne_of_gt (IsS105.lt (show IsS105 w _ gb451 t542 t543 t544 t545 t546 t547 false t549 from by repeat (first | (with_reducible first | exact HI451.out | apply IsS105.alloc | apply IsS105.drewN | apply IsS105.drew | apply IsS105.set_0 | apply IsS105.set_1 | apply IsS105.set_2 | apply IsS105.set_3 | apply IsS105.set_4 | apply IsS105.set_5 | apply IsS105.set_6 | apply IsS105.set_7 | refine IsS105.far ?_ NB451_450.out _ | refine IsS105.far ?_ NB451_477.out _) | exact HI451.out))) : gb550 ≠ gb451)); clear HO_7; clear HO_478000; clear HO_478001; clear BK450; clear BK477; clear HI451; clear HB; have HO_7 := n0_; have HO_478000 := n1_; have HO_478001 := n2_; have BK450 := n3_; have BK477 := n4_; have HI451 := n5_; have HB := n6_; have BK550 := n7_; have GW550 := n8_; have GE550 := n9_; have NB450_550 := n10_; have NB550_450 := n11_; have NB477_550 := n12_; have NB550_477 := n13_; have NB451_550 := n14_; have NB550_451 := n15_; clear n0_ n1_ n2_ n3_ n4_ n5_ n6_ n7_ n8_ n9_ n10_ n11_ n12_ n13_ n14_ n15_; clear hb hbox hg; have hnb65 := NB550_450.out; have hnc65 := NB450_550.out; have hnb66 := NB550_477.out; have hnc66 := NB477_550.out; have hnb67 := NB550_451.out; have hnc67 := NB451_550.out; have hcz68_0 : w64.cell? ⟨gb550, 0, none⟩ = some (.int .i64 0) := (blk_cell BK550.out 0).trans rfl; have hcz68_1 : w64.cell? ⟨gb550, 1, none⟩ = some (.int .i64 0) := (blk_cell BK550.out 1).trans rfl; have hcz68_2 : w64.cell? ⟨gb550, 2, none⟩ = some (.int .i64 0) := (blk_cell BK550.out 2).trans rfl; have hcz68_3 : w64.cell? ⟨gb550, 3, none⟩ = some (.int .i64 0) := (blk_cell BK550.out 3).trans rfl; have hcz68_4 : w64.cell? ⟨gb550, 4, none⟩ = some (.int .i64 0) := (blk_cell BK550.out 4).trans rfl; have hfz68_0 := blk_frozen BK550.out 0; have hfz68_1 := blk_frozen BK550.out 1; have hfz68_2 := blk_frozen BK550.out 2; have hfz68_3 := blk_frozen BK550.out 3; have hfz68_4 := blk_frozen BK550.out 4; obtain ⟨HGz69, hgz69⟩ := HI451.out; have hcz69_0 := cellS105_0 HGz69; have hcz69_1 := cellS105_1 HGz69; have hcz69_2 := cellS105_2 HGz69; have hcz69_3 := cellS105_3 HGz69; have hcz69_4 := cellS105_4 HGz69; have hcz69_5 := cellS105_5 HGz69; have hcz69_6 := cellS105_6 HGz69; have hcz69_7 := cellS105_7 HGz69; have hfz69_0 := blk_frozen HGz69 0; have hfz69_1 := blk_frozen HGz69 1; have hfz69_2 := blk_frozen HGz69 2; have hfz69_3 := blk_frozen HGz69 3; have hfz69_4 := blk_frozen HGz69 4; have hfz69_5 := blk_frozen HGz69 5; have hfz69_6 := blk_frozen HGz69 6; have hfz69_7 := blk_frozen HGz69 7; clear HGz69 hgz69))
                    have n0_ : Aside0 (Kd.R k96 96 (((((w64.setCell ⟨gb550, 0, none⟩ (.int .i64 t537)).setCell ⟨gb550, 1, none⟩ (.int .i64 t538)).setCell ⟨gb550, 2, none⟩ (.int .i64 t539)).setCell ⟨gb550, 3, none⟩ (.int .i64 t540)).setCell ⟨gb550, 4, none⟩ (.int .i64 t541)) w.heap.size (fun _ => True) (.slice (some ad526) t515.length co61) t515) := ⟨ts1_ HO_7.out BK550.out⟩
                    have n1_ : Aside0 (Kd.R (Kd.int .u64) 55 (((((w64.setCell ⟨gb550, 0, none⟩ (.int .i64 t537)).setCell ⟨gb550, 1, none⟩ (.int .i64 t538)).setCell ⟨gb550, 2, none⟩ (.int .i64 t539)).setCell ⟨gb550, 3, none⟩ (.int .i64 t540)).setCell ⟨gb550, 4, none⟩ (.int .i64 t541)) w.heap.size (fun _ => True) u478000 x478000_4) := ⟨ts1_ HO_478000.out BK550.out⟩
                    have n2_ : Aside0 (Kd.R (Kd.int .i64) 2 (((((w64.setCell ⟨gb550, 0, none⟩ (.int .i64 t537)).setCell ⟨gb550, 1, none⟩ (.int .i64 t538)).setCell ⟨gb550, 2, none⟩ (.int .i64 t539)).setCell ⟨gb550, 3, none⟩ (.int .i64 t540)).setCell ⟨gb550, 4, none⟩ (.int .i64 t541)) w.heap.size (fun _ => True) u478001 x478001_1) := ⟨ts1_ HO_478001.out BK550.out⟩
                    have n3_ : Aside0 ((((((w64.setCell ⟨gb550, 0, none⟩ (.int .i64 t537)).setCell ⟨gb550, 1, none⟩ (.int .i64 t538)).setCell ⟨gb550, 2, none⟩ (.int .i64 t539)).setCell ⟨gb550, 3, none⟩ (.int .i64 t540)).setCell ⟨gb550, 4, none⟩ (.int .i64 t541)).heap[gb450]? = some (.cells #[.slice none 0 0, .slice none 0 0, .int .i64 0] 25 (0, 0))) := ⟨ts43_ NB450_550.out BK450.out⟩
                    have n4_ : Aside0 ((((((w64.setCell ⟨gb550, 0, none⟩ (.int .i64 t537)).setCell ⟨gb550, 1, none⟩ (.int .i64 t538)).setCell ⟨gb550, 2, none⟩ (.int .i64 t539)).setCell ⟨gb550, 3, none⟩ (.int .i64 t540)).setCell ⟨gb550, 4, none⟩ (.int .i64 t541)).heap[gb477]? = some (.cells #[u478000, u478001, .int .i64 t468] 25 (0, 0))) := ⟨ts43_ NB477_550.out BK477.out⟩
                    have n5_ : Aside0 ((((((w64.setCell ⟨gb550, 0, none⟩ (.int .i64 t537)).setCell ⟨gb550, 1, none⟩ (.int .i64 t538)).setCell ⟨gb550, 2, none⟩ (.int .i64 t539)).setCell ⟨gb550, 3, none⟩ (.int .i64 t540)).setCell ⟨gb550, 4, none⟩ (.int .i64 t541)).heap[gb550]? = some (.cells #[.int .i64 t537, .int .i64 t538, .int .i64 t539, .int .i64 t540, .int .i64 t541] 67 (0, 0))) := ⟨by (with_reducible repeat (first | refine blk_drewN ?_ _ | refine blk_drew ?_ | refine blk_alloc ?_ _)); refine blk_put (cs := #[.int .i64 t537, .int .i64 t538, .int .i64 t539, .int .i64 t540, .int .i64 0]) ?_ 4 _ rfl; (with_reducible repeat (first | refine blk_drewN ?_ _ | refine blk_drew ?_ | refine blk_alloc ?_ _)); refine blk_put (cs := #[.int .i64 t537, .int .i64 t538, .int .i64 t539, .int .i64 0, .int .i64 0]) ?_ 3 _ rfl; (with_reducible repeat (first | refine blk_drewN ?_ _ | refine blk_drew ?_ | refine blk_alloc ?_ _)); refine blk_put (cs := #[.int .i64 t537, .int .i64 t538, .int .i64 0, .int .i64 0, .int .i64 0]) ?_ 2 _ rfl; (with_reducible repeat (first | refine blk_drewN ?_ _ | refine blk_drew ?_ | refine blk_alloc ?_ _)); refine blk_put (cs := #[.int .i64 t537, .int .i64 0, .int .i64 0, .int .i64 0, .int .i64 0]) ?_ 1 _ rfl; (with_reducible repeat (first | refine blk_drewN ?_ _ | refine blk_drew ?_ | refine blk_alloc ?_ _)); refine blk_put (cs := #[.int .i64 0, .int .i64 0, .int .i64 0, .int .i64 0, .int .i64 0]) ?_ 0 _ rfl; (with_reducible repeat (first | refine blk_drewN ?_ _ | refine blk_drew ?_ | refine blk_alloc ?_ _)); exact BK550.out⟩
                    have n6_ : Aside0 (IsS105 w (((((w64.setCell ⟨gb550, 0, none⟩ (.int .i64 t537)).setCell ⟨gb550, 1, none⟩ (.int .i64 t538)).setCell ⟨gb550, 2, none⟩ (.int .i64 t539)).setCell ⟨gb550, 3, none⟩ (.int .i64 t540)).setCell ⟨gb550, 4, none⟩ (.int .i64 t541)) gb451 t542 t543 t544 t545 t546 t547 false t549) := ⟨ts6_ HI451.out NB451_450.out NB451_477.out NB451_550.out⟩
                    have n7_ : Aside0 (Below w.heap.size w (((((w64.setCell ⟨gb550, 0, none⟩ (.int .i64 t537)).setCell ⟨gb550, 1, none⟩ (.int .i64 t538)).setCell ⟨gb550, 2, none⟩ (.int .i64 t539)).setCell ⟨gb550, 3, none⟩ (.int .i64 t540)).setCell ⟨gb550, 4, none⟩ (.int .i64 t541))) := ⟨ts28_ HB.out HI451.out GE450.out GE477.out GE550.out⟩
                    (try clear HO_7)
                    (try clear HO_478000)
                    (try clear HO_478001)
                    (try clear BK450)
                    (try clear BK477)
                    (try clear BK550)
                    (try clear HI451)
                    (try clear HB)
                    generalize (((((w64.setCell ⟨gb550, 0, none⟩ (.int .i64 t537)).setCell ⟨gb550, 1, none⟩ (.int .i64 t538)).setCell ⟨gb550, 2, none⟩ (.int .i64 t539)).setCell ⟨gb550, 3, none⟩ (.int .i64 t540)).setCell ⟨gb550, 4, none⟩ (.int .i64 t541)) = w70 at n0_ n1_ n2_ n3_ n4_ n5_ n6_ n7_ ⊢
                    have HO_7 := n0_
                    have HO_478000 := n1_
                    have HO_478001 := n2_
                    have BK450 := n3_
                    have BK477 := n4_
                    have BK550 := n5_
                    have HI451 := n6_
                    have HB := n7_
                    clear n0_ n1_ n2_ n3_ n4_ n5_ n6_ n7_
                    have n0_ := Aside0.mk (Kd.R_drew HO_7.out)
                    have n1_ := Aside0.mk (Kd.R_drew HO_478000.out)
                    have n2_ := Aside0.mk (Kd.R_drew HO_478001.out)
                    have n3_ := Aside0.mk (blk_drew BK450.out)
                    have n4_ := Aside0.mk (blk_drew BK477.out)
                    have n5_ := Aside0.mk (blk_drew BK550.out)
                    have n6_ := Aside0.mk (IsS105.drew HI451.out)
                    have n7_ := Aside0.mk (below_drew1 HB.out)
                    clear HO_7
                    clear HO_478000
                    clear HO_478001
                    clear BK450
                    clear BK477
                    clear BK550
                    clear HI451
                    clear HB
                    have HO_7 := n0_
                    have HO_478000 := n1_
                    have HO_478001 := n2_
                    have BK450 := n3_
                    have BK477 := n4_
                    have BK550 := n5_
                    have HI451 := n6_
                    have HB := n7_
                    clear n0_ n1_ n2_ n3_ n4_ n5_ n6_ n7_
                    refine start_ (n := 7) (S := fun w' => w'.cell? ⟨gb477, 0, none⟩ = some (u478000) ∧ w'.cell? ⟨gb477, 1, none⟩ = some (u478001) ∧ w'.cell? ⟨gb477, 2, none⟩ = some (.int .i64 t468) ∧ w'.cell? ⟨gb550, 0, none⟩ = some (.int .i64 t537) ∧ w'.cell? ⟨gb550, 1, none⟩ = some (.int .i64 t538) ∧ w'.cell? ⟨gb550, 2, none⟩ = some (.int .i64 t539) ∧ w'.cell? ⟨gb550, 3, none⟩ = some (.int .i64 t540) ∧ w'.cell? ⟨gb550, 4, none⟩ = some (.int .i64 t541)) (ds := [6]) #[false, false, false, false, false, false, false] (by kernel_rfl) rfl rfl ⟨(blk_cell BK477.out 0).trans rfl, (blk_cell BK477.out 1).trans rfl, (blk_cell BK477.out 2).trans rfl, (blk_cell BK550.out 0).trans rfl, (blk_cell BK550.out 1).trans rfl, (blk_cell BK550.out 2).trans rfl, (blk_cell BK550.out 3).trans rfl, (blk_cell BK550.out 4).trans rfl⟩ (fun hHeld => ?_)
                    generalize w70.drew = w71 at HO_7 HO_478000 HO_478001 BK450 BK477 BK550 HI451 HB hHeld ⊢
                    refine pure_ (i := 0) (N := some 81) (v := ?_) (a' := ?_) #[true, false, false, false, false, false, false] rfl rfl (by kernel_rfl) (fun _ _ _ h => h) (Or.inl ⟨by rfl, ?_⟩) ?_ ?_
                    rotate_left
                    ·intro w'
                     go_simp
                     with_reducible rfl
                    rotate_left
                    ·simp only [Act.put, List.setIfInBounds_toArray, List.set_cons_zero, List.set_cons_succ, i64_w, i32_w]
                     rfl
                    refine take_ (i := 1) (N := some 82) (v := ?_) (a' := ?_) #[true, true, false, false, false, false, false] rfl rfl (by kernel_rfl) (fun _ _ _ h => h) (Or.inl ⟨by rfl, ?_⟩) hHeld ?_ ?_
                    rotate_left
                    ·rintro w' ⟨s0, s1, s2, s3, s4, s5, s6, s7⟩
                     go_simp
                     with_reducible rfl
                    rotate_left
                    ·simp only [Act.put, List.setIfInBounds_toArray, List.set_cons_zero, List.set_cons_succ, i64_w, i32_w]
                     rfl
                    refine take_ (i := 2) (N := some 83) (v := ?_) (a' := ?_) #[true, true, true, false, false, false, false] rfl rfl (by kernel_rfl) (fun _ _ _ h => h) (Or.inl ⟨by rfl, ?_⟩) hHeld ?_ ?_
                    rotate_left
                    ·rintro w' ⟨s0, s1, s2, s3, s4, s5, s6, s7⟩
                     go_simp
                     with_reducible rfl
                    rotate_left
                    ·simp only [Act.put, List.setIfInBounds_toArray, List.set_cons_zero, List.set_cons_succ, i64_w, i32_w]
                     rfl
                    refine one_ (i := 3) (N := some 84) #[true, true, true, true, false, false, false] rfl rfl (by kernel_rfl) (by decide) (fun K hK => ?_)
                    refine goes_ Tryd.func41 (by kernel_rfl) rfl #[.agg #[.int .i64 t537, .int .i64 t538, .int .i64 t539, .int .i64 t540, .int .i64 t541]] (by rfl) rfl rfl ts47_ ?_
                    with_reducible refine (cupelref20_words.calls t537 t538 t539 t540 t541 t551 _ A59.out).mono ?_
                    rintro e w72 ⟨v552, rfl, ho0, hb⟩
                    refine ⟨_, rfl, ?_⟩
                    have n0_ := Aside0.mk (Kd.R_below (ts53_ HO_7.out) hb)
                    have n1_ := Aside0.mk (Kd.R_elder' (ts53_ HO_478000.out) (Kd.R_base ho0) hb)
                    have n2_ := Aside0.mk (Kd.R_below (ts53_ HO_478001.out) hb)
                    have n3_ := Aside0.mk (Kd.R_lower (Kd.R_new' ho0 (Kd.R_lt (ts53_ HO_478000.out))) (below_size (ts28_ HB.out HI451.out GE450.out GE477.out GE550.out)))
                    have n4_ := Aside0.mk (blk_below (g := gb450) (o := .cells #[.slice none 0 0, .slice none 0 0, .int .i64 0] 25 (0, 0)) (ts29_ BK450.out) hb)
                    have n5_ := Aside0.mk (blk_below (g := gb477) (o := .cells #[u478000, u478001, .int .i64 t468] 25 (0, 0)) (ts29_ BK477.out) hb)
                    have n6_ := Aside0.mk (IsS105.below (ts6_ HI451.out NB451_450.out NB451_477.out NB451_550.out) hb)
                    have n7_ := Aside0.mk (blk_below (g := gb550) (o := .cells #[.int .i64 t537, .int .i64 t538, .int .i64 t539, .int .i64 t540, .int .i64 t541] 67 (0, 0)) (ts29_ BK550.out) hb)
                    have n8_ := Aside0.mk (below_step (ts28_ HB.out HI451.out GE450.out GE477.out GE550.out) hb)
                    clear HO_7
                    clear HO_478000
                    clear HO_478001
                    clear BK450
                    clear BK477
                    clear HI451
                    clear BK550
                    clear HB
                    have HO_7 := n0_
                    have HO_478000 := n1_
                    have HO_478001 := n2_
                    have HO553 := n3_
                    have BK450 := n4_
                    have BK477 := n5_
                    have HI451 := n6_
                    have BK550 := n7_
                    have HB := n8_
                    clear n0_ n1_ n2_ n3_ n4_ n5_ n6_ n7_ n8_
                    (try clear hb)
                    (try clear hb2)
                    (try clear hk)
                    (try clear hi)
                    (try clear ho0)
                    obtain ⟨Ao74, co74, eo74⟩ := Kd.R_slice HO553.out
                    (first | subst eo74 | (injection eo74 with f1_ f2_ f3_; have f4_ := f1_.symm; have f5_ := f3_.symm; clear f1_ f2_ f3_; subst f4_; subst f5_))
                    refine hK.out _ _ ⟨(blk_cell BK477.out 0).trans rfl, (blk_cell BK477.out 1).trans rfl, (blk_cell BK477.out 2).trans rfl, (blk_cell BK550.out 0).trans rfl, (blk_cell BK550.out 1).trans rfl, (blk_cell BK550.out 2).trans rfl, (blk_cell BK550.out 3).trans rfl, (blk_cell BK550.out 4).trans rfl⟩ (fun hHeld => ?_)
                    clear hK K
                    refine norm_ (a' := ?_) ?_ ?_
                    rotate_left
                    ·show Act.put _ (some 84) _ = _
                     simp only [Act.put, List.setIfInBounds_toArray, List.set_cons_zero, List.set_cons_succ, i64_w, i32_w]
                     rfl
                    refine one_ (i := 4) (N := some 85) #[true, true, true, true, true, false, false] rfl rfl (by kernel_rfl) (by decide) (fun K hK => ?_)
                    refine Kd.R_append_rows_step (Kd.int .u64) (w0 := w) w.heap.size (by rfl) (.tmp 82) (.tmp 84) 22 55 (.int .u64 0) 8 rfl Tryd.underlying22 info55 rfl (by decide) (by omega) u478000 x478000_4 t551 _ _ _ (fun k_ => some k_ ≠ (.slice Ao74 t551.length co74 : Value).ownBlock) (fun _ => False) rfl rfl ?aO ?aR (fun _ _ h => h) (fun _ h => h.elim) ?aF ?aB ?aS ?aL ?_
                    (case aR => exact ts52_ HO553.out)
                    (case aB => exact (ts28_ HB.out HI451.out GE450.out GE477.out GE550.out))
                    (case aF => exact (fun k_ hk => Kd.fresh' (Kd.R_lt (ts53_ HO553.out)) k_ hk))
                    (case aO => exact (by (with_reducible repeat (first | apply Kd.R_alloc | apply Kd.R_drewN | apply Kd.R_drew)); exact Kd.R_mono HO_478000.out (fun _ hk => hk.2)))
                    (case aS => exact (below_size (ts28_ HB.out HI451.out GE450.out GE477.out GE550.out)))
                    (case aL => have := LMc60.out; omega)
                    intro v555 w73 ho hb hg hat
                    rw [← Ny554.out] at ho
                    have n0_ := Aside0.mk (Kd.R_over' (ts53_ HO_7.out) (Kd.R_typed (ts53_ HO_478000.out)) (by decide) hg)
                    have n1_ := Aside0.mk (Kd.R_over' (ts53_ HO_478001.out) (Kd.R_typed (ts53_ HO_478000.out)) (by decide) hg)
                    have n2_ := Aside0.mk (blk_grown (g := gb450) (o := .cells #[.slice none 0 0, .slice none 0 0, .int .i64 0] 25 (0, 0)) (ts29_ BK450.out) hg (Kd.R_ne HO_478000.out BK450.out (by decide)))
                    have n3_ := Aside0.mk (blk_grown (g := gb477) (o := .cells #[u478000, u478001, .int .i64 t468] 25 (0, 0)) (ts29_ BK477.out) hg (Kd.R_ne HO_478000.out BK477.out (by decide)))
                    have n4_ := Aside0.mk (IsS105.grown (ts6_ HI451.out NB451_450.out NB451_477.out NB451_550.out) hg (IsS105.own_ne HI451.out HO_478000.out (by decide)))
                    have n5_ := Aside0.mk (blk_grown (g := gb550) (o := .cells #[.int .i64 t537, .int .i64 t538, .int .i64 t539, .int .i64 t540, .int .i64 t541] 67 (0, 0)) (ts29_ BK550.out) hg (Kd.R_ne HO_478000.out BK550.out (by decide)))
                    have n6_ := Aside0.mk (Kd.R_after (ok := (fun _ => True)) (ts53_ HO553.out) hg hat)
                    have n7_ := Aside0.mk (hb)
                    have n8_ := Aside0.mk (ho)
                    clear HO_7
                    clear HO_478001
                    clear BK450
                    clear BK477
                    clear HI451
                    clear BK550
                    clear HO553
                    clear HB
                    clear HO_478000
                    have HO_7 := n0_
                    have HO_478001 := n1_
                    have BK450 := n2_
                    have BK477 := n3_
                    have HI451 := n4_
                    have BK550 := n5_
                    have HO553 := n6_
                    have HB := n7_
                    have HO556 := n8_
                    clear n0_ n1_ n2_ n3_ n4_ n5_ n6_ n7_ n8_
                    clear ho hb hg hat
                    obtain ⟨Ao75, co75, eo75⟩ := Kd.R_slice HO556.out
                    (first | subst eo75 | (injection eo75 with f1_ f2_ f3_; have f4_ := f1_.symm; have f5_ := f3_.symm; clear f1_ f2_ f3_; subst f4_; subst f5_))
                    refine hK.out _ _ ⟨(blk_cell BK477.out 0).trans rfl, (blk_cell BK477.out 1).trans rfl, (blk_cell BK477.out 2).trans rfl, (blk_cell BK550.out 0).trans rfl, (blk_cell BK550.out 1).trans rfl, (blk_cell BK550.out 2).trans rfl, (blk_cell BK550.out 3).trans rfl, (blk_cell BK550.out 4).trans rfl⟩ (fun hHeld => ?_)
                    clear hK K
                    refine norm_ (a' := ?_) ?_ ?_
                    rotate_left
                    ·show Act.put _ (some 85) _ = _
                     simp only [Act.put, List.setIfInBounds_toArray, List.set_cons_zero, List.set_cons_succ, i64_w, i32_w]
                     rfl
                    refine pure_ (i := 5) (N := some 86) (v := ?_) (a' := ?_) #[true, true, true, true, true, true, false] rfl rfl (by kernel_rfl) (fun _ _ _ h => h) (Or.inl ⟨by rfl, ?_⟩) ?_ ?_
                    rotate_left
                    ·intro w'
                     go_simp
                     with_reducible rfl
                    rotate_left
                    ·simp only [Act.put, List.setIfInBounds_toArray, List.set_cons_zero, List.set_cons_succ, i64_w, i32_w]
                     rfl
                    refine last_ (i := 6) (N := none) #[true, true, true, true, true, true, true] rfl rfl (by kernel_rfl) (by decide) (fun K hK => ?_)
                    have hs76 : w73.cell? ⟨gb477, 0, none⟩ = some (u478000) := (blk_cell BK477.out 0).trans rfl
                    have hfs76 := blk_frozen BK477.out 0
                    have hns76_0 := NB450_477.out
                    have hns76_2 := NB550_477.out
                    have hms76_0 := NB477_450.out
                    have hms76_2 := NB477_550.out
                    refine skip_ (w1 := ?_) (by rfl) rfl ?_ ?_
                    rotate_left
                    ·go_simp
                     rfl
                    refine hK.out _ _ ?_
                    clear hK K
                    refine done_ (by kernel_rfl) ?_
                    try go_wp2
                    go_roundg kj38
                    case measure => have := HK1.out; have := HK2.out; have := HJ33.out; have := HK4.out; have := HJ38.out; omega
                    case rel => exact ⟨(true), (wrap64 (x9_4 + 1)), (t542), (t543), (t544), (t545), (t546), (t547), (false), (t549), (y554), (.slice Ao75 y554.length co75), ts36_, ts36_, H', ⟨ts24_ HK1.out HK2.out HJ33.out HK4.out HJ38.out⟩, ⟨ts17_ HO_7.out BK477.out⟩, ⟨ts17_ HO556.out BK477.out⟩, ⟨ts17_ HO_478001.out BK477.out⟩, ⟨ts41_ NB450_477.out BK450.out⟩, ⟨by (with_reducible repeat (first | refine blk_drewN ?_ _ | refine blk_drew ?_ | refine blk_alloc ?_ _)); refine blk_put (cs := #[u478000, u478001, .int .i64 t468]) ?_ 0 _ rfl; (with_reducible repeat (first | refine blk_drewN ?_ _ | refine blk_drew ?_ | refine blk_alloc ?_ _)); exact BK477.out⟩, ⟨ts6_ HI451.out NB451_450.out NB451_477.out NB451_550.out⟩, ⟨ts28_ HB.out HI451.out GE450.out GE477.out GE550.out⟩⟩
                   ·rw [if_neg c60] at H
                    exact absurd H (by simp)
                 ·replace c47 := Bool.eq_false_iff.mpr c47
                  subst c47
                  rw [if_neg Bool.false_ne_true] at H
                  have H' := Aside0.mk H
                  clear H
                  obtain ⟨Ao77, co77, eo77⟩ := Kd.R_slice HO_7.out
                  subst eo77
                  have p526 : 0 ≤ (x9_4 : Int) := of_decide_eq_true ts7_
                  have q526 : x9_4 < (t515.length : Int) := of_decide_eq_true ts7_
                  obtain ⟨ad526, e526, hx526_0, hx526_1, hx526_2, hx526_3, hx526_4, hx526_5⟩ := at_T96 (Kd.R_reads' HO_7.out).2.2 x9_4 p526 q526
                  cases e526
                  replace p526 := eq_true p526
                  replace q526 := eq_true q526
                  go_wp2_with (first | ((with_reducible refine gate_callee (f := 71) rfl ?_); refine goesL_ (some 69) rfl rfl Tryd.func71 (by kernel_rfl) rfl #[.pointer (some ⟨gb451, 0, none⟩), .string ((rd_T96 t515 x9_4).f1)] rfl ts47_ ?_; (with_reducible refine (cupelref20_reader_take.calls kj38 gb451 x452000_4 x452001_4 x452002_4 x452003_4 x452004_4 x452005_4 x452006_4 x452007_4 ((rd_T96 t515 x9_4).f1) false t528 t529 t530 t531 t532 t533 t534 t535 w _ ?side1 ?side2 A46.out).mono ?_); (case side1 => exact ts42_ HI451.out NB451_450.out NB451_477.out); (case side2 => exact ts31_ HB.out HI451.out GE450.out GE477.out); rintro e w78 ⟨rfl, hi, hb, hk⟩; refine ⟨_, rfl, ?_⟩; have n0_ := Aside0.mk (Kd.R_mono (Kd.R_keep (IsS105.apart (show IsS105 w _ gb451 x452000_4 x452001_4 x452002_4 x452003_4 x452004_4 x452005_4 x452006_4 x452007_4 from by repeat (first | (with_reducible first | exact HI451.out | apply IsS105.alloc | apply IsS105.drewN | apply IsS105.drew | apply IsS105.set_0 | apply IsS105.set_1 | apply IsS105.set_2 | apply IsS105.set_3 | apply IsS105.set_4 | apply IsS105.set_5 | apply IsS105.set_6 | apply IsS105.set_7 | refine IsS105.far ?_ NB451_450.out _ | refine IsS105.far ?_ NB451_477.out _) | exact HI451.out)) (ts53_ HO_7.out) (by decide)) hk (fun _ h => h.2)) (fun _ h => h.1)); have n1_ := Aside0.mk (Kd.R_mono (Kd.R_keep (IsS105.apart (show IsS105 w _ gb451 x452000_4 x452001_4 x452002_4 x452003_4 x452004_4 x452005_4 x452006_4 x452007_4 from by repeat (first | (with_reducible first | exact HI451.out | apply IsS105.alloc | apply IsS105.drewN | apply IsS105.drew | apply IsS105.set_0 | apply IsS105.set_1 | apply IsS105.set_2 | apply IsS105.set_3 | apply IsS105.set_4 | apply IsS105.set_5 | apply IsS105.set_6 | apply IsS105.set_7 | refine IsS105.far ?_ NB451_450.out _ | refine IsS105.far ?_ NB451_477.out _) | exact HI451.out)) (ts53_ HO_478000.out) (by decide)) hk (fun _ h => h.2)) (fun _ h => h.1)); have n2_ := Aside0.mk (Kd.R_mono (Kd.R_keep (IsS105.apart (show IsS105 w _ gb451 x452000_4 x452001_4 x452002_4 x452003_4 x452004_4 x452005_4 x452006_4 x452007_4 from by repeat (first | (with_reducible first | exact HI451.out | apply IsS105.alloc | apply IsS105.drewN | apply IsS105.drew | apply IsS105.set_0 | apply IsS105.set_1 | apply IsS105.set_2 | apply IsS105.set_3 | apply IsS105.set_4 | apply IsS105.set_5 | apply IsS105.set_6 | apply IsS105.set_7 | refine IsS105.far ?_ NB451_450.out _ | refine IsS105.far ?_ NB451_477.out _) | exact HI451.out)) (ts53_ HO_478001.out) (by decide)) hk (fun _ h => h.2)) (fun _ h => h.1)); have n3_ := Aside0.mk (KeepBut.blk hk (g' := gb450) (o := .cells #[.slice none 0 0, .slice none 0 0, .int .i64 0] 25 (0, 0)) (ts29_ BK450.out) NB450_451.out (by simp)); have n4_ := Aside0.mk (KeepBut.blk hk (g' := gb477) (o := .cells #[u478000, u478001, .int .i64 t468] 25 (0, 0)) (ts29_ BK477.out) NB477_451.out (by simp)); have n5_ := Aside0.mk (hb); have n6_ := Aside0.mk (hi); clear HO_7; clear HO_478000; clear HO_478001; clear BK450; clear BK477; clear HB; clear HI451; have HO_7 := n0_; have HO_478000 := n1_; have HO_478001 := n2_; have BK450 := n3_; have BK477 := n4_; have HB := n5_; have HI451 := n6_; clear n0_ n1_ n2_ n3_ n4_ n5_ n6_; (try clear hb); (try clear hb2); (try clear hk); (try clear hi)))
                  go_roundg kj38
                  case measure => have := HK1.out; have := HK2.out; have := HJ33.out; have := HK4.out; have := HJ38.out; omega
                  case rel => exact ⟨(x8_4), (wrap64 (x9_4 + 1)), (t528), (t529), (t530), (t531), (t532), (t533), (t534), (t535), (x478000_4), (u478000), ts36_, ts36_, H', ⟨ts24_ HK1.out HK2.out HJ33.out HK4.out HJ38.out⟩, ⟨ts53_ HO_7.out⟩, ⟨ts53_ HO_478000.out⟩, ⟨ts53_ HO_478001.out⟩, ⟨ts29_ BK450.out⟩, ⟨ts29_ BK477.out⟩, ⟨ts42_ HI451.out NB451_450.out NB451_477.out⟩, ⟨ts31_ HB.out HI451.out GE450.out GE477.out⟩⟩
                ·rw [if_neg c45] at H
                 exact absurd H (by simp)
               ·rw [if_neg c44] at H
                exact absurd H (by simp)
              ·replace c43 := Bool.eq_false_iff.mpr c43
               subst c43
               rw [if_neg Bool.false_ne_true] at H
               by_cases c79 : x8_4 = true
               ·subst c79
                rw [if_pos rfl] at H
                have H' := Aside0.mk H
                clear H
                go_wp2
                go_roundg kj38
                case measure => have := HK1.out; have := HK2.out; have := HJ33.out; have := HK4.out; have := HJ38.out; omega
                case rel => exact ⟨(x452000_4), (x452001_4), (x452002_4), (x452003_4), (x452004_4), (x452005_4), (x452006_4), (x452007_4), (x478000_4), (u478000), H', ⟨ts24_ HK1.out HK2.out HJ33.out HK4.out HJ38.out⟩, ⟨ts53_ HO_7.out⟩, ⟨ts53_ HO_478000.out⟩, ⟨ts53_ HO_478001.out⟩, ⟨ts29_ BK450.out⟩, ⟨ts29_ BK477.out⟩, ⟨ts42_ HI451.out NB451_450.out NB451_477.out⟩, ⟨ts31_ HB.out HI451.out GE450.out GE477.out⟩⟩
               ·replace c79 := Bool.eq_false_iff.mpr c79
                subst c79
                rw [if_neg Bool.false_ne_true] at H
                replace H := Option.bind_eq_some_iff.mp H
                obtain ⟨⟨t518, t519, t520, t521, t522, t523, t524, t525⟩, A800, H⟩ := H
                try dsimp only at H
                have A80 := Aside0.mk A800
                clear A800
                have H' := Aside0.mk H
                clear H
                go_wp2_with (first | ((with_reducible refine gate_callee (f := 74) rfl ?_); refine goesL_ (some 90) rfl rfl Tryd.func74 (by kernel_rfl) rfl #[.pointer (some ⟨gb451, 0, none⟩)] rfl ts47_ ?_; (with_reducible refine (cupelref20_reader_wrong.calls gb451 x452000_4 x452001_4 x452002_4 x452003_4 x452004_4 x452005_4 x452006_4 x452007_4 t518 t519 t520 t521 t522 t523 t524 t525 w _ ?side1 ?side2 A80.out).mono ?_); (case side1 => exact ts42_ HI451.out NB451_450.out NB451_477.out); (case side2 => exact ts31_ HB.out HI451.out GE450.out GE477.out); rintro e w81 ⟨rfl, hi, hb, hk⟩; refine ⟨_, rfl, ?_⟩; have n0_ := Aside0.mk (Kd.R_mono (Kd.R_keep (IsS105.apart (show IsS105 w _ gb451 x452000_4 x452001_4 x452002_4 x452003_4 x452004_4 x452005_4 x452006_4 x452007_4 from by repeat (first | (with_reducible first | exact HI451.out | apply IsS105.alloc | apply IsS105.drewN | apply IsS105.drew | apply IsS105.set_0 | apply IsS105.set_1 | apply IsS105.set_2 | apply IsS105.set_3 | apply IsS105.set_4 | apply IsS105.set_5 | apply IsS105.set_6 | apply IsS105.set_7 | refine IsS105.far ?_ NB451_450.out _ | refine IsS105.far ?_ NB451_477.out _) | exact HI451.out)) (ts53_ HO_7.out) (by decide)) hk (fun _ h => h.2)) (fun _ h => h.1)); have n1_ := Aside0.mk (Kd.R_mono (Kd.R_keep (IsS105.apart (show IsS105 w _ gb451 x452000_4 x452001_4 x452002_4 x452003_4 x452004_4 x452005_4 x452006_4 x452007_4 from by repeat (first | (with_reducible first | exact HI451.out | apply IsS105.alloc | apply IsS105.drewN | apply IsS105.drew | apply IsS105.set_0 | apply IsS105.set_1 | apply IsS105.set_2 | apply IsS105.set_3 | apply IsS105.set_4 | apply IsS105.set_5 | apply IsS105.set_6 | apply IsS105.set_7 | refine IsS105.far ?_ NB451_450.out _ | refine IsS105.far ?_ NB451_477.out _) | exact HI451.out)) (ts53_ HO_478000.out) (by decide)) hk (fun _ h => h.2)) (fun _ h => h.1)); have n2_ := Aside0.mk (Kd.R_mono (Kd.R_keep (IsS105.apart (show IsS105 w _ gb451 x452000_4 x452001_4 x452002_4 x452003_4 x452004_4 x452005_4 x452006_4 x452007_4 from by repeat (first | (with_reducible first | exact HI451.out | apply IsS105.alloc | apply IsS105.drewN | apply IsS105.drew | apply IsS105.set_0 | apply IsS105.set_1 | apply IsS105.set_2 | apply IsS105.set_3 | apply IsS105.set_4 | apply IsS105.set_5 | apply IsS105.set_6 | apply IsS105.set_7 | refine IsS105.far ?_ NB451_450.out _ | refine IsS105.far ?_ NB451_477.out _) | exact HI451.out)) (ts53_ HO_478001.out) (by decide)) hk (fun _ h => h.2)) (fun _ h => h.1)); have n3_ := Aside0.mk (KeepBut.blk hk (g' := gb450) (o := .cells #[.slice none 0 0, .slice none 0 0, .int .i64 0] 25 (0, 0)) (ts29_ BK450.out) NB450_451.out (by simp)); have n4_ := Aside0.mk (KeepBut.blk hk (g' := gb477) (o := .cells #[u478000, u478001, .int .i64 t468] 25 (0, 0)) (ts29_ BK477.out) NB477_451.out (by simp)); have n5_ := Aside0.mk (hb); have n6_ := Aside0.mk (hi); clear HO_7; clear HO_478000; clear HO_478001; clear BK450; clear BK477; clear HB; clear HI451; have HO_7 := n0_; have HO_478000 := n1_; have HO_478001 := n2_; have BK450 := n3_; have BK477 := n4_; have HB := n5_; have HI451 := n6_; clear n0_ n1_ n2_ n3_ n4_ n5_ n6_; (try clear hb); (try clear hb2); (try clear hk); (try clear hi)))
                go_roundg kj38
                case measure => have := HK1.out; have := HK2.out; have := HJ33.out; have := HK4.out; have := HJ38.out; omega
                case rel => exact ⟨(t518), (t519), (t520), (t521), (t522), (t523), (t524), (t525), (x478000_4), (u478000), H', ⟨ts24_ HK1.out HK2.out HJ33.out HK4.out HJ38.out⟩, ⟨ts53_ HO_7.out⟩, ⟨ts53_ HO_478000.out⟩, ⟨ts53_ HO_478001.out⟩, ⟨ts29_ BK450.out⟩, ⟨ts29_ BK477.out⟩, ⟨ts42_ HI451.out NB451_450.out NB451_477.out⟩, ⟨ts31_ HB.out HI451.out GE450.out GE477.out⟩⟩
         ·replace c38 := Bool.eq_false_iff.mpr c38
          subst c38
          rw [if_neg Bool.false_ne_true] at H
          by_cases c82 : x452006_2 = true
          ·subst c82
           rw [if_pos rfl] at H
           simp only [Option.some.injEq, Prod.mk.injEq] at H
           obtain ⟨rfl, rfl, rfl, rfl, rfl⟩ := H
           obtain ⟨HGz83, hgz83⟩ := HI451.out
           have hcz83_0 := cellS105_0 HGz83
           have hcz83_1 := cellS105_1 HGz83
           have hcz83_2 := cellS105_2 HGz83
           have hcz83_3 := cellS105_3 HGz83
           have hcz83_4 := cellS105_4 HGz83
           have hcz83_5 := cellS105_5 HGz83
           have hcz83_6 := cellS105_6 HGz83
           have hcz83_7 := cellS105_7 HGz83
           have hfz83_0 := blk_frozen HGz83 0
           have hfz83_1 := blk_frozen HGz83 1
           have hfz83_2 := blk_frozen HGz83 2
           have hfz83_3 := blk_frozen HGz83 3
           have hfz83_4 := blk_frozen HGz83 4
           have hfz83_5 := blk_frozen HGz83 5
           have hfz83_6 := blk_frozen HGz83 6
           have hfz83_7 := blk_frozen HGz83 7
           clear HGz83 hgz83
           try go_wp2
           have n0_ := Aside0.mk (Kd.R_drew HO_7.out)
           have n1_ := Aside0.mk (Kd.R_drew HO_478000.out)
           have n2_ := Aside0.mk (Kd.R_drew HO_478001.out)
           have n3_ := Aside0.mk (blk_drew BK450.out)
           have n4_ := Aside0.mk (blk_drew BK477.out)
           have n5_ := Aside0.mk (IsS105.drew HI451.out)
           have n6_ := Aside0.mk (below_drew1 HB.out)
           clear HO_7
           clear HO_478000
           clear HO_478001
           clear BK450
           clear BK477
           clear HI451
           clear HB
           have HO_7 := n0_
           have HO_478000 := n1_
           have HO_478001 := n2_
           have BK450 := n3_
           have BK477 := n4_
           have HI451 := n5_
           have HB := n6_
           clear n0_ n1_ n2_ n3_ n4_ n5_ n6_
           refine start_ (n := 8) (S := fun w' => w'.cell? ⟨gb451, 0, none⟩ = some (.string x452000_2) ∧ w'.cell? ⟨gb451, 1, none⟩ = some (.int .i64 x452001_2) ∧ w'.cell? ⟨gb451, 2, none⟩ = some (.int .i64 x452002_2) ∧ w'.cell? ⟨gb451, 3, none⟩ = some (.int .u8 x452003_2) ∧ w'.cell? ⟨gb451, 4, none⟩ = some (.string x452004_2) ∧ w'.cell? ⟨gb451, 5, none⟩ = some (.int .i64 x452005_2) ∧ w'.cell? ⟨gb451, 6, none⟩ = some (.bool true) ∧ w'.cell? ⟨gb451, 7, none⟩ = some (.int .i64 x452007_2)) (ds := []) #[false, false, false, false, false, false, false, false] (by kernel_rfl) rfl rfl ⟨(blk_cell (show IsS105 w _ gb451 x452000_2 x452001_2 x452002_2 x452003_2 x452004_2 x452005_2 true x452007_2 from by repeat (first | (with_reducible first | exact HI451.out | apply IsS105.alloc | apply IsS105.drewN | apply IsS105.drew | apply IsS105.set_0 | apply IsS105.set_1 | apply IsS105.set_2 | apply IsS105.set_3 | apply IsS105.set_4 | apply IsS105.set_5 | apply IsS105.set_6 | apply IsS105.set_7 | refine IsS105.far ?_ NB451_450.out _ | refine IsS105.far ?_ NB451_477.out _) | exact HI451.out)).1 0).trans rfl, (blk_cell (show IsS105 w _ gb451 x452000_2 x452001_2 x452002_2 x452003_2 x452004_2 x452005_2 true x452007_2 from by repeat (first | (with_reducible first | exact HI451.out | apply IsS105.alloc | apply IsS105.drewN | apply IsS105.drew | apply IsS105.set_0 | apply IsS105.set_1 | apply IsS105.set_2 | apply IsS105.set_3 | apply IsS105.set_4 | apply IsS105.set_5 | apply IsS105.set_6 | apply IsS105.set_7 | refine IsS105.far ?_ NB451_450.out _ | refine IsS105.far ?_ NB451_477.out _) | exact HI451.out)).1 1).trans rfl, (blk_cell (show IsS105 w _ gb451 x452000_2 x452001_2 x452002_2 x452003_2 x452004_2 x452005_2 true x452007_2 from by repeat (first | (with_reducible first | exact HI451.out | apply IsS105.alloc | apply IsS105.drewN | apply IsS105.drew | apply IsS105.set_0 | apply IsS105.set_1 | apply IsS105.set_2 | apply IsS105.set_3 | apply IsS105.set_4 | apply IsS105.set_5 | apply IsS105.set_6 | apply IsS105.set_7 | refine IsS105.far ?_ NB451_450.out _ | refine IsS105.far ?_ NB451_477.out _) | exact HI451.out)).1 2).trans rfl, (blk_cell (show IsS105 w _ gb451 x452000_2 x452001_2 x452002_2 x452003_2 x452004_2 x452005_2 true x452007_2 from by repeat (first | (with_reducible first | exact HI451.out | apply IsS105.alloc | apply IsS105.drewN | apply IsS105.drew | apply IsS105.set_0 | apply IsS105.set_1 | apply IsS105.set_2 | apply IsS105.set_3 | apply IsS105.set_4 | apply IsS105.set_5 | apply IsS105.set_6 | apply IsS105.set_7 | refine IsS105.far ?_ NB451_450.out _ | refine IsS105.far ?_ NB451_477.out _) | exact HI451.out)).1 3).trans rfl, (blk_cell (show IsS105 w _ gb451 x452000_2 x452001_2 x452002_2 x452003_2 x452004_2 x452005_2 true x452007_2 from by repeat (first | (with_reducible first | exact HI451.out | apply IsS105.alloc | apply IsS105.drewN | apply IsS105.drew | apply IsS105.set_0 | apply IsS105.set_1 | apply IsS105.set_2 | apply IsS105.set_3 | apply IsS105.set_4 | apply IsS105.set_5 | apply IsS105.set_6 | apply IsS105.set_7 | refine IsS105.far ?_ NB451_450.out _ | refine IsS105.far ?_ NB451_477.out _) | exact HI451.out)).1 4).trans rfl, (blk_cell (show IsS105 w _ gb451 x452000_2 x452001_2 x452002_2 x452003_2 x452004_2 x452005_2 true x452007_2 from by repeat (first | (with_reducible first | exact HI451.out | apply IsS105.alloc | apply IsS105.drewN | apply IsS105.drew | apply IsS105.set_0 | apply IsS105.set_1 | apply IsS105.set_2 | apply IsS105.set_3 | apply IsS105.set_4 | apply IsS105.set_5 | apply IsS105.set_6 | apply IsS105.set_7 | refine IsS105.far ?_ NB451_450.out _ | refine IsS105.far ?_ NB451_477.out _) | exact HI451.out)).1 5).trans rfl, (blk_cell (show IsS105 w _ gb451 x452000_2 x452001_2 x452002_2 x452003_2 x452004_2 x452005_2 true x452007_2 from by repeat (first | (with_reducible first | exact HI451.out | apply IsS105.alloc | apply IsS105.drewN | apply IsS105.drew | apply IsS105.set_0 | apply IsS105.set_1 | apply IsS105.set_2 | apply IsS105.set_3 | apply IsS105.set_4 | apply IsS105.set_5 | apply IsS105.set_6 | apply IsS105.set_7 | refine IsS105.far ?_ NB451_450.out _ | refine IsS105.far ?_ NB451_477.out _) | exact HI451.out)).1 6).trans rfl, (blk_cell (show IsS105 w _ gb451 x452000_2 x452001_2 x452002_2 x452003_2 x452004_2 x452005_2 true x452007_2 from by repeat (first | (with_reducible first | exact HI451.out | apply IsS105.alloc | apply IsS105.drewN | apply IsS105.drew | apply IsS105.set_0 | apply IsS105.set_1 | apply IsS105.set_2 | apply IsS105.set_3 | apply IsS105.set_4 | apply IsS105.set_5 | apply IsS105.set_6 | apply IsS105.set_7 | refine IsS105.far ?_ NB451_450.out _ | refine IsS105.far ?_ NB451_477.out _) | exact HI451.out)).1 7).trans rfl⟩ (fun hHeld => ?_); refine with_tabW cupelref20_Parse.tab25 cupelref20_Parse.bits25 (fun HT_ HW_ => ?_)
           generalize wc.drew = w84 at HO_7 HO_478000 HO_478001 BK450 BK477 HI451 HB hHeld ⊢
           refine pure_ (i := 0) (N := some 95) (v := ?_) (a' := ?_) #[true, false, false, false, false, false, false, false] rfl rfl (any_of HT_.out (by kernel_rfl)) (fun _ _ _ h => h) (Or.inl ⟨by rfl, ?_⟩) ?_ ?_
           rotate_left
           ·intro w'
            go_simp
            with_reducible rfl
           rotate_left
           ·simp only [Act.put, List.setIfInBounds_toArray, List.set_cons_zero, List.set_cons_succ, i64_w, i32_w]
            rfl
           refine pure_ (i := 1) (N := some 96) (v := ?_) (a' := ?_) #[true, true, false, false, false, false, false, false] rfl rfl (any_of HT_.out (by kernel_rfl)) (fun _ _ _ h => h) (Or.inl ⟨by rfl, ?_⟩) ?_ ?_
           rotate_left
           ·intro w'
            go_simp
            with_reducible rfl
           rotate_left
           ·simp only [Act.put, List.setIfInBounds_toArray, List.set_cons_zero, List.set_cons_succ, i64_w, i32_w]
            rfl
           refine pure_ (i := 2) (N := some 97) (v := ?_) (a' := ?_) #[true, true, true, false, false, false, false, false] rfl rfl (any_of HT_.out (by kernel_rfl)) (fun _ _ _ h => h) (Or.inl ⟨by rfl, ?_⟩) ?_ ?_
           rotate_left
           ·intro w'
            go_simp
            with_reducible rfl
           rotate_left
           ·simp only [Act.put, List.setIfInBounds_toArray, List.set_cons_zero, List.set_cons_succ, i64_w, i32_w]
            rfl
           refine pure_ (i := 3) (N := some 98) (v := ?_) (a' := ?_) #[true, true, true, true, false, false, false, false] rfl rfl (any_of HT_.out (by kernel_rfl)) (fun _ _ _ h => h) (Or.inl ⟨by rfl, ?_⟩) ?_ ?_
           rotate_left
           ·intro w'
            go_simp
            with_reducible rfl
           rotate_left
           ·simp only [Act.put, List.setIfInBounds_toArray, List.set_cons_zero, List.set_cons_succ, i64_w, i32_w]
            rfl
           refine take_ (i := 4) (N := some 99) (v := ?_) (a' := ?_) #[true, true, true, true, true, false, false, false] rfl rfl (take_ofW HT_.out HW_.out (by kernel_rfl)) (fun _ _ _ h => h) (Or.inl ⟨by rfl, ?_⟩) hHeld ?_ ?_
           rotate_left
           ·rintro w' ⟨s0, s1, s2, s3, s4, s5, s6, s7⟩
            go_simp
            with_reducible rfl
           rotate_left
           ·simp only [Act.put, List.setIfInBounds_toArray, List.set_cons_zero, List.set_cons_succ, i64_w, i32_w]
            rfl
           refine one_ (i := 5) (N := none) #[true, true, true, true, true, true, false, false] rfl rfl (one_of HT_.out (by kernel_rfl)) (by decide) (fun K hK => ?_)
           have hs85 : w84.cell? ⟨gb450, 0, none⟩ = some (.slice none 0 0) := (blk_cell BK450.out 0).trans rfl
           have hfs85 := blk_frozen BK450.out 0
           have hns85_1 := NB477_450.out
           have hms85_1 := NB450_477.out
           have hs86 : w84.cell? ⟨gb450, 1, none⟩ = some (.slice none 0 0) := (blk_cell BK450.out 1).trans rfl
           have hfs86 := blk_frozen BK450.out 1
           have hns86_1 := NB477_450.out
           have hms86_1 := NB450_477.out
           have hs87 : w84.cell? ⟨gb450, 2, none⟩ = some (.int .i64 0) := (blk_cell BK450.out 2).trans rfl
           have hfs87 := blk_frozen BK450.out 2
           have hns87_1 := NB477_450.out
           have hms87_1 := NB450_477.out
           refine skip_ (w1 := ?_) (by rfl) rfl ?_ ?_
           rotate_left
           ·go_simp
            rfl
           refine hK.out _ _ ⟨((cell_far (p := ⟨gb450, _, none⟩) NB451_450.out _).trans (((cell_far (p := ⟨gb450, _, none⟩) NB451_450.out _).trans (((cell_far (p := ⟨gb450, _, none⟩) NB451_450.out _).trans (hHeld.1)))))), ((cell_far (p := ⟨gb450, _, none⟩) NB451_450.out _).trans (((cell_far (p := ⟨gb450, _, none⟩) NB451_450.out _).trans (((cell_far (p := ⟨gb450, _, none⟩) NB451_450.out _).trans (hHeld.2.1)))))), ((cell_far (p := ⟨gb450, _, none⟩) NB451_450.out _).trans (((cell_far (p := ⟨gb450, _, none⟩) NB451_450.out _).trans (((cell_far (p := ⟨gb450, _, none⟩) NB451_450.out _).trans (hHeld.2.2.1)))))), ((cell_far (p := ⟨gb450, _, none⟩) NB451_450.out _).trans (((cell_far (p := ⟨gb450, _, none⟩) NB451_450.out _).trans (((cell_far (p := ⟨gb450, _, none⟩) NB451_450.out _).trans (hHeld.2.2.2.1)))))), ((cell_far (p := ⟨gb450, _, none⟩) NB451_450.out _).trans (((cell_far (p := ⟨gb450, _, none⟩) NB451_450.out _).trans (((cell_far (p := ⟨gb450, _, none⟩) NB451_450.out _).trans (hHeld.2.2.2.2.1)))))), ((cell_far (p := ⟨gb450, _, none⟩) NB451_450.out _).trans (((cell_far (p := ⟨gb450, _, none⟩) NB451_450.out _).trans (((cell_far (p := ⟨gb450, _, none⟩) NB451_450.out _).trans (hHeld.2.2.2.2.2.1)))))), ((cell_far (p := ⟨gb450, _, none⟩) NB451_450.out _).trans (((cell_far (p := ⟨gb450, _, none⟩) NB451_450.out _).trans (((cell_far (p := ⟨gb450, _, none⟩) NB451_450.out _).trans (hHeld.2.2.2.2.2.2.1)))))), ((cell_far (p := ⟨gb450, _, none⟩) NB451_450.out _).trans (((cell_far (p := ⟨gb450, _, none⟩) NB451_450.out _).trans (((cell_far (p := ⟨gb450, _, none⟩) NB451_450.out _).trans (hHeld.2.2.2.2.2.2.2))))))⟩ (fun hHeld => ?_)
           clear hK K
           refine pure_ (i := 6) (N := some 3) (v := ?_) (a' := ?_) #[true, true, true, true, true, true, true, false] rfl rfl (any_of HT_.out (by kernel_rfl)) (fun _ _ _ h => h) (Or.inl ⟨by rfl, ?_⟩) ?_ ?_
           rotate_left
           ·intro w'
            go_simp
            with_reducible rfl
           rotate_left
           ·simp only [Act.put, List.setIfInBounds_toArray, List.set_cons_zero, List.set_cons_succ, i64_w, i32_w]
            rfl
           refine pure_ (i := 7) (N := some 4) (v := ?_) (a' := ?_) #[true, true, true, true, true, true, true, true] rfl rfl (any_of HT_.out (by kernel_rfl)) (fun _ _ _ h => h) (Or.inl ⟨by rfl, ?_⟩) ?_ ?_
           rotate_left
           ·intro w'
            go_simp
            with_reducible rfl
           rotate_left
           ·simp only [Act.put, List.setIfInBounds_toArray, List.set_cons_zero, List.set_cons_succ, i64_w, i32_w]
            rfl
           refine done_ (done_of HT_.out (by kernel_rfl)) ?_
           try go_wp2
           refine bodyPost_ret (results_ctt rfl _ _ gb450 25 #[.slice none 0 0, .slice none 0 0, .int .i64 0] (0, 0) _ rfl (ts3_ BK450.out) Tryd.underlying25 rfl (by kernel_rfl)) rfl ?_
           exact ⟨_, _, ts9_, ts19_, ts19_, ts31_ HB.out HI451.out GE450.out GE477.out⟩
          ·replace c82 := Bool.eq_false_iff.mpr c82
           subst c82
           rw [if_neg Bool.false_ne_true] at H
           replace H := Option.bind_eq_some_iff.mp H
           obtain ⟨t557, A880, H⟩ := H
           try dsimp only at H
           have A88 := Aside0.mk A880
           clear A880
           by_cases c89 : t557 = 0
           ·rw [if_pos c89] at H
            have c89b0 : (t557 == 0) = true := beq_iff_eq.mpr c89
            have c89b1 : (t557 != 0) = false := bne_eq_false_iff_eq.mpr c89
            clear c89
            simp only [Option.some.injEq, Prod.mk.injEq] at H
            obtain ⟨rfl, rfl, rfl, rfl, rfl⟩ := H
            obtain ⟨HGz90, hgz90⟩ := HI451.out
            have hcz90_0 := cellS105_0 HGz90
            have hcz90_1 := cellS105_1 HGz90
            have hcz90_2 := cellS105_2 HGz90
            have hcz90_3 := cellS105_3 HGz90
            have hcz90_4 := cellS105_4 HGz90
            have hcz90_5 := cellS105_5 HGz90
            have hcz90_6 := cellS105_6 HGz90
            have hcz90_7 := cellS105_7 HGz90
            have hfz90_0 := blk_frozen HGz90 0
            have hfz90_1 := blk_frozen HGz90 1
            have hfz90_2 := blk_frozen HGz90 2
            have hfz90_3 := blk_frozen HGz90 3
            have hfz90_4 := blk_frozen HGz90 4
            have hfz90_5 := blk_frozen HGz90 5
            have hfz90_6 := blk_frozen HGz90 6
            have hfz90_7 := blk_frozen HGz90 7
            clear HGz90 hgz90
            have hnb91 := NB477_450.out
            have hnc91 := NB450_477.out
            have hnb92 := NB477_451.out
            have hnc92 := NB451_477.out
            have hcz93_0 : wc.cell? ⟨gb477, 0, none⟩ = some (u478000) := (blk_cell BK477.out 0).trans rfl
            have hcz93_1 : wc.cell? ⟨gb477, 1, none⟩ = some (u478001) := (blk_cell BK477.out 1).trans rfl
            have hcz93_2 : wc.cell? ⟨gb477, 2, none⟩ = some (.int .i64 t468) := (blk_cell BK477.out 2).trans rfl
            have hfz93_0 := blk_frozen BK477.out 0
            have hfz93_1 := blk_frozen BK477.out 1
            have hfz93_2 := blk_frozen BK477.out 2
            obtain ⟨Ao94, co94, eo94⟩ := Kd.R_slice HO_478000.out
            subst eo94
            obtain ⟨Ao95, co95, eo95⟩ := Kd.R_slice HO_478001.out
            subst eo95
            go_wp2_with (first | ((with_reducible refine gate_callee (f := 28) rfl ?_); refine goesL_ (some 101) rfl rfl Tryd.func28 (by kernel_rfl) rfl #[.agg #[.slice Ao94 x478000_2.length co94, .slice Ao95 x478001_1.length co95, .int .i64 t468]] rfl ts47_ ?_; (with_reducible refine (cupelref20_Check.calls kj33 _ _ x478000_2 _ _ x478001_1 t468 t557 _ ?side1 ?side2 ?side3 ?side4 A88.out).mono ?_); (case side1 => exact ts52_ HO_478000.out); (case side2 => exact (Kd.R_reads' HO_478000.out).2.1); (case side3 => exact ts52_ HO_478001.out); (case side4 => exact (Kd.R_reads' HO_478001.out).2.1); rintro e w96 ⟨rfl, hb⟩; refine ⟨_, rfl, ?_⟩; have n0_ := Aside0.mk (Kd.R_below (ts53_ HO_7.out) hb); have n1_ := Aside0.mk (Kd.R_below (ts53_ HO_478000.out) hb); have n2_ := Aside0.mk (Kd.R_below (ts53_ HO_478001.out) hb); have n3_ := Aside0.mk (blk_below (g := gb450) (o := .cells #[.slice none 0 0, .slice none 0 0, .int .i64 0] 25 (0, 0)) (ts29_ BK450.out) hb); have n4_ := Aside0.mk (blk_below (g := gb477) (o := .cells #[.slice Ao94 x478000_2.length co94, .slice Ao95 x478001_1.length co95, .int .i64 t468] 25 (0, 0)) (ts29_ BK477.out) hb); have n5_ := Aside0.mk (IsS105.below (ts42_ HI451.out NB451_450.out NB451_477.out) hb); have n6_ := Aside0.mk (below_step (ts31_ HB.out HI451.out GE450.out GE477.out) hb); clear HO_7; clear HO_478000; clear HO_478001; clear BK450; clear BK477; clear HI451; clear HB; have HO_7 := n0_; have HO_478000 := n1_; have HO_478001 := n2_; have BK450 := n3_; have BK477 := n4_; have HI451 := n5_; have HB := n6_; clear n0_ n1_ n2_ n3_ n4_ n5_ n6_; (try clear hb); (try clear hb2); (try clear hk); (try clear hi); have hcz97_0 : w96.cell? ⟨gb477, 0, none⟩ = some (.slice Ao94 x478000_2.length co94) := (blk_cell BK477.out 0).trans rfl; have hcz97_1 : w96.cell? ⟨gb477, 1, none⟩ = some (.slice Ao95 x478001_1.length co95) := (blk_cell BK477.out 1).trans rfl; have hcz97_2 : w96.cell? ⟨gb477, 2, none⟩ = some (.int .i64 t468) := (blk_cell BK477.out 2).trans rfl; have hfz97_0 := blk_frozen BK477.out 0; have hfz97_1 := blk_frozen BK477.out 1; have hfz97_2 := blk_frozen BK477.out 2; have hnb98 := NB450_451.out; have hnc98 := NB451_450.out; have hcz99_0 : w96.cell? ⟨gb450, 0, none⟩ = some (.slice none 0 0) := (blk_cell BK450.out 0).trans rfl; have hcz99_1 : w96.cell? ⟨gb450, 1, none⟩ = some (.slice none 0 0) := (blk_cell BK450.out 1).trans rfl; have hcz99_2 : w96.cell? ⟨gb450, 2, none⟩ = some (.int .i64 0) := (blk_cell BK450.out 2).trans rfl; have hfz99_0 := blk_frozen BK450.out 0; have hfz99_1 := blk_frozen BK450.out 1; have hfz99_2 := blk_frozen BK450.out 2))
            refine bodyPost_ret (results_ctt rfl _ _ gb450 25 #[.slice Ao94 x478000_2.length co94, .slice Ao95 x478001_1.length co95, .int .i64 t468] (0, 0) _ rfl (by (with_reducible repeat (first | refine blk_drewN ?_ _ | refine blk_drew ?_ | refine blk_alloc ?_ _)); refine blk_put (cs := #[.slice Ao94 x478000_2.length co94, .slice Ao95 x478001_1.length co95, .int .i64 0]) ?_ 2 _ rfl; (with_reducible repeat (first | refine blk_drewN ?_ _ | refine blk_drew ?_ | refine blk_alloc ?_ _)); refine blk_put (cs := #[.slice Ao94 x478000_2.length co94, .slice none 0 0, .int .i64 0]) ?_ 1 _ rfl; (with_reducible repeat (first | refine blk_drewN ?_ _ | refine blk_drew ?_ | refine blk_alloc ?_ _)); refine blk_put (cs := #[.slice none 0 0, .slice none 0 0, .int .i64 0]) ?_ 0 _ rfl; (with_reducible repeat (first | refine blk_drewN ?_ _ | refine blk_drew ?_ | refine blk_alloc ?_ _)); exact BK450.out) Tryd.underlying25 rfl (by kernel_rfl)) rfl ?_
            exact ⟨_, _, ts9_, ts46_ HO_478000.out BK450.out, ts46_ HO_478001.out BK450.out, ts31_ HB.out HI451.out GE450.out GE477.out⟩
           ·rw [if_neg c89] at H
            have c89b0 : (t557 == 0) = false := beq_eq_false_iff_ne.mpr c89
            have c89b1 : (t557 != 0) = true := bne_iff_ne.mpr c89
            simp only [Option.some.injEq, Prod.mk.injEq] at H
            obtain ⟨rfl, rfl, rfl, rfl, rfl⟩ := H
            obtain ⟨HGz100, hgz100⟩ := HI451.out
            have hcz100_0 := cellS105_0 HGz100
            have hcz100_1 := cellS105_1 HGz100
            have hcz100_2 := cellS105_2 HGz100
            have hcz100_3 := cellS105_3 HGz100
            have hcz100_4 := cellS105_4 HGz100
            have hcz100_5 := cellS105_5 HGz100
            have hcz100_6 := cellS105_6 HGz100
            have hcz100_7 := cellS105_7 HGz100
            have hfz100_0 := blk_frozen HGz100 0
            have hfz100_1 := blk_frozen HGz100 1
            have hfz100_2 := blk_frozen HGz100 2
            have hfz100_3 := blk_frozen HGz100 3
            have hfz100_4 := blk_frozen HGz100 4
            have hfz100_5 := blk_frozen HGz100 5
            have hfz100_6 := blk_frozen HGz100 6
            have hfz100_7 := blk_frozen HGz100 7
            clear HGz100 hgz100
            have hnb101 := NB477_450.out
            have hnc101 := NB450_477.out
            have hnb102 := NB477_451.out
            have hnc102 := NB451_477.out
            have hcz103_0 : wc.cell? ⟨gb477, 0, none⟩ = some (u478000) := (blk_cell BK477.out 0).trans rfl
            have hcz103_1 : wc.cell? ⟨gb477, 1, none⟩ = some (u478001) := (blk_cell BK477.out 1).trans rfl
            have hcz103_2 : wc.cell? ⟨gb477, 2, none⟩ = some (.int .i64 t468) := (blk_cell BK477.out 2).trans rfl
            have hfz103_0 := blk_frozen BK477.out 0
            have hfz103_1 := blk_frozen BK477.out 1
            have hfz103_2 := blk_frozen BK477.out 2
            obtain ⟨Ao104, co104, eo104⟩ := Kd.R_slice HO_478000.out
            subst eo104
            obtain ⟨Ao105, co105, eo105⟩ := Kd.R_slice HO_478001.out
            subst eo105
            go_wp2_with (first | ((with_reducible refine gate_callee (f := 28) rfl ?_); refine goesL_ (some 101) rfl rfl Tryd.func28 (by kernel_rfl) rfl #[.agg #[.slice Ao104 x478000_2.length co104, .slice Ao105 x478001_1.length co105, .int .i64 t468]] rfl ts47_ ?_; (with_reducible refine (cupelref20_Check.calls kj33 _ _ x478000_2 _ _ x478001_1 t468 t557 _ ?side1 ?side2 ?side3 ?side4 A88.out).mono ?_); (case side1 => exact ts52_ HO_478000.out); (case side2 => exact (Kd.R_reads' HO_478000.out).2.1); (case side3 => exact ts52_ HO_478001.out); (case side4 => exact (Kd.R_reads' HO_478001.out).2.1); rintro e w106 ⟨rfl, hb⟩; refine ⟨_, rfl, ?_⟩; have n0_ := Aside0.mk (Kd.R_below (ts53_ HO_7.out) hb); have n1_ := Aside0.mk (Kd.R_below (ts53_ HO_478000.out) hb); have n2_ := Aside0.mk (Kd.R_below (ts53_ HO_478001.out) hb); have n3_ := Aside0.mk (blk_below (g := gb450) (o := .cells #[.slice none 0 0, .slice none 0 0, .int .i64 0] 25 (0, 0)) (ts29_ BK450.out) hb); have n4_ := Aside0.mk (blk_below (g := gb477) (o := .cells #[.slice Ao104 x478000_2.length co104, .slice Ao105 x478001_1.length co105, .int .i64 t468] 25 (0, 0)) (ts29_ BK477.out) hb); have n5_ := Aside0.mk (IsS105.below (ts42_ HI451.out NB451_450.out NB451_477.out) hb); have n6_ := Aside0.mk (below_step (ts31_ HB.out HI451.out GE450.out GE477.out) hb); clear HO_7; clear HO_478000; clear HO_478001; clear BK450; clear BK477; clear HI451; clear HB; have HO_7 := n0_; have HO_478000 := n1_; have HO_478001 := n2_; have BK450 := n3_; have BK477 := n4_; have HI451 := n5_; have HB := n6_; clear n0_ n1_ n2_ n3_ n4_ n5_ n6_; (try clear hb); (try clear hb2); (try clear hk); (try clear hi); have hnb107 := NB450_451.out; have hnc107 := NB451_450.out; have hcz108_0 : w106.cell? ⟨gb450, 0, none⟩ = some (.slice none 0 0) := (blk_cell BK450.out 0).trans rfl; have hcz108_1 : w106.cell? ⟨gb450, 1, none⟩ = some (.slice none 0 0) := (blk_cell BK450.out 1).trans rfl; have hcz108_2 : w106.cell? ⟨gb450, 2, none⟩ = some (.int .i64 0) := (blk_cell BK450.out 2).trans rfl; have hfz108_0 := blk_frozen BK450.out 0; have hfz108_1 := blk_frozen BK450.out 1; have hfz108_2 := blk_frozen BK450.out 2))
            refine bodyPost_ret (results_ctt rfl _ _ gb450 25 #[.slice none 0 0, .slice none 0 0, .int .i64 0] (0, 0) _ rfl (ts3_ BK450.out) Tryd.underlying25 rfl (by kernel_rfl)) rfl ?_
            exact ⟨_, _, ts9_, ts19_, ts19_, ts31_ HB.out HI451.out GE450.out GE477.out⟩
end Go.Proofs.YtekhnkpjeofdpaaDoor.A

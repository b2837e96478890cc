/- Written by wip/tools/xprint.py, a program of this session that drives the kit's printer. Not trusted: Lean checks it. -/
import Derived.Test.YtlaijeeeblcinaaDoorDx0
import Derived.Test.YtlaijeeeblcinaaDoorAx12
import Derived.Test.YtlaijeeeblcinaaDoorBx3
import Derived.Test.YtlaijeeeblcinaaDoorEv2
import Derived.Test.YtlaijeeeblcinaaDoorPr3
set_option linter.all false
set_option maxHeartbeats 8000000
set_option maxRecDepth 100000
namespace Go.Proofs.YtlaijeeeblcinaaDoor.A
open Go.RowKit Go.Proofs.YtlaijeeeblcinaaDoorW.PrintWords Go.Proofs.YtlaijeeeblcinaaDoorW.PrintLast Go.Proofs.YtlaijeeeblcinaaDoorW.PrintMore
attribute [local go_sem] max2_int min2_int max_two min_two max_three min_three max_four min_four   -- for this text's walks alone
set_option linter.unusedVariables false
set_option linter.unusedSimpArgs false
/-! ### cupellaw20_TargetCanon: function 8 -/
def cupellaw20_TargetCanon.f (k : Nat) (a0 : ByteArray) : Option (Bool) := if (a0.size : Int) > 5000 then ((cupellaw20_awake.f k).bind fun t162 => (some t162)) else ((et_Parse.f k a0).bind fun bt163 => (if bt163.2.2.2.2 = 0 then ((target_Print.f k bt163.1 bt163.2.1 bt163.2.2.1).bind fun bt174 => ((et_Parse.f k bt174.1).bind fun bt176 => ((target_Print.f k bt176.1 bt176.2.1 bt176.2.2.1).bind fun bt186 => (if bt163.2.2.2.1 = 0 then ((et_Check.f k bt163.1 bt163.2.1 bt163.2.2.1).bind fun t188 => (if t188 = 0 then (if bt174.2 = 0 then (if bt176.2.2.2.2 = 0 then (if bt186.2 = 0 then ((cupelref20_Same.f k bt163.1 bt163.2.1 bt163.2.2.1 bt176.1 bt176.2.1 bt176.2.2.1).bind fun t189 => (if t189 = true then (if bt174.1.toList = bt186.1.toList then ((cupellaw20_awake.f k).bind fun t190 => (some t190)) else (none)) else (none))) else (none)) else (none)) else (none)) else (none))) else (none))))) else (if bt163.2.2.2.1 ≥ 0 then (if bt163.2.2.2.1 ≤ (a0.size : Int) then (if (bt163.1.length : Int) = 0 then ((cupellaw20_awake.f k).bind fun t173 => (some t173)) else (none)) else (none)) else (none))))
theorem cupellaw20_TargetCanon.calls (k : Nat) (a0 : ByteArray) (r : Bool) (w : World) (h : cupellaw20_TargetCanon.f k a0 = some r) (hE_ : Env w := by exact Env.below HEnv_.out (by repeat (first | (with_reducible first | exact HB.out | apply below_alloc | apply pw_below_drewN | apply below_drew1 | refine below_set ?_ (Aside0.out (by assumption))) | exact HB.out)) HEnv_.out.big) :
  Calls Tryd.prog 8 #[.string a0] w fun e w' => e = .returned (.bool r) ∧ Below w.heap.size w w' := by
 have HEnv_ := Aside0.mk hE_
 clear hE_
 have hu35 := Tryd.underlying35
 have HB := Aside0.mk (Below.refl w.heap.size w)
 have H : (if (a0.size : Int) > 5000 then ((cupellaw20_awake.f k).bind fun t162 => (some t162)) else ((et_Parse.f k a0).bind fun bt163 => (if bt163.2.2.2.2 = 0 then ((target_Print.f k bt163.1 bt163.2.1 bt163.2.2.1).bind fun bt174 => ((et_Parse.f k bt174.1).bind fun bt176 => ((target_Print.f k bt176.1 bt176.2.1 bt176.2.2.1).bind fun bt186 => (if bt163.2.2.2.1 = 0 then ((et_Check.f k bt163.1 bt163.2.1 bt163.2.2.1).bind fun t188 => (if t188 = 0 then (if bt174.2 = 0 then (if bt176.2.2.2.2 = 0 then (if bt186.2 = 0 then ((cupelref20_Same.f k bt163.1 bt163.2.1 bt163.2.2.1 bt176.1 bt176.2.1 bt176.2.2.1).bind fun t189 => (if t189 = true then (if bt174.1.toList = bt186.1.toList then ((cupellaw20_awake.f k).bind fun t190 => (some t190)) else (none)) else (none))) else (none)) else (none)) else (none)) else (none))) else (none))))) else (if bt163.2.2.2.1 ≥ 0 then (if bt163.2.2.2.1 ≤ (a0.size : Int) then (if (bt163.1.length : Int) = 0 then ((cupellaw20_awake.f k).bind fun t173 => (some t173)) else (none)) else (none)) else (none))))) = some r := h
 clear h
 by_cases c2 : (a0.size : Int) > 5000
 ·rw [if_pos c2] at H
  have c2b0 : decide (5000 < (a0.size : Int)) = true := decide_eq_true c2
  have c2b1 : decide (5000 < a0.size) = true := decide_eq_true (by omega)
  clear c2
  obtain ⟨t162, A3, H⟩ := bsA_ H
  try dsimp only at H
  obtain rfl := Option.some.inj H
  go_enter Tryd.func8, Tryd.ntmps8
  go_wp2_with (first | ((with_reducible refine gate_callee (f := 9) rfl ?_); refine goesL_ (some 16) rfl rfl Tryd.func9 (by kernel_rfl) rfl #[] rfl ts5_ ?_; (with_reducible refine (cupellaw20_awake.calls k  t162 _ A3.out).mono ?_); rintro e w4 ⟨rfl, hb⟩; refine ⟨_, rfl, ?_⟩; replace HB := Aside0.mk (below_step (ts30_ HB.out) hb); clear hb))
  go_ret
  exact ⟨ts21_, ts30_ HB.out⟩
 rw [if_neg c2] at H
 have c2b0 : decide (5000 < (a0.size : Int)) = false := decide_eq_false c2
 have c2b1 : decide (5000 < a0.size) = false := decide_eq_false (by omega)
 clear c2
 obtain ⟨⟨t163, t166, t169, t170, t171⟩, A5, H⟩ := bsA_ H
 try dsimp only at H
 by_cases c6 : t171 = 0
 ·rw [if_pos c6] at H
  have c6b0 : (t171 == 0) = true := beq_iff_eq.mpr c6
  have c6b1 : (t171 != 0) = false := bne_eq_false_iff_eq.mpr c6
  clear c6
  obtain ⟨⟨t174, t175⟩, A7, H⟩ := bsA_ H
  try dsimp only at H
  obtain ⟨⟨t176, t179, t182, t183, t184⟩, A8, H⟩ := bsA_ H
  try dsimp only at H
  obtain ⟨⟨t186, t187⟩, A9, H⟩ := bsA_ H
  try dsimp only at H
  by_cases c10 : t170 = 0
  ·rw [if_pos c10] at H
   have c10b0 : (t170 == 0) = true := beq_iff_eq.mpr c10
   have c10b1 : (t170 != 0) = false := bne_eq_false_iff_eq.mpr c10
   clear c10
   obtain ⟨t188, A11, H⟩ := bsA_ H
   try dsimp only at H
   by_cases c12 : t188 = 0
   ·rw [if_pos c12] at H
    have c12b0 : (t188 == 0) = true := beq_iff_eq.mpr c12
    have c12b1 : (t188 != 0) = false := bne_eq_false_iff_eq.mpr c12
    clear c12
    by_cases c13 : t175 = 0
    ·rw [if_pos c13] at H
     have c13b0 : (t175 == 0) = true := beq_iff_eq.mpr c13
     have c13b1 : (t175 != 0) = false := bne_eq_false_iff_eq.mpr c13
     clear c13
     by_cases c14 : t184 = 0
     ·rw [if_pos c14] at H
      have c14b0 : (t184 == 0) = true := beq_iff_eq.mpr c14
      have c14b1 : (t184 != 0) = false := bne_eq_false_iff_eq.mpr c14
      clear c14
      by_cases c15 : t187 = 0
      ·rw [if_pos c15] at H
       have c15b0 : (t187 == 0) = true := beq_iff_eq.mpr c15
       have c15b1 : (t187 != 0) = false := bne_eq_false_iff_eq.mpr c15
       clear c15
       obtain ⟨t189, A16, H⟩ := bsA_ H
       try dsimp only at H
       by_cases c17 : t189 = true
       ·subst c17
        rw [if_pos rfl] at H
        by_cases c18 : t174.toList = t186.toList
        ·rw [if_pos c18] at H
         have c18b0 : (t174.toList == t186.toList) = true := beq_iff_eq.mpr c18
         have c18b1 : (t174.toList != t186.toList) = false := bne_eq_false_iff_eq.mpr c18
         clear c18
         obtain ⟨t190, A19, H⟩ := bsA_ H
         try dsimp only at H
         obtain rfl := Option.some.inj H
         go_enter Tryd.func8, Tryd.ntmps8
         go_wp2_with (first | ((with_reducible refine gate_callee (f := 19) rfl ?_); refine goesL_ (some 19) rfl rfl Tryd.func19 (by kernel_rfl) rfl #[.string a0] rfl ts5_ ?_; (with_reducible refine (et_Parse.calls k a0 t163 t166 t169 t170 t171 _ A5.out).mono ?_); rintro e w20 ⟨v164, v167, rfl, ho0, ho1, hb⟩; refine ⟨_, rfl, ?_⟩; have HO165 := Aside0.mk (Kd.R_lower ho0 (below_size (ts30_ HB.out))); have HO168 := Aside0.mk (Kd.R_lower ho1 (below_size (ts30_ HB.out))); replace HB := Aside0.mk (below_step (ts30_ HB.out) hb); clear hb; (try clear ho0); (try clear ho1)) | ((with_reducible refine gate_dst (N := 3) rfl ?_); (try (refine gate_guard (by rfl) ?_; dsimp only)); refine box_event ?hg (N := 3) ?hd (cs := #[.slice none 0 0, .slice none 0 0, .int .i64 0]) (t := 35) ?hr ?_; (case hd => rfl); (case hg => rfl); (case hr => exact ts11_); intro gb172 hg w21 hbox hb; replace HO165 := Aside0.mk (Kd.R_below (ts16_ HO165.out) hb); replace HO168 := Aside0.mk (Kd.R_below (ts16_ HO168.out) hb); have BK172 := Aside0.mk (hbox); have GW172 := Aside0.mk ((ts43_ HB.out : w.heap.size ≤ gb172)); have GE172 := Aside0.mk ((ts43_ HB.out : w.heap.size ≤ gb172)); replace HB := Aside0.mk (below_step (ts30_ HB.out) hb); clear hb hbox hg; obtain ⟨Ao22, co22, eo22⟩ := Kd.R_slice HO165.out; subst eo22; have hcz23_0 : w21.cell? ⟨gb172, 0, none⟩ = some (.slice none 0 0) := (blk_cell BK172.out 0).trans rfl; have hcz23_1 : w21.cell? ⟨gb172, 1, none⟩ = some (.slice none 0 0) := (blk_cell BK172.out 1).trans rfl; have hcz23_2 : w21.cell? ⟨gb172, 2, none⟩ = some (.int .i64 0) := (blk_cell BK172.out 2).trans rfl; have hfz23_0 := blk_frozen BK172.out 0; have hfz23_1 := blk_frozen BK172.out 1; have hfz23_2 := blk_frozen BK172.out 2; obtain ⟨Ao24, co24, eo24⟩ := Kd.R_slice HO168.out; subst eo24) | ((with_reducible refine gate_callee (f := 22) rfl ?_); refine goesL_ (some 44) rfl rfl Tryd.func22 (by kernel_rfl) rfl #[.agg #[.slice Ao22 t163.length co22, .slice Ao24 t166.length co24, .int .i64 t169]] rfl ts5_ ?_; (with_reducible refine (target_Print.calls k _ _ t163 _ _ t166 t169 t174 t175 _ ?side1 ?side2 ?side3 ?side4 A7.out).mono ?_); (case side1 => refine (Kd.R_reads' (e := 48) (base := w.heap.size) (ok := fun k_ => True) (n := t163.length) (c := co22) ?_).2.2; exact (ts28_ HO165.out BK172.out)); (case side2 => exact ts32_ HO165.out); (case side3 => refine (Kd.R_reads' (e := 2) (base := w.heap.size) (ok := fun k_ => True) (n := t166.length) (c := co24) ?_).2.2; exact (ts28_ HO168.out BK172.out)); (case side4 => exact ts32_ HO168.out); rintro e w25 ⟨rfl, hb⟩; refine ⟨_, rfl, ?_⟩; replace HO165 := Aside0.mk (Kd.R_below (ts28_ HO165.out BK172.out) hb); replace HO168 := Aside0.mk (Kd.R_below (ts28_ HO168.out BK172.out) hb); replace BK172 := Aside0.mk (blk_below (g := gb172) (o := .cells #[.slice Ao22 t163.length co22, .slice Ao24 t166.length co24, .int .i64 t169] 35 (0, 0)) (by (with_reducible repeat (first | refine blk_drewN ?_ _ | refine blk_drew ?_ | refine blk_alloc ?_ _)); refine blk_put (cs := #[.slice Ao22 t163.length co22, .slice Ao24 t166.length co24, .int .i64 0]) ?_ 2 _ rfl; (with_reducible repeat (first | refine blk_drewN ?_ _ | refine blk_drew ?_ | refine blk_alloc ?_ _)); refine blk_put (cs := #[.slice Ao22 t163.length co22, .slice none 0 0, .int .i64 0]) ?_ 1 _ rfl; (with_reducible repeat (first | refine blk_drewN ?_ _ | refine blk_drew ?_ | refine blk_alloc ?_ _)); refine blk_put (cs := #[.slice none 0 0, .slice none 0 0, .int .i64 0]) ?_ 0 _ rfl; (with_reducible repeat (first | refine blk_drewN ?_ _ | refine blk_drew ?_ | refine blk_alloc ?_ _)); exact BK172.out) hb); replace HB := Aside0.mk (below_step (ts13_ HB.out GE172.out) hb); clear hb) | ((with_reducible refine gate_callee (f := 19) rfl ?_); refine goesL_ (some 49) rfl rfl Tryd.func19 (by kernel_rfl) rfl #[.string t174] rfl ts5_ ?_; (with_reducible refine (et_Parse.calls k t174 t176 t179 t182 t183 t184 _ A8.out).mono ?_); rintro e w26 ⟨v177, v180, rfl, ho0, ho1, hb⟩; refine ⟨_, rfl, ?_⟩; have HO178 := Aside0.mk (Kd.R_lower (Kd.R_new' ho0 (Kd.R_lt (ts16_ HO165.out))) (below_size (ts13_ HB.out GE172.out))); replace HO165 := Aside0.mk (Kd.R_elder' (ts16_ HO165.out) (Kd.R_base ho0) hb); have HO181 := Aside0.mk (Kd.R_lower (Kd.R_new' ho1 (Kd.R_lt (ts16_ HO168.out))) (below_size (ts13_ HB.out GE172.out))); replace HO168 := Aside0.mk (Kd.R_elder' (ts16_ HO168.out) (Kd.R_base ho1) hb); replace BK172 := Aside0.mk (blk_below (g := gb172) (o := .cells #[.slice Ao22 t163.length co22, .slice Ao24 t166.length co24, .int .i64 t169] 35 (0, 0)) (ts10_ BK172.out) hb); replace HB := Aside0.mk (below_step (ts13_ HB.out GE172.out) hb); clear hb; (try clear ho0); (try clear ho1)) | ((with_reducible refine gate_dst (N := 8) rfl ?_); (try (refine gate_guard (by rfl) ?_; dsimp only)); refine box_event ?hg (N := 8) ?hd (cs := #[.slice none 0 0, .slice none 0 0, .int .i64 0]) (t := 35) ?hr ?_; (case hd => rfl); (case hg => rfl); (case hr => exact ts11_); intro gb185 hg w27 hbox hb; replace HO165 := Aside0.mk (Kd.R_below (ts16_ HO165.out) hb); replace HO168 := Aside0.mk (Kd.R_below (ts16_ HO168.out) hb); replace HO178 := Aside0.mk (Kd.R_below (ts16_ HO178.out) hb); replace HO181 := Aside0.mk (Kd.R_below (ts16_ HO181.out) hb); have BK185 := Aside0.mk (hbox); have GW185 := Aside0.mk ((ts37_ HB.out GE172.out : w.heap.size ≤ gb185)); have GE185 := Aside0.mk ((ts37_ HB.out GE172.out : w.heap.size ≤ gb185)); replace HB := Aside0.mk (below_step (ts13_ HB.out GE172.out) hb); have NB172_185 := Aside0.mk ((by rw [hg]; exact Nat.ne_of_lt (blk_lt (g := gb172) (o := .cells #[.slice Ao22 t163.length co22, .slice Ao24 t166.length co24, .int .i64 t169] 35 (0, 0)) (ts10_ BK172.out)) : gb172 ≠ gb185)); have NB185_172 := Aside0.mk ((by rw [hg]; exact Nat.ne_of_gt (blk_lt (g := gb172) (o := .cells #[.slice Ao22 t163.length co22, .slice Ao24 t166.length co24, .int .i64 t169] 35 (0, 0)) (ts10_ BK172.out)) : gb185 ≠ gb172)); replace BK172 := Aside0.mk (blk_below (g := gb172) (o := .cells #[.slice Ao22 t163.length co22, .slice Ao24 t166.length co24, .int .i64 t169] 35 (0, 0)) (ts10_ BK172.out) hb); clear hb hbox hg; obtain ⟨Ao28, co28, eo28⟩ := Kd.R_slice HO178.out; subst eo28; have hnb29 := NB185_172.out; have hnc29 := NB172_185.out; have hcz30_0 : w27.cell? ⟨gb185, 0, none⟩ = some (.slice none 0 0) := (blk_cell BK185.out 0).trans rfl; have hcz30_1 : w27.cell? ⟨gb185, 1, none⟩ = some (.slice none 0 0) := (blk_cell BK185.out 1).trans rfl; have hcz30_2 : w27.cell? ⟨gb185, 2, none⟩ = some (.int .i64 0) := (blk_cell BK185.out 2).trans rfl; have hfz30_0 := blk_frozen BK185.out 0; have hfz30_1 := blk_frozen BK185.out 1; have hfz30_2 := blk_frozen BK185.out 2; obtain ⟨Ao31, co31, eo31⟩ := Kd.R_slice HO181.out; subst eo31) | ((with_reducible refine gate_callee (f := 22) rfl ?_); refine goesL_ (some 55) rfl rfl Tryd.func22 (by kernel_rfl) rfl #[.agg #[.slice Ao28 t176.length co28, .slice Ao31 t179.length co31, .int .i64 t182]] rfl ts5_ ?_; (with_reducible refine (target_Print.calls k _ _ t176 _ _ t179 t182 t186 t187 _ ?side1 ?side2 ?side3 ?side4 A9.out).mono ?_); (case side1 => refine (Kd.R_reads' (e := 48) (base := w.heap.size) (ok := fun k_ => (True ∧ some k_ ≠ (.slice Ao22 t163.length co22 : Value).ownBlock)) (n := t176.length) (c := co28) ?_).2.2; exact (ts6_ HO178.out BK185.out)); (case side2 => exact ts32_ HO178.out); (case side3 => refine (Kd.R_reads' (e := 2) (base := w.heap.size) (ok := fun k_ => (True ∧ some k_ ≠ (.slice Ao24 t166.length co24 : Value).ownBlock)) (n := t179.length) (c := co31) ?_).2.2; exact (ts6_ HO181.out BK185.out)); (case side4 => exact ts32_ HO181.out); rintro e w32 ⟨rfl, hb⟩; refine ⟨_, rfl, ?_⟩; replace HO165 := Aside0.mk (Kd.R_below (ts6_ HO165.out BK185.out) hb); replace HO168 := Aside0.mk (Kd.R_below (ts6_ HO168.out BK185.out) hb); replace HO178 := Aside0.mk (Kd.R_below (ts6_ HO178.out BK185.out) hb); replace HO181 := Aside0.mk (Kd.R_below (ts6_ HO181.out BK185.out) hb); replace BK172 := Aside0.mk (blk_below (g := gb172) (o := .cells #[.slice Ao22 t163.length co22, .slice Ao24 t166.length co24, .int .i64 t169] 35 (0, 0)) (ts3_ NB172_185.out BK172.out) hb); replace BK185 := Aside0.mk (blk_below (g := gb185) (o := .cells #[.slice Ao28 t176.length co28, .slice Ao31 t179.length co31, .int .i64 t182] 35 (0, 0)) (by (with_reducible repeat (first | refine blk_drewN ?_ _ | refine blk_drew ?_ | refine blk_alloc ?_ _)); refine blk_put (cs := #[.slice Ao28 t176.length co28, .slice Ao31 t179.length co31, .int .i64 0]) ?_ 2 _ rfl; (with_reducible repeat (first | refine blk_drewN ?_ _ | refine blk_drew ?_ | refine blk_alloc ?_ _)); refine blk_put (cs := #[.slice Ao28 t176.length co28, .slice none 0 0, .int .i64 0]) ?_ 1 _ rfl; (with_reducible repeat (first | refine blk_drewN ?_ _ | refine blk_drew ?_ | refine blk_alloc ?_ _)); refine blk_put (cs := #[.slice none 0 0, .slice none 0 0, .int .i64 0]) ?_ 0 _ rfl; (with_reducible repeat (first | refine blk_drewN ?_ _ | refine blk_drew ?_ | refine blk_alloc ?_ _)); exact BK185.out) hb); replace HB := Aside0.mk (below_step (ts20_ HB.out GE172.out GE185.out) hb); clear hb; have hcz33_0 : w32.cell? ⟨gb172, 0, none⟩ = some (.slice Ao22 t163.length co22) := (blk_cell BK172.out 0).trans rfl; have hcz33_1 : w32.cell? ⟨gb172, 1, none⟩ = some (.slice Ao24 t166.length co24) := (blk_cell BK172.out 1).trans rfl; have hcz33_2 : w32.cell? ⟨gb172, 2, none⟩ = some (.int .i64 t169) := (blk_cell BK172.out 2).trans rfl; have hfz33_0 := blk_frozen BK172.out 0; have hfz33_1 := blk_frozen BK172.out 1; have hfz33_2 := blk_frozen BK172.out 2) | (go_at_call 17; (with_reducible refine (et_Check.calls k _ _ t163 _ _ t166 t169 t188 _ ?side1 ?side2 ?side3 ?side4 A11.out).mono ?_); (case side1 => exact ts18_ HO165.out); (case side2 => exact ts32_ HO165.out); (case side3 => exact ts18_ HO168.out); (case side4 => exact ts32_ HO168.out); rintro e w34 ⟨rfl, hb⟩; replace HO165 := Aside0.mk (Kd.R_below (ts16_ HO165.out) hb); replace HO168 := Aside0.mk (Kd.R_below (ts16_ HO168.out) hb); replace HO178 := Aside0.mk (Kd.R_below (ts16_ HO178.out) hb); replace HO181 := Aside0.mk (Kd.R_below (ts16_ HO181.out) hb); replace BK172 := Aside0.mk (blk_below (g := gb172) (o := .cells #[.slice Ao22 t163.length co22, .slice Ao24 t166.length co24, .int .i64 t169] 35 (0, 0)) (ts10_ BK172.out) hb); replace BK185 := Aside0.mk (blk_below (g := gb185) (o := .cells #[.slice Ao28 t176.length co28, .slice Ao31 t179.length co31, .int .i64 t182] 35 (0, 0)) (ts10_ BK185.out) hb); replace HB := Aside0.mk (below_step (ts20_ HB.out GE172.out GE185.out) hb); clear hb; have hcz35_0 : w34.cell? ⟨gb172, 0, none⟩ = some (.slice Ao22 t163.length co22) := (blk_cell BK172.out 0).trans rfl; have hcz35_1 : w34.cell? ⟨gb172, 1, none⟩ = some (.slice Ao24 t166.length co24) := (blk_cell BK172.out 1).trans rfl; have hcz35_2 : w34.cell? ⟨gb172, 2, none⟩ = some (.int .i64 t169) := (blk_cell BK172.out 2).trans rfl; have hfz35_0 := blk_frozen BK172.out 0; have hfz35_1 := blk_frozen BK172.out 1; have hfz35_2 := blk_frozen BK172.out 2; have hcz36_0 : w34.cell? ⟨gb185, 0, none⟩ = some (.slice Ao28 t176.length co28) := (blk_cell BK185.out 0).trans rfl; have hcz36_1 : w34.cell? ⟨gb185, 1, none⟩ = some (.slice Ao31 t179.length co31) := (blk_cell BK185.out 1).trans rfl; have hcz36_2 : w34.cell? ⟨gb185, 2, none⟩ = some (.int .i64 t182) := (blk_cell BK185.out 2).trans rfl; have hfz36_0 := blk_frozen BK185.out 0; have hfz36_1 := blk_frozen BK185.out 1; have hfz36_2 := blk_frozen BK185.out 2) | (go_at_call 21; (with_reducible refine (cupelref20_Same.calls k _ _ t163 _ _ t166 t169 _ _ t176 _ _ t179 t182 true _ ?side1 ?side2 ?side3 ?side4 ?side5 ?side6 ?side7 ?side8 A16.out).mono ?_); (case side1 => exact ts18_ HO165.out); (case side2 => exact ts32_ HO165.out); (case side3 => exact ts18_ HO168.out); (case side4 => exact ts32_ HO168.out); (case side5 => exact ts18_ HO178.out); (case side6 => exact ts32_ HO178.out); (case side7 => exact ts18_ HO181.out); (case side8 => exact ts32_ HO181.out); rintro e w37 ⟨rfl, hb⟩; replace HO165 := Aside0.mk (Kd.R_below (ts16_ HO165.out) hb); replace HO168 := Aside0.mk (Kd.R_below (ts16_ HO168.out) hb); replace HO178 := Aside0.mk (Kd.R_below (ts16_ HO178.out) hb); replace HO181 := Aside0.mk (Kd.R_below (ts16_ HO181.out) hb); replace BK172 := Aside0.mk (blk_below (g := gb172) (o := .cells #[.slice Ao22 t163.length co22, .slice Ao24 t166.length co24, .int .i64 t169] 35 (0, 0)) (ts10_ BK172.out) hb); replace BK185 := Aside0.mk (blk_below (g := gb185) (o := .cells #[.slice Ao28 t176.length co28, .slice Ao31 t179.length co31, .int .i64 t182] 35 (0, 0)) (ts10_ BK185.out) hb); replace HB := Aside0.mk (below_step (ts20_ HB.out GE172.out GE185.out) hb); clear hb) | (go_at_call 9; (with_reducible refine (cupellaw20_awake.calls k  t190 _ A19.out).mono ?_); rintro e w38 ⟨rfl, hb⟩; replace HO165 := Aside0.mk (Kd.R_below (ts16_ HO165.out) hb); replace HO168 := Aside0.mk (Kd.R_below (ts16_ HO168.out) hb); replace HO178 := Aside0.mk (Kd.R_below (ts16_ HO178.out) hb); replace HO181 := Aside0.mk (Kd.R_below (ts16_ HO181.out) hb); replace BK172 := Aside0.mk (blk_below (g := gb172) (o := .cells #[.slice Ao22 t163.length co22, .slice Ao24 t166.length co24, .int .i64 t169] 35 (0, 0)) (ts10_ BK172.out) hb); replace BK185 := Aside0.mk (blk_below (g := gb185) (o := .cells #[.slice Ao28 t176.length co28, .slice Ao31 t179.length co31, .int .i64 t182] 35 (0, 0)) (ts10_ BK185.out) hb); replace HB := Aside0.mk (below_step (ts20_ HB.out GE172.out GE185.out) hb); clear hb))
         go_ret
         exact ⟨ts21_, ts20_ HB.out GE172.out GE185.out⟩
        rw [if_neg c18] at H
        exact absurd H (by simp)
       replace c17 := Bool.eq_false_iff.mpr c17
       subst c17
       rw [if_neg Bool.false_ne_true] at H
       exact absurd H (by simp)
      rw [if_neg c15] at H
      exact absurd H (by simp)
     rw [if_neg c14] at H
     exact absurd H (by simp)
    rw [if_neg c13] at H
    exact absurd H (by simp)
   rw [if_neg c12] at H
   exact absurd H (by simp)
  rw [if_neg c10] at H
  exact absurd H (by simp)
 rw [if_neg c6] at H
 have c6b0 : (t171 == 0) = false := beq_eq_false_iff_ne.mpr c6
 have c6b1 : (t171 != 0) = true := bne_iff_ne.mpr c6
 by_cases c39 : t170 ≥ 0
 ·rw [if_pos c39] at H
  have c39b0 : decide (0 ≤ t170) = true := decide_eq_true c39
  clear c39
  by_cases c40 : t170 ≤ (a0.size : Int)
  ·rw [if_pos c40] at H
   have c40b0 : decide (t170 ≤ (a0.size : Int)) = true := decide_eq_true c40
   clear c40
   by_cases c41 : (t163.length : Int) = 0
   ·rw [if_pos c41] at H
    have c41b0 : ((t163.length : Int) == 0) = true := beq_iff_eq.mpr c41
    have c41b1 : ((t163.length : Int) != 0) = false := bne_eq_false_iff_eq.mpr c41
    clear c41
    obtain ⟨t173, A42, H⟩ := bsA_ H
    try dsimp only at H
    obtain rfl := Option.some.inj H
    go_enter Tryd.func8, Tryd.ntmps8
    go_wp2_with (first | ((with_reducible refine gate_callee (f := 19) rfl ?_); refine goesL_ (some 19) rfl rfl Tryd.func19 (by kernel_rfl) rfl #[.string a0] rfl ts5_ ?_; (with_reducible refine (et_Parse.calls k a0 t163 t166 t169 t170 t171 _ A5.out).mono ?_); rintro e w43 ⟨v164, v167, rfl, ho0, ho1, hb⟩; refine ⟨_, rfl, ?_⟩; have HO165 := Aside0.mk (Kd.R_lower ho0 (below_size (ts30_ HB.out))); have HO168 := Aside0.mk (Kd.R_lower ho1 (below_size (ts30_ HB.out))); replace HB := Aside0.mk (below_step (ts30_ HB.out) hb); clear hb; (try clear ho0); (try clear ho1)) | ((with_reducible refine gate_dst (N := 3) rfl ?_); (try (refine gate_guard (by rfl) ?_; dsimp only)); refine box_event ?hg (N := 3) ?hd (cs := #[.slice none 0 0, .slice none 0 0, .int .i64 0]) (t := 35) ?hr ?_; (case hd => rfl); (case hg => rfl); (case hr => exact ts11_); intro gb172 hg w44 hbox hb; replace HO165 := Aside0.mk (Kd.R_below (ts16_ HO165.out) hb); replace HO168 := Aside0.mk (Kd.R_below (ts16_ HO168.out) hb); have BK172 := Aside0.mk (hbox); have GW172 := Aside0.mk ((ts43_ HB.out : w.heap.size ≤ gb172)); have GE172 := Aside0.mk ((ts43_ HB.out : w.heap.size ≤ gb172)); replace HB := Aside0.mk (below_step (ts30_ HB.out) hb); clear hb hbox hg; obtain ⟨Ao45, co45, eo45⟩ := Kd.R_slice HO165.out; subst eo45; have hcz46_0 : w44.cell? ⟨gb172, 0, none⟩ = some (.slice none 0 0) := (blk_cell BK172.out 0).trans rfl; have hcz46_1 : w44.cell? ⟨gb172, 1, none⟩ = some (.slice none 0 0) := (blk_cell BK172.out 1).trans rfl; have hcz46_2 : w44.cell? ⟨gb172, 2, none⟩ = some (.int .i64 0) := (blk_cell BK172.out 2).trans rfl; have hfz46_0 := blk_frozen BK172.out 0; have hfz46_1 := blk_frozen BK172.out 1; have hfz46_2 := blk_frozen BK172.out 2; obtain ⟨Ao47, co47, eo47⟩ := Kd.R_slice HO168.out; subst eo47) | (go_at_call 9; (with_reducible refine (cupellaw20_awake.calls k  t173 _ A42.out).mono ?_); rintro e w48 ⟨rfl, hb⟩; replace HO165 := Aside0.mk (Kd.R_below (ts31_ HO165.out BK172.out) hb); replace HO168 := Aside0.mk (Kd.R_below (ts31_ HO168.out BK172.out) hb); replace BK172 := Aside0.mk (blk_below (g := gb172) (o := .cells #[.slice Ao45 t163.length co45, .slice Ao47 t166.length co47, .int .i64 t169] 35 (0, 0)) (by (with_reducible repeat (first | refine blk_drewN ?_ _ | refine blk_drew ?_ | refine blk_alloc ?_ _)); refine blk_put (cs := #[.slice Ao45 t163.length co45, .slice Ao47 t166.length co47, .int .i64 0]) ?_ 2 _ rfl; (with_reducible repeat (first | refine blk_drewN ?_ _ | refine blk_drew ?_ | refine blk_alloc ?_ _)); refine blk_put (cs := #[.slice Ao45 t163.length co45, .slice none 0 0, .int .i64 0]) ?_ 1 _ rfl; (with_reducible repeat (first | refine blk_drewN ?_ _ | refine blk_drew ?_ | refine blk_alloc ?_ _)); refine blk_put (cs := #[.slice none 0 0, .slice none 0 0, .int .i64 0]) ?_ 0 _ rfl; (with_reducible repeat (first | refine blk_drewN ?_ _ | refine blk_drew ?_ | refine blk_alloc ?_ _)); exact BK172.out) hb); replace HB := Aside0.mk (below_step (ts13_ HB.out GE172.out) hb); clear hb))
    go_ret
    exact ⟨ts21_, ts13_ HB.out GE172.out⟩
   rw [if_neg c41] at H
   exact absurd H (by simp)
  rw [if_neg c40] at H
  exact absurd H (by simp)
 rw [if_neg c39] at H
 exact absurd H (by simp)
end Go.Proofs.YtlaijeeeblcinaaDoor.A

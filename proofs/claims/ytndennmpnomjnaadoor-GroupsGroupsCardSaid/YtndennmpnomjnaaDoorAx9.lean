/- Written by wip/tools/xprint.py, a program of this session that drives the kit's printer. Not trusted: Lean checks it. -/
import Derived.Test.YtndennmpnomjnaaDoorAx0
set_option linter.all false
set_option maxHeartbeats 8000000
set_option maxRecDepth 100000
namespace Go.Proofs.YtndennmpnomjnaaDoor.A
open Go.RowKit Go.Proofs.YtndennmpnomjnaaDoorW.PrintWords Go.Proofs.YtndennmpnomjnaaDoorW.PrintLast Go.Proofs.YtndennmpnomjnaaDoorW.PrintMore
attribute [local go_sem] max2_int min2_int max_two min_two max_three min_three max_four min_four   -- for this text's walks alone
set_option linter.unusedVariables false
set_option linter.unusedSimpArgs false
/-! ### cupelref35_Groups: function 13 -/
mutual
def cupelref35_Groups.l0 : Nat → List ByteArray → List (S35) → Int → Option ((List (S35)) × Int)
 | 0, _, _, _ => none
 | k + 1, x0, x4, x5 => if x5 < (x0.length : Int) then (cupelref35_Groups.l1 k x0 x4 x5 0) else (some (x4, 0))
def cupelref35_Groups.l1 : Nat → List ByteArray → List (S35) → Int → Int → Option ((List (S35)) × Int)
 | 0, _, _, _, _ => none
 | k + 1, x0, x4, x5, x6 => if x6 < (x4.length : Int) then (if 0 ≤ x6 then (if 0 ≤ x5 then (if x5 < (x0.length : Int) then (if ((rd_T35 x4 x6).f0).toList = (rdOf ByteArray.empty x0 x5).toList then (if x6 = (x4.length : Int) then (if x4.length < 3518437208883 then ((some (x4 ++ [(⟨rdOf ByteArray.empty x0 x5, ([] : List Int)⟩ : S35)] : List (S35))).bind fun y253 => (if x6 < (y253.length : Int) then (if ((rd_T35 y253 x6).f1).length < 17592186044416 then (cupelref35_Groups.l0 k x0 (y253.set (x6 : Int).toNat (⟨(rd_T35 y253 x6).f0, (((rd_T35 y253 x6).f1) ++ [x5])⟩ : S35)) (wrap64 (x5 + 1))) else (none)) else (none))) else (none)) else (if ((rd_T35 x4 x6).f1).length < 17592186044416 then (cupelref35_Groups.l0 k x0 (x4.set (x6 : Int).toNat (⟨(rd_T35 x4 x6).f0, (((rd_T35 x4 x6).f1) ++ [x5])⟩ : S35)) (wrap64 (x5 + 1))) else (none))) else (cupelref35_Groups.l1 k x0 x4 x5 (wrap64 (x6 + 1)))) else (none)) else (none)) else (none)) else (if x6 = (x4.length : Int) then (if 0 ≤ x5 then (if x5 < (x0.length : Int) then (if x4.length < 3518437208883 then ((some (x4 ++ [(⟨rdOf ByteArray.empty x0 x5, ([] : List Int)⟩ : S35)] : List (S35))).bind fun y267 => (if 0 ≤ x6 then (if x6 < (y267.length : Int) then (if ((rd_T35 y267 x6).f1).length < 17592186044416 then (cupelref35_Groups.l0 k x0 (y267.set (x6 : Int).toNat (⟨(rd_T35 y267 x6).f0, (((rd_T35 y267 x6).f1) ++ [x5])⟩ : S35)) (wrap64 (x5 + 1))) else (none)) else (none)) else (none))) else (none)) else (none)) else (none)) else (if 0 ≤ x6 then (none) else (none)))
end
def cupelref35_Groups.f (k : Nat) (l0 : List ByteArray) : Option ((List (S35)) × Int) := if (l0.length : Int) > 1000 then (some (([] : List (S35)), 3)) else (cupelref35_Groups.l0 k l0 ([] : List (S35)) 0)
theorem cupelref35_Groups.mono_l : ∀ k, (∀ y0 y1 y2, LeO (cupelref35_Groups.l0 k y0 y1 y2) (cupelref35_Groups.l0 (k + 1) y0 y1 y2)) ∧ (∀ y0 y1 y2 y3, LeO (cupelref35_Groups.l1 k y0 y1 y2 y3) (cupelref35_Groups.l1 (k + 1) y0 y1 y2 y3))
 | 0 => ⟨fun _ _ _ r h => by simp [cupelref35_Groups.l0] at h, fun _ _ _ _ r h => by simp [cupelref35_Groups.l1] at h⟩
 | k + 1 => by
  obtain ⟨ih0, ih1⟩ := cupelref35_Groups.mono_l k
  refine ⟨?_, ?_⟩
  ·intro y0 y1 y2
   unfold cupelref35_Groups.l0
   repeat' first
   | (with_reducible exact ih0 _ _ _)
   | (with_reducible exact ih1 _ _ _ _)
   | (with_reducible exact LeO.refl _)
   | (with_reducible exact LeO.none _)
   | (with_reducible refine LeO.ite ?_ ?_)
   | (with_reducible refine LeO.bind ?_ (fun _ => ?_))
   | exact LeO.none _
   | refine LeO.ite ?_ ?_
   | refine LeO.bind ?_ (fun _ => ?_)
  intro y0 y1 y2 y3
  unfold cupelref35_Groups.l1
  repeat' first
  | (with_reducible exact ih0 _ _ _)
  | (with_reducible exact ih1 _ _ _ _)
  | (with_reducible exact LeO.refl _)
  | (with_reducible exact LeO.none _)
  | (with_reducible refine LeO.ite ?_ ?_)
  | (with_reducible refine LeO.bind ?_ (fun _ => ?_))
  | exact LeO.none _
  | refine LeO.ite ?_ ?_
  | refine LeO.bind ?_ (fun _ => ?_)
theorem cupelref35_Groups.mono : ∀ a0 k, LeO (cupelref35_Groups.f k a0) (cupelref35_Groups.f (k + 1) a0) := by
 intro a0 k
 obtain ⟨ih0, ih1⟩ := cupelref35_Groups.mono_l k
 unfold cupelref35_Groups.f
 repeat' first
   | (with_reducible exact ih0 _ _ _)
   | (with_reducible exact ih1 _ _ _ _)
   | (with_reducible exact LeO.refl _)
   | (with_reducible exact LeO.none _)
   | (with_reducible refine LeO.ite ?_ ?_)
   | (with_reducible refine LeO.bind ?_ (fun _ => ?_))
   | exact LeO.none _
   | refine LeO.ite ?_ ?_
   | refine LeO.bind ?_ (fun _ => ?_)
theorem cupelref35_Groups.calls (k : Nat) (A0 : Option Addr) (c0 : Nat) (l0 : List ByteArray) (r1 : List (S35)) (r2 : Int) (w : World) (hr0 : Kd.C Kd.string w A0 l0.length l0) (hc0 : l0.length ≤ c0) (h : cupelref35_Groups.f k l0 = some (r1, r2)) :
  Calls Tryd.prog 13 #[.slice A0 l0.length c0] w fun e w' => ∃ v0_ : Value, e = .returned (.tuple #[v0_, .int .i64 r2]) ∧ Kd.S k35 35 w' w.heap.size (fun _ => True) v0_ r1 ∧ Below w.heap.size w w' := by
 have hu35 := Tryd.underlying35
 have HR0 := Aside0.mk hr0
 have HC0 := Aside0.mk hc0
 clear hr0 hc0
 have HB := Aside0.mk (Below.refl w.heap.size w)
 have H : (if (l0.length : Int) > 1000 then (some (([] : List (S35)), 3)) else (cupelref35_Groups.l0 k l0 ([] : List (S35)) 0)) = some (r1, r2) := h
 clear h
 by_cases c2 : (l0.length : Int) > 1000
 ·rw [if_pos c2] at H
  have c2b0 : decide (1000 < (l0.length : Int)) = true := decide_eq_true c2
  have c2b1 : decide (1000 < l0.length) = true := decide_eq_true (by omega)
  clear c2
  simp only [Option.some.injEq, Prod.mk.injEq] at H
  obtain ⟨rfl, rfl⟩ := H
  go_enter Tryd.func13, Tryd.ntmps13
  go_wp2
  repeat (go_quiet (fail); try go_wp2)
  go_ret2
  exact ⟨_, ts26_, ts3_, ts29_ HB.out⟩
 rw [if_neg c2] at H
 have c2b0 : decide (1000 < (l0.length : Int)) = false := decide_eq_false c2
 have c2b1 : decide (1000 < l0.length) = false := decide_eq_false (by omega)
 clear c2
 have H' := Aside0.mk H
 clear H
 go_enter Tryd.func13, Tryd.ntmps13
 go_wp2
 repeat (go_quiet (fail); try go_wp2)
 go_loopg [4, 5] k (fun kq v4 v5 w' => ∃ (x4_1 : List (S35)) (x5_1 : Int), v5 = .int .i64 x5_1 ∧ Aside0 (cupelref35_Groups.l0 kq l0 x4_1 x5_1 = some (r1, r2)) ∧ Aside0 (kq ≤ k) ∧ Aside0 (Kd.S k35 35 w' w.heap.size (fun _ => True) v4 x4_1) ∧ Aside0 (Below w.heap.size w w'))
 case atStart => exact ⟨(([] : List (S35))), (0), ts28_, H', ⟨Nat.le_refl _⟩, ⟨ts3_⟩, ⟨ts29_ HB.out⟩⟩
 case round =>
  clear H'
  try clear c1
  try clear c2
  try clear c2b0
  try clear c2b1
  try clear p2
  obtain ⟨x4_1, x5_1, rfl, HA, HK1, HO_4, HB⟩ := hrel
  cases gk with
  | zero => exact absurd HA.out (by simp [cupelref35_Groups.l0])
  | succ k1 =>
   have H := HA.out
   clear HA
   simp only [cupelref35_Groups.l0] at H
   by_cases c3 : x5_1 < (l0.length : Int)
   ·rw [if_pos c3] at H
    have c3b0 : decide (x5_1 < (l0.length : Int)) = true := decide_eq_true c3
    clear c3
    have H' := Aside0.mk H
    clear H
    go_wp2
    repeat (go_quiet (fail); try go_wp2)
    go_loopg [6] k1 (fun kq v6 w' => ∃ (x6_2 : Int), v6 = .int .i64 x6_2 ∧ Aside0 (cupelref35_Groups.l1 kq l0 x4_1 x5_1 x6_2 = some (r1, r2)) ∧ Aside0 (kq ≤ k1) ∧ Aside0 (Kd.S k35 35 w' w.heap.size (fun _ => True) u4 x4_1) ∧ Aside0 (Below w.heap.size w w'))
    case atStart => exact ⟨(0), ts28_, H', ⟨Nat.le_refl _⟩, ⟨ts30_ HO_4.out⟩, ⟨ts29_ HB.out⟩⟩
    case round =>
     clear H'
     try clear c1
     try clear c2
     try clear c2b0
     try clear c2b1
     try clear p2
     try clear c3
     try clear c3b0
     try clear p2
     obtain ⟨x6_2, rfl, HA, HK2, HO_4, HB⟩ := hrel
     cases gk with
     | zero => exact absurd HA.out (by simp [cupelref35_Groups.l1])
     | succ k2 =>
      have H := HA.out
      clear HA
      simp only [cupelref35_Groups.l1] at H
      by_cases c4 : x6_2 < (x4_1.length : Int)
      ·rw [if_pos c4] at H
       have c4b0 : decide (x6_2 < (x4_1.length : Int)) = true := decide_eq_true c4
       clear c4
       by_cases c5 : 0 ≤ x6_2
       ·rw [if_pos c5] at H
        have c5b0 : decide (0 ≤ x6_2) = true := decide_eq_true c5
        clear c5
        by_cases c6 : 0 ≤ x5_1
        ·rw [if_pos c6] at H
         have c6b0 : decide (0 ≤ x5_1) = true := decide_eq_true c6
         clear c6
         by_cases c7 : x5_1 < (l0.length : Int)
         ·rw [if_pos c7] at H
          have c7b0 : decide (x5_1 < (l0.length : Int)) = true := decide_eq_true c7
          clear c7
          by_cases c8 : ((rd_T35 x4_1 x6_2).f0).toList = (rdOf ByteArray.empty l0 x5_1).toList
          ·rw [if_pos c8] at H
           have c8b0 : (((rd_T35 x4_1 x6_2).f0).toList == (rdOf ByteArray.empty l0 x5_1).toList) = true := beq_iff_eq.mpr c8
           have c8b1 : (((rd_T35 x4_1 x6_2).f0).toList != (rdOf ByteArray.empty l0 x5_1).toList) = false := bne_eq_false_iff_eq.mpr c8
           clear c8
           by_cases c9 : x6_2 = (x4_1.length : Int)
           ·rw [if_pos c9] at H
            have c9b0 : (x6_2 == (x4_1.length : Int)) = true := beq_iff_eq.mpr c9
            have c9b1 : (x6_2 != (x4_1.length : Int)) = false := bne_eq_false_iff_eq.mpr c9
            clear c9
            by_cases c10 : x4_1.length < 3518437208883
            ·rw [if_pos c10] at H
             have LMc10 := Aside0.mk c10
             clear c10
             obtain ⟨y253, hy253⟩ : ∃ y_ : List (S35), y_ = (x4_1 ++ [(⟨rdOf ByteArray.empty l0 x5_1, ([] : List Int)⟩ : S35)]) := ⟨_, rfl⟩
             replace H : (if x6_2 < (y253.length : Int) then (if ((rd_T35 y253 x6_2).f1).length < 17592186044416 then (cupelref35_Groups.l0 k2 l0 (y253.set (x6_2 : Int).toNat (⟨(rd_T35 y253 x6_2).f0, (((rd_T35 y253 x6_2).f1) ++ [x5_1])⟩ : S35)) (wrap64 (x5_1 + 1))) else (none)) else (none)) = some (r1, r2) := by first | (rw [hy253]; with_reducible exact H) | (have H2_ := (Option.bind_some _ _).symm.trans H; rw [hy253]; with_reducible exact H2_) | (have H2_ := (Option.bind_some _ _).symm.trans H; with_reducible exact H2_) | with_reducible exact H | (rw [hy253]; exact H) | exact H
             have Ny253 := Aside0.mk hy253
             clear hy253
             by_cases c11 : x6_2 < (y253.length : Int)
             ·rw [if_pos c11] at H
              have c11b0 : decide (x6_2 < (y253.length : Int)) = true := decide_eq_true c11
              clear c11
              by_cases c12 : ((rd_T35 y253 x6_2).f1).length < 17592186044416
              ·rw [if_pos c12] at H
               have LMc12 := Aside0.mk c12
               clear c12
               obtain ⟨y257, hy257⟩ : ∃ y_ : List Int, y_ = (((rd_T35 y253 x6_2).f1) ++ [x5_1]) := ⟨_, rfl⟩
               replace H : (cupelref35_Groups.l0 k2 l0 (y253.set (x6_2 : Int).toNat (⟨(rd_T35 y253 x6_2).f0, y257⟩ : S35)) (wrap64 (x5_1 + 1))) = some (r1, r2) := by first | (rw [hy257]; with_reducible exact H) | (have H2_ := (Option.bind_some _ _).symm.trans H; rw [hy257]; with_reducible exact H2_) | (have H2_ := (Option.bind_some _ _).symm.trans H; with_reducible exact H2_) | with_reducible exact H | (rw [hy257]; exact H) | exact H
               have Ny257 := Aside0.mk hy257
               clear hy257
               obtain ⟨y260, hy260⟩ : ∃ y_ : List (S35), y_ = (y253.set (x6_2 : Int).toNat (⟨(rd_T35 y253 x6_2).f0, y257⟩ : S35)) := ⟨_, rfl⟩
               replace H : (cupelref35_Groups.l0 k2 l0 y260 (wrap64 (x5_1 + 1))) = some (r1, r2) := by first | (rw [hy260]; with_reducible exact H) | (have H2_ := (Option.bind_some _ _).symm.trans H; rw [hy260]; with_reducible exact H2_) | (have H2_ := (Option.bind_some _ _).symm.trans H; with_reducible exact H2_) | with_reducible exact H | (rw [hy260]; exact H) | exact H
               have Ny260 := Aside0.mk hy260
               clear hy260
               have H' := Aside0.mk H
               clear H
               obtain ⟨Ao14, co14, eo14⟩ := Kd.S_slice HO_4.out
               subst eo14
               have p250 : 0 ≤ (x6_2 : Int) := of_decide_eq_true ts24_
               have q250 : x6_2 < (x4_1.length : Int) := of_decide_eq_true ts24_
               obtain ⟨ad250, A250_1, c250_1, e250, hx250_0, hx250_1, hl250_1, hi250_1⟩ := at_T35 (Kd.S_reads' HO_4.out).2.2 x6_2 p250 q250
               cases e250
               obtain ⟨ce250, hce250, hMe250, hcc250⟩ := Kd.S_get HO_4.out z35 x6_2 p250 (ts35_ HO_4.out)
               obtain ⟨ve250_1, rfl, ge250_1⟩ := k35_openM hMe250
               have hv250_1 := hcc250 1 _ rfl
               rw [add_field _ _ 1 (by omega)] at hv250_1
               replace hv250_1 := Option.some.inj (hv250_1.symm.trans hx250_1)
               rw [hv250_1] at ge250_1
               have HL250_1 := Aside0.mk (show Kd.R (Kd.int .i64) 3 _ _ _ _ ((rd_T35 x4_1 x6_2).f1) from ge250_1)
               clear hv250_1 ge250_1
               have HX250_1 := Aside0.mk hx250_1
               clear hcc250 hce250
               have HR250_1 := Aside0.mk hi250_1
               have HC250_1 := Aside0.mk hl250_1
               clear hi250_1 hl250_1
               replace p250 := eq_true p250
               replace q250 := eq_true q250
               have p251 : 0 ≤ (x5_1 : Int) := of_decide_eq_true ts24_
               have q251 : x5_1 < (l0.length : Int) := of_decide_eq_true ts24_
               obtain ⟨ad251, e251, hx251_0⟩ := Kd.at_string HR0.out x5_1 p251 q251
               cases e251
               replace hx251_0 := (HB.out.cell (World.block_lt_of_cell? w _ hx251_0)).trans hx251_0
               replace p251 := eq_true p251
               replace q251 := eq_true q251
               have p252 : 0 ≤ (x5_1 : Int) := of_decide_eq_true ts24_
               have q252 : x5_1 < (l0.length : Int) := of_decide_eq_true ts24_
               obtain ⟨ad252, e252, hx252_0⟩ := Kd.at_string HR0.out x5_1 p252 q252
               obtain rfl : ad251 = ad252 := (by injection e252)
               replace hx252_0 := (HB.out.cell (World.block_lt_of_cell? w _ hx252_0)).trans hx252_0
               replace p252 := eq_true p252
               replace q252 := eq_true q252
               go_wp2_with (first | ((with_reducible refine gate_builtin (b := .append) (xs := #[.tmp 38, .tmp 44]) rfl ?_); at_builtin; refine Kd.S_append k35 (w0 := w) w.heap.size rfl (.tmp 38) (.tmp 44) 31 35 (.agg #[(.string ⟨#[]⟩), (.slice none 0 0)]) 40 rfl Tryd.underlying31 info35 rfl (by decide) (by omega) (.slice (some ad250) x4_1.length co14) x4_1 (⟨rdOf ByteArray.empty l0 x5_1, ([] : List Int)⟩ : S35) [.string (rdOf ByteArray.empty l0 x5_1), .slice none 0 0] (fun _ => True) (fun _ => False) rfl rfl ?aP (fun k_ hk_ => hk_.elim) ?aF ?aO ?aB ?aS ?aL ?_; (case aP => exact ts11_); (case aB => exact (ts29_ HB.out)); (case aF => exact ts12_); (case aO => exact (ts2_ HO_4.out)); (case aS => exact ts40_ HB.out); (case aL => have := LMc10.out; omega); intro v254 w15 ho hb hg hat; rw [← Ny253.out] at ho; replace HL250_1 := Aside0.mk (Kd.R_after (ok := (fun _ => True)) (ts18_ HL250_1.out) hg hat); replace HB := Aside0.mk (hb); have HO255 := Aside0.mk (ho); clear HO_4; clear ho hb hg hat; obtain ⟨Ao16, co16, eo16⟩ := Kd.S_slice HO255.out; subst eo16; have p256 : 0 ≤ (x6_2 : Int) := of_decide_eq_true ts24_; have q256 : x6_2 < (y253.length : Int) := of_decide_eq_true ts24_; obtain ⟨ad256, A256_1, c256_1, e256, hx256_0, hx256_1, hl256_1, hi256_1⟩ := at_T35 (Kd.S_reads' HO255.out).2.2 x6_2 p256 q256; cases e256; obtain ⟨ce256, hce256, hMe256, hcc256⟩ := Kd.S_get HO255.out z35 x6_2 p256 (ts38_ HO255.out); obtain ⟨ve256_1, rfl, ge256_1⟩ := k35_openM hMe256; have hv256_1 := hcc256 1 _ rfl; rw [add_field _ _ 1 (by omega)] at hv256_1; replace hv256_1 := Option.some.inj (hv256_1.symm.trans hx256_1); rw [hv256_1] at ge256_1; have HL256_1 := Aside0.mk (show Kd.R (Kd.int .i64) 3 _ _ _ _ ((rd_T35 y253 x6_2).f1) from ge256_1); clear hv256_1 ge256_1; have HX256_1 := Aside0.mk hx256_1; clear hcc256 hce256; have HR256_1 := Aside0.mk hi256_1; have HC256_1 := Aside0.mk hl256_1; clear hi256_1 hl256_1; replace p256 := eq_true p256; replace q256 := eq_true q256; obtain ⟨go17, co17, eo17, gb17, gl17, cl17, HG17⟩ := Kd.S_form HO255.out (by have h_ : (x6_2 : Int) < ((y253.length : Int) : Int) := of_decide_eq_true ts24_; have h2_ : 0 ≤ (x6_2 : Int) := (of_decide_eq_true ts24_); omega); (first | cases eo17 | (injection eo17 with ea_ en_ ec_; (first | subst ea_ | (injection ea_ with ea_; subst ea_)); subst ec_; clear en_)); have GB17 := Aside0.mk gb17; have GG17 := Aside0.mk HG17; clear gb17 gl17 HG17; (first | simp only [add_plain] at hx256_0 | skip); (first | simp only [add_plain] at hx256_1 | skip); obtain ⟨oki17, ce17, hcl17, hM17, hcc17, _, _, hH17⟩ := Kd.S_elem HO255.out z35 (x6_2 : Int) (of_decide_eq_true ts24_) (by have h_ : (x6_2 : Int) < ((y253.length : Int) : Int) := of_decide_eq_true ts24_; first | exact h_ | (have e_ := (Kd.S_reads' HO255.out).1; omega) | simpa using h_); obtain ⟨ve17_1, rfl, ge17_1⟩ := k35_openM hM17; have hv17 := hcc17 1 _ rfl; have hX17 := HX256_1.out; (try simp only [add_plain] at hX17); (try simp only [Nat.add_zero] at hv17); replace hv17 := Option.some.inj (hv17.symm.trans hX17); subst hv17; clear hX17 hcc17 hcl17; have UU17 := Aside0.mk (show Kd.R (Kd.int .i64) 3 _ w.heap.size oki17 (.slice A256_1 ((rd_T35 y253 x6_2).f1).length c256_1) ((rd_T35 y253 x6_2).f1) from ge17_1); have HH17 := Aside0.mk hH17; have HN17 := Aside0.mk (Kd.S_reads' HO255.out).1; clear hH17 ge17_1) | ((with_reducible refine gate_builtin (b := .append) (xs := #[.tmp 52, .tmp 54]) rfl ?_); at_builtin; refine Kd.R_append (Kd.int .i64) (w0 := w) w.heap.size rfl (.tmp 52) (.tmp 54) 30 3 (.int .i64 0) 8 rfl Tryd.underlying30 info3 rfl (by decide) (by omega) (.slice A256_1 ((rd_T35 y253 x6_2).f1).length c256_1) ((rd_T35 y253 x6_2).f1) x5_1 [.int .i64 x5_1] (fun k_ => oki17 k_ ∨ ((fun _ => True)) k_ ∧ w15.heap.size ≤ k_) (fun _ => False) rfl rfl ?aP (fun _ hk => hk.elim) ?aF ?aO ?aB ?aS ?aL ?_; (case aP => exact rfl); (case aB => exact (ts29_ HB.out)); (case aF => exact ts4_); (case aO => exact (ts20_ UU17.out)); (case aS => exact ts40_ HB.out); (case aL => have := LMc12.out; omega); intro v258 w18 ho hb hg hat; rw [← Ny257.out] at ho; replace HB := Aside0.mk (hb); replace HH17 := Aside0.mk (Kd.H_grown (Kd.H_widen (ts10_ HH17.out)) hg (fun k_ e_ => .inl (UU17.out.1 k_ e_))); have HO259 := Aside0.mk (ho); clear HO255 UU17 HL250_1 HL256_1; clear ho hb hg hat; have p13 : 0 ≤ (x6_2 : Int) := of_decide_eq_true ts24_; have q13 : (x6_2 : Int) < ((y253.length : Int) : Int) := of_decide_eq_true ts24_; replace p13 := eq_true p13; replace q13 := eq_true q13; obtain ⟨Ao21, co21, eo21⟩ := Kd.R_slice HO259.out; subst eo21; obtain ⟨_, _, hraw19, _, _, hcc19, _⟩ := Kd.H_raw HH17.out (of_decide_eq_true ts24_) (by have h_ : (x6_2 : Int) < ((y253.length : Int) : Int) := of_decide_eq_true ts24_; first | exact h_ | (have e_ := (HN17.out); omega) | simpa using h_); obtain ⟨_, hfr19⟩ := Kd.H_at HH17.out (of_decide_eq_true ts24_) (by have h_ : (x6_2 : Int) < ((y253.length : Int) : Int) := of_decide_eq_true ts24_; first | exact h_ | (have e_ := (HN17.out); omega) | simpa using h_); have hx19_0 := hcc19 1 _ rfl; have hf19_0 := hfr19 1; (try rw [show (k35).sz = 2 from rfl] at hx19_0); (try rw [show (k35).sz = 2 from rfl] at hf19_0); have HP19 := Kd.S_seg0 HH17.out (of_decide_eq_true ts24_) (by have h_ : (x6_2 : Int) < ((y253.length : Int) : Int) := of_decide_eq_true ts24_; first | exact h_ | (have e_ := (HN17.out); omega) | simpa using h_) (seg := [.slice Ao21 y257.length co21]) (j := 1) (show 2 ≤ 2 from by decide) (x' := (⟨(rd_T35 y253 x6_2).f0, y257⟩ : S35)) (k35_mkM _ _ _ (⟨(rd_T35 y253 x6_2).f0, y257⟩ : S35) HO259.out) (fun _ hk => hk); clear hcc19 hfr19) | ((with_reducible refine gate_store (t := 30) (p := 57) rfl ?_); (try (rw [drewN_self w18]; generalize hq_ : World.drewN w18 _ = w18; replace HO255 := Aside0.mk (Kd.S_at hq_ HO255.out); replace HB := Aside0.mk (below_at hq_ HB.out); clear hq_; (try (obtain ⟨Ao21, co21, eo21⟩ := Kd.R_slice HO259.out)); (try (subst eo21)); (try (obtain ⟨_, _, hraw19, _, _, hcc19, _⟩ := Kd.H_raw HH17.out (of_decide_eq_true ts24_) (by have h_ : (x6_2 : Int) < ((y253.length : Int) : Int) := of_decide_eq_true ts24_; first | exact h_ | (have e_ := (HN17.out); omega) | simpa using h_))); (try (obtain ⟨_, hfr19⟩ := Kd.H_at HH17.out (of_decide_eq_true ts24_) (by have h_ : (x6_2 : Int) < ((y253.length : Int) : Int) := of_decide_eq_true ts24_; first | exact h_ | (have e_ := (HN17.out); omega) | simpa using h_))); (try (have hx19_0 := hcc19 1 _ rfl)); (try (have hf19_0 := hfr19 1)); (try (try rw [show (k35).sz = 2 from rfl] at hx19_0)); (try (try rw [show (k35).sz = 2 from rfl] at hf19_0)); (try (have HP19 := Kd.S_seg0 HH17.out (of_decide_eq_true ts24_) (by have h_ : (x6_2 : Int) < ((y253.length : Int) : Int) := of_decide_eq_true ts24_; first | exact h_ | (have e_ := (HN17.out); omega) | simpa using h_) (seg := [.slice Ao21 y257.length co21]) (j := 1) (show 2 ≤ 2 from by decide) (x' := (⟨(rd_T35 y253 x6_2).f0, y257⟩ : S35)) (k35_mkM _ _ _ (⟨(rd_T35 y253 x6_2).f0, y257⟩ : S35) HO259.out) (fun _ hk => hk))); (try (clear hcc19 hfr19)))); refine store_event (t := 30) (p := 57) (v := ?vo_w20) (w1 := (w18.setCell ⟨go17, (x6_2 : Int).toNat * 2 + 1, none⟩ (.slice Ao21 y257.length co21))) ?hg ?ho ?hn ?hr ?_; (case ho => rfl); (case hg => rfl); (case hn => rfl); (case hr => exact ts15_); intro w20 hw; have hg : w18.grownBy w20 (some go17) := (by rw [hw]; exact HP19.2); have hp_ : Kd.S k35 35 w20 w.heap.size (fun _ => True) (.slice (some ⟨go17, 0, none⟩) y253.length co16) y260 := (by rw [hw, Ny260.out]; exact HP19.1); clear HP19; replace HB := Aside0.mk ((by rw [hw]; exact below_set HB.out GB17.out : Below w.heap.size w w20)); have HO255 := Aside0.mk (hp_); clear HO259 HH17; clear hg hw hp_ hraw19))
               repeat (go_quiet (first | ((with_reducible refine gate_builtin (b := .append) (xs := #[.tmp 38, .tmp 44]) rfl ?_); at_builtin; refine Kd.S_append k35 (w0 := w) w.heap.size rfl (.tmp 38) (.tmp 44) 31 35 (.agg #[(.string ⟨#[]⟩), (.slice none 0 0)]) 40 rfl Tryd.underlying31 info35 rfl (by decide) (by omega) (.slice (some ad250) x4_1.length co14) x4_1 (⟨rdOf ByteArray.empty l0 x5_1, ([] : List Int)⟩ : S35) [.string (rdOf ByteArray.empty l0 x5_1), .slice none 0 0] (fun _ => True) (fun _ => False) rfl rfl ?aP (fun k_ hk_ => hk_.elim) ?aF ?aO ?aB ?aS ?aL ?_; (case aP => exact ts11_); (case aB => exact (ts29_ HB.out)); (case aF => exact ts12_); (case aO => exact (ts2_ HO_4.out)); (case aS => exact ts40_ HB.out); (case aL => have := LMc10.out; omega); intro v254 w15 ho hb hg hat; rw [← Ny253.out] at ho; replace HL250_1 := Aside0.mk (Kd.R_after (ok := (fun _ => True)) (ts18_ HL250_1.out) hg hat); replace HB := Aside0.mk (hb); have HO255 := Aside0.mk (ho); clear HO_4; clear ho hb hg hat; obtain ⟨Ao16, co16, eo16⟩ := Kd.S_slice HO255.out; subst eo16; have p256 : 0 ≤ (x6_2 : Int) := of_decide_eq_true ts24_; have q256 : x6_2 < (y253.length : Int) := of_decide_eq_true ts24_; obtain ⟨ad256, A256_1, c256_1, e256, hx256_0, hx256_1, hl256_1, hi256_1⟩ := at_T35 (Kd.S_reads' HO255.out).2.2 x6_2 p256 q256; cases e256; obtain ⟨ce256, hce256, hMe256, hcc256⟩ := Kd.S_get HO255.out z35 x6_2 p256 (ts38_ HO255.out); obtain ⟨ve256_1, rfl, ge256_1⟩ := k35_openM hMe256; have hv256_1 := hcc256 1 _ rfl; rw [add_field _ _ 1 (by omega)] at hv256_1; replace hv256_1 := Option.some.inj (hv256_1.symm.trans hx256_1); rw [hv256_1] at ge256_1; have HL256_1 := Aside0.mk (show Kd.R (Kd.int .i64) 3 _ _ _ _ ((rd_T35 y253 x6_2).f1) from ge256_1); clear hv256_1 ge256_1; have HX256_1 := Aside0.mk hx256_1; clear hcc256 hce256; have HR256_1 := Aside0.mk hi256_1; have HC256_1 := Aside0.mk hl256_1; clear hi256_1 hl256_1; replace p256 := eq_true p256; replace q256 := eq_true q256; obtain ⟨go17, co17, eo17, gb17, gl17, cl17, HG17⟩ := Kd.S_form HO255.out (by have h_ : (x6_2 : Int) < ((y253.length : Int) : Int) := of_decide_eq_true ts24_; have h2_ : 0 ≤ (x6_2 : Int) := (of_decide_eq_true ts24_); omega); (first | cases eo17 | (injection eo17 with ea_ en_ ec_; (first | subst ea_ | (injection ea_ with ea_; subst ea_)); subst ec_; clear en_)); have GB17 := Aside0.mk gb17; have GG17 := Aside0.mk HG17; clear gb17 gl17 HG17; (first | simp only [add_plain] at hx256_0 | skip); (first | simp only [add_plain] at hx256_1 | skip); obtain ⟨oki17, ce17, hcl17, hM17, hcc17, _, _, hH17⟩ := Kd.S_elem HO255.out z35 (x6_2 : Int) (of_decide_eq_true ts24_) (by have h_ : (x6_2 : Int) < ((y253.length : Int) : Int) := of_decide_eq_true ts24_; first | exact h_ | (have e_ := (Kd.S_reads' HO255.out).1; omega) | simpa using h_); obtain ⟨ve17_1, rfl, ge17_1⟩ := k35_openM hM17; have hv17 := hcc17 1 _ rfl; have hX17 := HX256_1.out; (try simp only [add_plain] at hX17); (try simp only [Nat.add_zero] at hv17); replace hv17 := Option.some.inj (hv17.symm.trans hX17); subst hv17; clear hX17 hcc17 hcl17; have UU17 := Aside0.mk (show Kd.R (Kd.int .i64) 3 _ w.heap.size oki17 (.slice A256_1 ((rd_T35 y253 x6_2).f1).length c256_1) ((rd_T35 y253 x6_2).f1) from ge17_1); have HH17 := Aside0.mk hH17; have HN17 := Aside0.mk (Kd.S_reads' HO255.out).1; clear hH17 ge17_1) | ((with_reducible refine gate_builtin (b := .append) (xs := #[.tmp 52, .tmp 54]) rfl ?_); at_builtin; refine Kd.R_append (Kd.int .i64) (w0 := w) w.heap.size rfl (.tmp 52) (.tmp 54) 30 3 (.int .i64 0) 8 rfl Tryd.underlying30 info3 rfl (by decide) (by omega) (.slice A256_1 ((rd_T35 y253 x6_2).f1).length c256_1) ((rd_T35 y253 x6_2).f1) x5_1 [.int .i64 x5_1] (fun k_ => oki17 k_ ∨ ((fun _ => True)) k_ ∧ w15.heap.size ≤ k_) (fun _ => False) rfl rfl ?aP (fun _ hk => hk.elim) ?aF ?aO ?aB ?aS ?aL ?_; (case aP => exact rfl); (case aB => exact (ts29_ HB.out)); (case aF => exact ts4_); (case aO => exact (ts20_ UU17.out)); (case aS => exact ts40_ HB.out); (case aL => have := LMc12.out; omega); intro v258 w18 ho hb hg hat; rw [← Ny257.out] at ho; replace HB := Aside0.mk (hb); replace HH17 := Aside0.mk (Kd.H_grown (Kd.H_widen (ts10_ HH17.out)) hg (fun k_ e_ => .inl (UU17.out.1 k_ e_))); have HO259 := Aside0.mk (ho); clear HO255 UU17 HL250_1 HL256_1; clear ho hb hg hat; have p13 : 0 ≤ (x6_2 : Int) := of_decide_eq_true ts24_; have q13 : (x6_2 : Int) < ((y253.length : Int) : Int) := of_decide_eq_true ts24_; replace p13 := eq_true p13; replace q13 := eq_true q13; obtain ⟨Ao21, co21, eo21⟩ := Kd.R_slice HO259.out; subst eo21; obtain ⟨_, _, hraw19, _, _, hcc19, _⟩ := Kd.H_raw HH17.out (of_decide_eq_true ts24_) (by have h_ : (x6_2 : Int) < ((y253.length : Int) : Int) := of_decide_eq_true ts24_; first | exact h_ | (have e_ := (HN17.out); omega) | simpa using h_); obtain ⟨_, hfr19⟩ := Kd.H_at HH17.out (of_decide_eq_true ts24_) (by have h_ : (x6_2 : Int) < ((y253.length : Int) : Int) := of_decide_eq_true ts24_; first | exact h_ | (have e_ := (HN17.out); omega) | simpa using h_); have hx19_0 := hcc19 1 _ rfl; have hf19_0 := hfr19 1; (try rw [show (k35).sz = 2 from rfl] at hx19_0); (try rw [show (k35).sz = 2 from rfl] at hf19_0); have HP19 := Kd.S_seg0 HH17.out (of_decide_eq_true ts24_) (by have h_ : (x6_2 : Int) < ((y253.length : Int) : Int) := of_decide_eq_true ts24_; first | exact h_ | (have e_ := (HN17.out); omega) | simpa using h_) (seg := [.slice Ao21 y257.length co21]) (j := 1) (show 2 ≤ 2 from by decide) (x' := (⟨(rd_T35 y253 x6_2).f0, y257⟩ : S35)) (k35_mkM _ _ _ (⟨(rd_T35 y253 x6_2).f0, y257⟩ : S35) HO259.out) (fun _ hk => hk); clear hcc19 hfr19) | ((with_reducible refine gate_store (t := 30) (p := 57) rfl ?_); (try (rw [drewN_self w18]; generalize hq_ : World.drewN w18 _ = w18; replace HO255 := Aside0.mk (Kd.S_at hq_ HO255.out); replace HB := Aside0.mk (below_at hq_ HB.out); clear hq_; (try (obtain ⟨Ao21, co21, eo21⟩ := Kd.R_slice HO259.out)); (try (subst eo21)); (try (obtain ⟨_, _, hraw19, _, _, hcc19, _⟩ := Kd.H_raw HH17.out (of_decide_eq_true ts24_) (by have h_ : (x6_2 : Int) < ((y253.length : Int) : Int) := of_decide_eq_true ts24_; first | exact h_ | (have e_ := (HN17.out); omega) | simpa using h_))); (try (obtain ⟨_, hfr19⟩ := Kd.H_at HH17.out (of_decide_eq_true ts24_) (by have h_ : (x6_2 : Int) < ((y253.length : Int) : Int) := of_decide_eq_true ts24_; first | exact h_ | (have e_ := (HN17.out); omega) | simpa using h_))); (try (have hx19_0 := hcc19 1 _ rfl)); (try (have hf19_0 := hfr19 1)); (try (try rw [show (k35).sz = 2 from rfl] at hx19_0)); (try (try rw [show (k35).sz = 2 from rfl] at hf19_0)); (try (have HP19 := Kd.S_seg0 HH17.out (of_decide_eq_true ts24_) (by have h_ : (x6_2 : Int) < ((y253.length : Int) : Int) := of_decide_eq_true ts24_; first | exact h_ | (have e_ := (HN17.out); omega) | simpa using h_) (seg := [.slice Ao21 y257.length co21]) (j := 1) (show 2 ≤ 2 from by decide) (x' := (⟨(rd_T35 y253 x6_2).f0, y257⟩ : S35)) (k35_mkM _ _ _ (⟨(rd_T35 y253 x6_2).f0, y257⟩ : S35) HO259.out) (fun _ hk => hk))); (try (clear hcc19 hfr19)))); refine store_event (t := 30) (p := 57) (v := ?vo_w20) (w1 := (w18.setCell ⟨go17, (x6_2 : Int).toNat * 2 + 1, none⟩ (.slice Ao21 y257.length co21))) ?hg ?ho ?hn ?hr ?_; (case ho => rfl); (case hg => rfl); (case hn => rfl); (case hr => exact ts15_); intro w20 hw; have hg : w18.grownBy w20 (some go17) := (by rw [hw]; exact HP19.2); have hp_ : Kd.S k35 35 w20 w.heap.size (fun _ => True) (.slice (some ⟨go17, 0, none⟩) y253.length co16) y260 := (by rw [hw, Ny260.out]; exact HP19.1); clear HP19; replace HB := Aside0.mk ((by rw [hw]; exact below_set HB.out GB17.out : Below w.heap.size w w20)); have HO255 := Aside0.mk (hp_); clear HO259 HH17; clear hg hw hp_ hraw19)); try go_wp2_with (first | ((with_reducible refine gate_builtin (b := .append) (xs := #[.tmp 38, .tmp 44]) rfl ?_); at_builtin; refine Kd.S_append k35 (w0 := w) w.heap.size rfl (.tmp 38) (.tmp 44) 31 35 (.agg #[(.string ⟨#[]⟩), (.slice none 0 0)]) 40 rfl Tryd.underlying31 info35 rfl (by decide) (by omega) (.slice (some ad250) x4_1.length co14) x4_1 (⟨rdOf ByteArray.empty l0 x5_1, ([] : List Int)⟩ : S35) [.string (rdOf ByteArray.empty l0 x5_1), .slice none 0 0] (fun _ => True) (fun _ => False) rfl rfl ?aP (fun k_ hk_ => hk_.elim) ?aF ?aO ?aB ?aS ?aL ?_; (case aP => exact ts11_); (case aB => exact (ts29_ HB.out)); (case aF => exact ts12_); (case aO => exact (ts2_ HO_4.out)); (case aS => exact ts40_ HB.out); (case aL => have := LMc10.out; omega); intro v254 w15 ho hb hg hat; rw [← Ny253.out] at ho; replace HL250_1 := Aside0.mk (Kd.R_after (ok := (fun _ => True)) (ts18_ HL250_1.out) hg hat); replace HB := Aside0.mk (hb); have HO255 := Aside0.mk (ho); clear HO_4; clear ho hb hg hat; obtain ⟨Ao16, co16, eo16⟩ := Kd.S_slice HO255.out; subst eo16; have p256 : 0 ≤ (x6_2 : Int) := of_decide_eq_true ts24_; have q256 : x6_2 < (y253.length : Int) := of_decide_eq_true ts24_; obtain ⟨ad256, A256_1, c256_1, e256, hx256_0, hx256_1, hl256_1, hi256_1⟩ := at_T35 (Kd.S_reads' HO255.out).2.2 x6_2 p256 q256; cases e256; obtain ⟨ce256, hce256, hMe256, hcc256⟩ := Kd.S_get HO255.out z35 x6_2 p256 (ts38_ HO255.out); obtain ⟨ve256_1, rfl, ge256_1⟩ := k35_openM hMe256; have hv256_1 := hcc256 1 _ rfl; rw [add_field _ _ 1 (by omega)] at hv256_1; replace hv256_1 := Option.some.inj (hv256_1.symm.trans hx256_1); rw [hv256_1] at ge256_1; have HL256_1 := Aside0.mk (show Kd.R (Kd.int .i64) 3 _ _ _ _ ((rd_T35 y253 x6_2).f1) from ge256_1); clear hv256_1 ge256_1; have HX256_1 := Aside0.mk hx256_1; clear hcc256 hce256; have HR256_1 := Aside0.mk hi256_1; have HC256_1 := Aside0.mk hl256_1; clear hi256_1 hl256_1; replace p256 := eq_true p256; replace q256 := eq_true q256; obtain ⟨go17, co17, eo17, gb17, gl17, cl17, HG17⟩ := Kd.S_form HO255.out (by have h_ : (x6_2 : Int) < ((y253.length : Int) : Int) := of_decide_eq_true ts24_; have h2_ : 0 ≤ (x6_2 : Int) := (of_decide_eq_true ts24_); omega); (first | cases eo17 | (injection eo17 with ea_ en_ ec_; (first | subst ea_ | (injection ea_ with ea_; subst ea_)); subst ec_; clear en_)); have GB17 := Aside0.mk gb17; have GG17 := Aside0.mk HG17; clear gb17 gl17 HG17; (first | simp only [add_plain] at hx256_0 | skip); (first | simp only [add_plain] at hx256_1 | skip); obtain ⟨oki17, ce17, hcl17, hM17, hcc17, _, _, hH17⟩ := Kd.S_elem HO255.out z35 (x6_2 : Int) (of_decide_eq_true ts24_) (by have h_ : (x6_2 : Int) < ((y253.length : Int) : Int) := of_decide_eq_true ts24_; first | exact h_ | (have e_ := (Kd.S_reads' HO255.out).1; omega) | simpa using h_); obtain ⟨ve17_1, rfl, ge17_1⟩ := k35_openM hM17; have hv17 := hcc17 1 _ rfl; have hX17 := HX256_1.out; (try simp only [add_plain] at hX17); (try simp only [Nat.add_zero] at hv17); replace hv17 := Option.some.inj (hv17.symm.trans hX17); subst hv17; clear hX17 hcc17 hcl17; have UU17 := Aside0.mk (show Kd.R (Kd.int .i64) 3 _ w.heap.size oki17 (.slice A256_1 ((rd_T35 y253 x6_2).f1).length c256_1) ((rd_T35 y253 x6_2).f1) from ge17_1); have HH17 := Aside0.mk hH17; have HN17 := Aside0.mk (Kd.S_reads' HO255.out).1; clear hH17 ge17_1) | ((with_reducible refine gate_builtin (b := .append) (xs := #[.tmp 52, .tmp 54]) rfl ?_); at_builtin; refine Kd.R_append (Kd.int .i64) (w0 := w) w.heap.size rfl (.tmp 52) (.tmp 54) 30 3 (.int .i64 0) 8 rfl Tryd.underlying30 info3 rfl (by decide) (by omega) (.slice A256_1 ((rd_T35 y253 x6_2).f1).length c256_1) ((rd_T35 y253 x6_2).f1) x5_1 [.int .i64 x5_1] (fun k_ => oki17 k_ ∨ ((fun _ => True)) k_ ∧ w15.heap.size ≤ k_) (fun _ => False) rfl rfl ?aP (fun _ hk => hk.elim) ?aF ?aO ?aB ?aS ?aL ?_; (case aP => exact rfl); (case aB => exact (ts29_ HB.out)); (case aF => exact ts4_); (case aO => exact (ts20_ UU17.out)); (case aS => exact ts40_ HB.out); (case aL => have := LMc12.out; omega); intro v258 w18 ho hb hg hat; rw [← Ny257.out] at ho; replace HB := Aside0.mk (hb); replace HH17 := Aside0.mk (Kd.H_grown (Kd.H_widen (ts10_ HH17.out)) hg (fun k_ e_ => .inl (UU17.out.1 k_ e_))); have HO259 := Aside0.mk (ho); clear HO255 UU17 HL250_1 HL256_1; clear ho hb hg hat; have p13 : 0 ≤ (x6_2 : Int) := of_decide_eq_true ts24_; have q13 : (x6_2 : Int) < ((y253.length : Int) : Int) := of_decide_eq_true ts24_; replace p13 := eq_true p13; replace q13 := eq_true q13; obtain ⟨Ao21, co21, eo21⟩ := Kd.R_slice HO259.out; subst eo21; obtain ⟨_, _, hraw19, _, _, hcc19, _⟩ := Kd.H_raw HH17.out (of_decide_eq_true ts24_) (by have h_ : (x6_2 : Int) < ((y253.length : Int) : Int) := of_decide_eq_true ts24_; first | exact h_ | (have e_ := (HN17.out); omega) | simpa using h_); obtain ⟨_, hfr19⟩ := Kd.H_at HH17.out (of_decide_eq_true ts24_) (by have h_ : (x6_2 : Int) < ((y253.length : Int) : Int) := of_decide_eq_true ts24_; first | exact h_ | (have e_ := (HN17.out); omega) | simpa using h_); have hx19_0 := hcc19 1 _ rfl; have hf19_0 := hfr19 1; (try rw [show (k35).sz = 2 from rfl] at hx19_0); (try rw [show (k35).sz = 2 from rfl] at hf19_0); have HP19 := Kd.S_seg0 HH17.out (of_decide_eq_true ts24_) (by have h_ : (x6_2 : Int) < ((y253.length : Int) : Int) := of_decide_eq_true ts24_; first | exact h_ | (have e_ := (HN17.out); omega) | simpa using h_) (seg := [.slice Ao21 y257.length co21]) (j := 1) (show 2 ≤ 2 from by decide) (x' := (⟨(rd_T35 y253 x6_2).f0, y257⟩ : S35)) (k35_mkM _ _ _ (⟨(rd_T35 y253 x6_2).f0, y257⟩ : S35) HO259.out) (fun _ hk => hk); clear hcc19 hfr19) | ((with_reducible refine gate_store (t := 30) (p := 57) rfl ?_); (try (rw [drewN_self w18]; generalize hq_ : World.drewN w18 _ = w18; replace HO255 := Aside0.mk (Kd.S_at hq_ HO255.out); replace HB := Aside0.mk (below_at hq_ HB.out); clear hq_; (try (obtain ⟨Ao21, co21, eo21⟩ := Kd.R_slice HO259.out)); (try (subst eo21)); (try (obtain ⟨_, _, hraw19, _, _, hcc19, _⟩ := Kd.H_raw HH17.out (of_decide_eq_true ts24_) (by have h_ : (x6_2 : Int) < ((y253.length : Int) : Int) := of_decide_eq_true ts24_; first | exact h_ | (have e_ := (HN17.out); omega) | simpa using h_))); (try (obtain ⟨_, hfr19⟩ := Kd.H_at HH17.out (of_decide_eq_true ts24_) (by have h_ : (x6_2 : Int) < ((y253.length : Int) : Int) := of_decide_eq_true ts24_; first | exact h_ | (have e_ := (HN17.out); omega) | simpa using h_))); (try (have hx19_0 := hcc19 1 _ rfl)); (try (have hf19_0 := hfr19 1)); (try (try rw [show (k35).sz = 2 from rfl] at hx19_0)); (try (try rw [show (k35).sz = 2 from rfl] at hf19_0)); (try (have HP19 := Kd.S_seg0 HH17.out (of_decide_eq_true ts24_) (by have h_ : (x6_2 : Int) < ((y253.length : Int) : Int) := of_decide_eq_true ts24_; first | exact h_ | (have e_ := (HN17.out); omega) | simpa using h_) (seg := [.slice Ao21 y257.length co21]) (j := 1) (show 2 ≤ 2 from by decide) (x' := (⟨(rd_T35 y253 x6_2).f0, y257⟩ : S35)) (k35_mkM _ _ _ (⟨(rd_T35 y253 x6_2).f0, y257⟩ : S35) HO259.out) (fun _ hk => hk))); (try (clear hcc19 hfr19)))); refine store_event (t := 30) (p := 57) (v := ?vo_w20) (w1 := (w18.setCell ⟨go17, (x6_2 : Int).toNat * 2 + 1, none⟩ (.slice Ao21 y257.length co21))) ?hg ?ho ?hn ?hr ?_; (case ho => rfl); (case hg => rfl); (case hn => rfl); (case hr => exact ts15_); intro w20 hw; have hg : w18.grownBy w20 (some go17) := (by rw [hw]; exact HP19.2); have hp_ : Kd.S k35 35 w20 w.heap.size (fun _ => True) (.slice (some ⟨go17, 0, none⟩) y253.length co16) y260 := (by rw [hw, Ny260.out]; exact HP19.1); clear HP19; replace HB := Aside0.mk ((by rw [hw]; exact below_set HB.out GB17.out : Below w.heap.size w w20)); have HO255 := Aside0.mk (hp_); clear HO259 HH17; clear hg hw hp_ hraw19)))
               go_roundg k2
               case measure => have := HK1.out; have := HK2.out; omega
               case rel => exact ⟨(y260), (wrap64 (x5_1 + 1)), ts28_, H', ⟨by have := HK1.out; have := HK2.out; omega⟩, ⟨ts30_ HO255.out⟩, ⟨ts29_ HB.out⟩⟩
              rw [if_neg c12] at H
              exact absurd H (by simp)
             rw [if_neg c11] at H
             exact absurd H (by simp)
            rw [if_neg c10] at H
            exact absurd H (by simp)
           rw [if_neg c9] at H
           have c9b0 : (x6_2 == (x4_1.length : Int)) = false := beq_eq_false_iff_ne.mpr c9
           have c9b1 : (x6_2 != (x4_1.length : Int)) = true := bne_iff_ne.mpr c9
           by_cases c22 : ((rd_T35 x4_1 x6_2).f1).length < 17592186044416
           ·rw [if_pos c22] at H
            have LMc22 := Aside0.mk c22
            clear c22
            obtain ⟨y262, hy262⟩ : ∃ y_ : List Int, y_ = (((rd_T35 x4_1 x6_2).f1) ++ [x5_1]) := ⟨_, rfl⟩
            replace H : (cupelref35_Groups.l0 k2 l0 (x4_1.set (x6_2 : Int).toNat (⟨(rd_T35 x4_1 x6_2).f0, y262⟩ : S35)) (wrap64 (x5_1 + 1))) = some (r1, r2) := by first | (rw [hy262]; with_reducible exact H) | (have H2_ := (Option.bind_some _ _).symm.trans H; rw [hy262]; with_reducible exact H2_) | (have H2_ := (Option.bind_some _ _).symm.trans H; with_reducible exact H2_) | with_reducible exact H | (rw [hy262]; exact H) | exact H
            have Ny262 := Aside0.mk hy262
            clear hy262
            obtain ⟨y265, hy265⟩ : ∃ y_ : List (S35), y_ = (x4_1.set (x6_2 : Int).toNat (⟨(rd_T35 x4_1 x6_2).f0, y262⟩ : S35)) := ⟨_, rfl⟩
            replace H : (cupelref35_Groups.l0 k2 l0 y265 (wrap64 (x5_1 + 1))) = some (r1, r2) := by first | (rw [hy265]; with_reducible exact H) | (have H2_ := (Option.bind_some _ _).symm.trans H; rw [hy265]; with_reducible exact H2_) | (have H2_ := (Option.bind_some _ _).symm.trans H; with_reducible exact H2_) | with_reducible exact H | (rw [hy265]; exact H) | exact H
            have Ny265 := Aside0.mk hy265
            clear hy265
            have H' := Aside0.mk H
            clear H
            obtain ⟨Ao24, co24, eo24⟩ := Kd.S_slice HO_4.out
            subst eo24
            have p250 : 0 ≤ (x6_2 : Int) := of_decide_eq_true ts24_
            have q250 : x6_2 < (x4_1.length : Int) := of_decide_eq_true ts24_
            obtain ⟨ad250, A250_1, c250_1, e250, hx250_0, hx250_1, hl250_1, hi250_1⟩ := at_T35 (Kd.S_reads' HO_4.out).2.2 x6_2 p250 q250
            cases e250
            obtain ⟨ce250, hce250, hMe250, hcc250⟩ := Kd.S_get HO_4.out z35 x6_2 p250 (ts35_ HO_4.out)
            obtain ⟨ve250_1, rfl, ge250_1⟩ := k35_openM hMe250
            have hv250_1 := hcc250 1 _ rfl
            rw [add_field _ _ 1 (by omega)] at hv250_1
            replace hv250_1 := Option.some.inj (hv250_1.symm.trans hx250_1)
            rw [hv250_1] at ge250_1
            have HL250_1 := Aside0.mk (show Kd.R (Kd.int .i64) 3 _ _ _ _ ((rd_T35 x4_1 x6_2).f1) from ge250_1)
            clear hv250_1 ge250_1
            have HX250_1 := Aside0.mk hx250_1
            clear hcc250 hce250
            have HR250_1 := Aside0.mk hi250_1
            have HC250_1 := Aside0.mk hl250_1
            clear hi250_1 hl250_1
            replace p250 := eq_true p250
            replace q250 := eq_true q250
            have p251 : 0 ≤ (x5_1 : Int) := of_decide_eq_true ts24_
            have q251 : x5_1 < (l0.length : Int) := of_decide_eq_true ts24_
            obtain ⟨ad251, e251, hx251_0⟩ := Kd.at_string HR0.out x5_1 p251 q251
            cases e251
            replace hx251_0 := (HB.out.cell (World.block_lt_of_cell? w _ hx251_0)).trans hx251_0
            replace p251 := eq_true p251
            replace q251 := eq_true q251
            have p261 : 0 ≤ (x6_2 : Int) := of_decide_eq_true ts24_
            have q261 : x6_2 < (x4_1.length : Int) := of_decide_eq_true ts24_
            obtain ⟨ad261, A261_1, c261_1, e261, hx261_0, hx261_1, hl261_1, hi261_1⟩ := at_T35 (Kd.S_reads' HO_4.out).2.2 x6_2 p261 q261
            obtain rfl : ad250 = ad261 := (by injection e261)
            obtain ⟨ce261, hce261, hMe261, hcc261⟩ := Kd.S_get HO_4.out z35 x6_2 p261 (by first | exact q261 | exact of_decide_eq_true ts24_ | (have e_ := (Kd.S_reads' HO_4.out).1; omega))
            obtain ⟨ve261_1, rfl, ge261_1⟩ := k35_openM hMe261
            have hv261_1 := hcc261 1 _ rfl
            rw [add_field _ _ 1 (by omega)] at hv261_1
            replace hv261_1 := Option.some.inj (hv261_1.symm.trans hx261_1)
            rw [hv261_1] at ge261_1
            have HL261_1 := Aside0.mk (show Kd.R (Kd.int .i64) 3 _ _ _ _ ((rd_T35 x4_1 x6_2).f1) from ge261_1)
            clear hv261_1 ge261_1
            have HX261_1 := Aside0.mk hx261_1
            clear hcc261 hce261
            have HR261_1 := Aside0.mk hi261_1
            have HC261_1 := Aside0.mk hl261_1
            clear hi261_1 hl261_1
            replace p261 := eq_true p261
            replace q261 := eq_true q261
            have ea_ := Option.some.inj (hx250_1.symm.trans hx261_1)
            injection ea_ with ea_ en_ ec_
            subst ea_
            subst ec_
            clear en_
            obtain ⟨go25, co25, eo25, gb25, gl25, cl25, HG25⟩ := Kd.S_form HO_4.out (by have h_ : (x6_2 : Int) < ((x4_1.length : Int) : Int) := of_decide_eq_true ts24_; have h2_ : 0 ≤ (x6_2 : Int) := (of_decide_eq_true ts24_); omega)
            (first | cases eo25 | (injection eo25 with ea_ en_ ec_; (first | subst ea_ | (injection ea_ with ea_; subst ea_)); subst ec_; clear en_))
            have GB25 := Aside0.mk gb25
            have GG25 := Aside0.mk HG25
            clear gb25 gl25 HG25
            (first | simp only [add_plain] at hx250_0 | skip)
            (first | simp only [add_plain] at hx250_1 | skip)
            (first | simp only [add_plain] at hx261_0 | skip)
            (first | simp only [add_plain] at hx261_1 | skip)
            obtain ⟨oki25, ce25, hcl25, hM25, hcc25, _, _, hH25⟩ := Kd.S_elem HO_4.out z35 (x6_2 : Int) (of_decide_eq_true ts24_) (by have h_ : (x6_2 : Int) < ((x4_1.length : Int) : Int) := of_decide_eq_true ts24_; first | exact h_ | (have e_ := (Kd.S_reads' HO_4.out).1; omega) | simpa using h_)
            obtain ⟨ve25_1, rfl, ge25_1⟩ := k35_openM hM25
            have hv25 := hcc25 1 _ rfl
            have hX25 := HX261_1.out
            (try simp only [add_plain] at hX25)
            (try simp only [Nat.add_zero] at hv25)
            replace hv25 := Option.some.inj (hv25.symm.trans hX25)
            subst hv25
            clear hX25 hcc25 hcl25
            have UU25 := Aside0.mk (show Kd.R (Kd.int .i64) 3 _ w.heap.size oki25 (.slice A250_1 ((rd_T35 x4_1 x6_2).f1).length c250_1) ((rd_T35 x4_1 x6_2).f1) from ge25_1)
            have HH25 := Aside0.mk hH25
            have HN25 := Aside0.mk (Kd.S_reads' HO_4.out).1
            clear hH25 ge25_1
            go_wp2_with (first | ((with_reducible refine gate_builtin (b := .append) (xs := #[.tmp 52, .tmp 54]) rfl ?_); at_builtin; refine Kd.R_append (Kd.int .i64) (w0 := w) w.heap.size rfl (.tmp 52) (.tmp 54) 30 3 (.int .i64 0) 8 rfl Tryd.underlying30 info3 rfl (by decide) (by omega) (.slice A250_1 ((rd_T35 x4_1 x6_2).f1).length c250_1) ((rd_T35 x4_1 x6_2).f1) x5_1 [.int .i64 x5_1] (fun k_ => oki25 k_ ∨ ((fun _ => True)) k_ ∧ wr.heap.size ≤ k_) (fun _ => False) rfl rfl ?aP (fun _ hk => hk.elim) ?aF ?aO ?aB ?aS ?aL ?_; (case aP => exact rfl); (case aB => exact (ts29_ HB.out)); (case aF => exact ts4_); (case aO => exact (ts20_ UU25.out)); (case aS => exact ts40_ HB.out); (case aL => have := LMc22.out; omega); intro v263 w26 ho hb hg hat; rw [← Ny262.out] at ho; replace HB := Aside0.mk (hb); replace HH25 := Aside0.mk (Kd.H_grown (Kd.H_widen (ts10_ HH25.out)) hg (fun k_ e_ => .inl (UU25.out.1 k_ e_))); have HO264 := Aside0.mk (ho); clear HO_4 UU25 HL250_1 HL261_1; clear ho hb hg hat; have p23 : 0 ≤ (x6_2 : Int) := of_decide_eq_true ts24_; have q23 : (x6_2 : Int) < ((x4_1.length : Int) : Int) := of_decide_eq_true ts24_; replace p23 := eq_true p23; replace q23 := eq_true q23; obtain ⟨Ao29, co29, eo29⟩ := Kd.R_slice HO264.out; subst eo29; obtain ⟨_, _, hraw27, _, _, hcc27, _⟩ := Kd.H_raw HH25.out (of_decide_eq_true ts24_) (by have h_ : (x6_2 : Int) < ((x4_1.length : Int) : Int) := of_decide_eq_true ts24_; first | exact h_ | (have e_ := (HN25.out); omega) | simpa using h_); obtain ⟨_, hfr27⟩ := Kd.H_at HH25.out (of_decide_eq_true ts24_) (by have h_ : (x6_2 : Int) < ((x4_1.length : Int) : Int) := of_decide_eq_true ts24_; first | exact h_ | (have e_ := (HN25.out); omega) | simpa using h_); have hx27_0 := hcc27 1 _ rfl; have hf27_0 := hfr27 1; (try rw [show (k35).sz = 2 from rfl] at hx27_0); (try rw [show (k35).sz = 2 from rfl] at hf27_0); have HP27 := Kd.S_seg0 HH25.out (of_decide_eq_true ts24_) (by have h_ : (x6_2 : Int) < ((x4_1.length : Int) : Int) := of_decide_eq_true ts24_; first | exact h_ | (have e_ := (HN25.out); omega) | simpa using h_) (seg := [.slice Ao29 y262.length co29]) (j := 1) (show 2 ≤ 2 from by decide) (x' := (⟨(rd_T35 x4_1 x6_2).f0, y262⟩ : S35)) (k35_mkM _ _ _ (⟨(rd_T35 x4_1 x6_2).f0, y262⟩ : S35) HO264.out) (fun _ hk => hk); clear hcc27 hfr27) | ((with_reducible refine gate_store (t := 30) (p := 57) rfl ?_); (try (rw [drewN_self w26]; generalize hq_ : World.drewN w26 _ = w26; replace HO_4 := Aside0.mk (Kd.S_at hq_ HO_4.out); replace HB := Aside0.mk (below_at hq_ HB.out); clear hq_; (try (obtain ⟨Ao29, co29, eo29⟩ := Kd.R_slice HO264.out)); (try (subst eo29)); (try (obtain ⟨_, _, hraw27, _, _, hcc27, _⟩ := Kd.H_raw HH25.out (of_decide_eq_true ts24_) (by have h_ : (x6_2 : Int) < ((x4_1.length : Int) : Int) := of_decide_eq_true ts24_; first | exact h_ | (have e_ := (HN25.out); omega) | simpa using h_))); (try (obtain ⟨_, hfr27⟩ := Kd.H_at HH25.out (of_decide_eq_true ts24_) (by have h_ : (x6_2 : Int) < ((x4_1.length : Int) : Int) := of_decide_eq_true ts24_; first | exact h_ | (have e_ := (HN25.out); omega) | simpa using h_))); (try (have hx27_0 := hcc27 1 _ rfl)); (try (have hf27_0 := hfr27 1)); (try (try rw [show (k35).sz = 2 from rfl] at hx27_0)); (try (try rw [show (k35).sz = 2 from rfl] at hf27_0)); (try (have HP27 := Kd.S_seg0 HH25.out (of_decide_eq_true ts24_) (by have h_ : (x6_2 : Int) < ((x4_1.length : Int) : Int) := of_decide_eq_true ts24_; first | exact h_ | (have e_ := (HN25.out); omega) | simpa using h_) (seg := [.slice Ao29 y262.length co29]) (j := 1) (show 2 ≤ 2 from by decide) (x' := (⟨(rd_T35 x4_1 x6_2).f0, y262⟩ : S35)) (k35_mkM _ _ _ (⟨(rd_T35 x4_1 x6_2).f0, y262⟩ : S35) HO264.out) (fun _ hk => hk))); (try (clear hcc27 hfr27)))); refine store_event (t := 30) (p := 57) (v := ?vo_w28) (w1 := (w26.setCell ⟨go25, (x6_2 : Int).toNat * 2 + 1, none⟩ (.slice Ao29 y262.length co29))) ?hg ?ho ?hn ?hr ?_; (case ho => rfl); (case hg => rfl); (case hn => rfl); (case hr => exact ts15_); intro w28 hw; have hg : w26.grownBy w28 (some go25) := (by rw [hw]; exact HP27.2); have hp_ : Kd.S k35 35 w28 w.heap.size (fun _ => True) (.slice (some ⟨go25, 0, none⟩) x4_1.length co24) y265 := (by rw [hw, Ny265.out]; exact HP27.1); clear HP27; replace HB := Aside0.mk ((by rw [hw]; exact below_set HB.out GB25.out : Below w.heap.size w w28)); have HO_4 := Aside0.mk (hp_); clear HO264 HH25; clear hg hw hp_ hraw27))
            repeat (go_quiet (first | ((with_reducible refine gate_builtin (b := .append) (xs := #[.tmp 52, .tmp 54]) rfl ?_); at_builtin; refine Kd.R_append (Kd.int .i64) (w0 := w) w.heap.size rfl (.tmp 52) (.tmp 54) 30 3 (.int .i64 0) 8 rfl Tryd.underlying30 info3 rfl (by decide) (by omega) (.slice A250_1 ((rd_T35 x4_1 x6_2).f1).length c250_1) ((rd_T35 x4_1 x6_2).f1) x5_1 [.int .i64 x5_1] (fun k_ => oki25 k_ ∨ ((fun _ => True)) k_ ∧ wr.heap.size ≤ k_) (fun _ => False) rfl rfl ?aP (fun _ hk => hk.elim) ?aF ?aO ?aB ?aS ?aL ?_; (case aP => exact rfl); (case aB => exact (ts29_ HB.out)); (case aF => exact ts4_); (case aO => exact (ts20_ UU25.out)); (case aS => exact ts40_ HB.out); (case aL => have := LMc22.out; omega); intro v263 w26 ho hb hg hat; rw [← Ny262.out] at ho; replace HB := Aside0.mk (hb); replace HH25 := Aside0.mk (Kd.H_grown (Kd.H_widen (ts10_ HH25.out)) hg (fun k_ e_ => .inl (UU25.out.1 k_ e_))); have HO264 := Aside0.mk (ho); clear HO_4 UU25 HL250_1 HL261_1; clear ho hb hg hat; have p23 : 0 ≤ (x6_2 : Int) := of_decide_eq_true ts24_; have q23 : (x6_2 : Int) < ((x4_1.length : Int) : Int) := of_decide_eq_true ts24_; replace p23 := eq_true p23; replace q23 := eq_true q23; obtain ⟨Ao29, co29, eo29⟩ := Kd.R_slice HO264.out; subst eo29; obtain ⟨_, _, hraw27, _, _, hcc27, _⟩ := Kd.H_raw HH25.out (of_decide_eq_true ts24_) (by have h_ : (x6_2 : Int) < ((x4_1.length : Int) : Int) := of_decide_eq_true ts24_; first | exact h_ | (have e_ := (HN25.out); omega) | simpa using h_); obtain ⟨_, hfr27⟩ := Kd.H_at HH25.out (of_decide_eq_true ts24_) (by have h_ : (x6_2 : Int) < ((x4_1.length : Int) : Int) := of_decide_eq_true ts24_; first | exact h_ | (have e_ := (HN25.out); omega) | simpa using h_); have hx27_0 := hcc27 1 _ rfl; have hf27_0 := hfr27 1; (try rw [show (k35).sz = 2 from rfl] at hx27_0); (try rw [show (k35).sz = 2 from rfl] at hf27_0); have HP27 := Kd.S_seg0 HH25.out (of_decide_eq_true ts24_) (by have h_ : (x6_2 : Int) < ((x4_1.length : Int) : Int) := of_decide_eq_true ts24_; first | exact h_ | (have e_ := (HN25.out); omega) | simpa using h_) (seg := [.slice Ao29 y262.length co29]) (j := 1) (show 2 ≤ 2 from by decide) (x' := (⟨(rd_T35 x4_1 x6_2).f0, y262⟩ : S35)) (k35_mkM _ _ _ (⟨(rd_T35 x4_1 x6_2).f0, y262⟩ : S35) HO264.out) (fun _ hk => hk); clear hcc27 hfr27) | ((with_reducible refine gate_store (t := 30) (p := 57) rfl ?_); (try (rw [drewN_self w26]; generalize hq_ : World.drewN w26 _ = w26; replace HO_4 := Aside0.mk (Kd.S_at hq_ HO_4.out); replace HB := Aside0.mk (below_at hq_ HB.out); clear hq_; (try (obtain ⟨Ao29, co29, eo29⟩ := Kd.R_slice HO264.out)); (try (subst eo29)); (try (obtain ⟨_, _, hraw27, _, _, hcc27, _⟩ := Kd.H_raw HH25.out (of_decide_eq_true ts24_) (by have h_ : (x6_2 : Int) < ((x4_1.length : Int) : Int) := of_decide_eq_true ts24_; first | exact h_ | (have e_ := (HN25.out); omega) | simpa using h_))); (try (obtain ⟨_, hfr27⟩ := Kd.H_at HH25.out (of_decide_eq_true ts24_) (by have h_ : (x6_2 : Int) < ((x4_1.length : Int) : Int) := of_decide_eq_true ts24_; first | exact h_ | (have e_ := (HN25.out); omega) | simpa using h_))); (try (have hx27_0 := hcc27 1 _ rfl)); (try (have hf27_0 := hfr27 1)); (try (try rw [show (k35).sz = 2 from rfl] at hx27_0)); (try (try rw [show (k35).sz = 2 from rfl] at hf27_0)); (try (have HP27 := Kd.S_seg0 HH25.out (of_decide_eq_true ts24_) (by have h_ : (x6_2 : Int) < ((x4_1.length : Int) : Int) := of_decide_eq_true ts24_; first | exact h_ | (have e_ := (HN25.out); omega) | simpa using h_) (seg := [.slice Ao29 y262.length co29]) (j := 1) (show 2 ≤ 2 from by decide) (x' := (⟨(rd_T35 x4_1 x6_2).f0, y262⟩ : S35)) (k35_mkM _ _ _ (⟨(rd_T35 x4_1 x6_2).f0, y262⟩ : S35) HO264.out) (fun _ hk => hk))); (try (clear hcc27 hfr27)))); refine store_event (t := 30) (p := 57) (v := ?vo_w28) (w1 := (w26.setCell ⟨go25, (x6_2 : Int).toNat * 2 + 1, none⟩ (.slice Ao29 y262.length co29))) ?hg ?ho ?hn ?hr ?_; (case ho => rfl); (case hg => rfl); (case hn => rfl); (case hr => exact ts15_); intro w28 hw; have hg : w26.grownBy w28 (some go25) := (by rw [hw]; exact HP27.2); have hp_ : Kd.S k35 35 w28 w.heap.size (fun _ => True) (.slice (some ⟨go25, 0, none⟩) x4_1.length co24) y265 := (by rw [hw, Ny265.out]; exact HP27.1); clear HP27; replace HB := Aside0.mk ((by rw [hw]; exact below_set HB.out GB25.out : Below w.heap.size w w28)); have HO_4 := Aside0.mk (hp_); clear HO264 HH25; clear hg hw hp_ hraw27)); try go_wp2_with (first | ((with_reducible refine gate_builtin (b := .append) (xs := #[.tmp 52, .tmp 54]) rfl ?_); at_builtin; refine Kd.R_append (Kd.int .i64) (w0 := w) w.heap.size rfl (.tmp 52) (.tmp 54) 30 3 (.int .i64 0) 8 rfl Tryd.underlying30 info3 rfl (by decide) (by omega) (.slice A250_1 ((rd_T35 x4_1 x6_2).f1).length c250_1) ((rd_T35 x4_1 x6_2).f1) x5_1 [.int .i64 x5_1] (fun k_ => oki25 k_ ∨ ((fun _ => True)) k_ ∧ wr.heap.size ≤ k_) (fun _ => False) rfl rfl ?aP (fun _ hk => hk.elim) ?aF ?aO ?aB ?aS ?aL ?_; (case aP => exact rfl); (case aB => exact (ts29_ HB.out)); (case aF => exact ts4_); (case aO => exact (ts20_ UU25.out)); (case aS => exact ts40_ HB.out); (case aL => have := LMc22.out; omega); intro v263 w26 ho hb hg hat; rw [← Ny262.out] at ho; replace HB := Aside0.mk (hb); replace HH25 := Aside0.mk (Kd.H_grown (Kd.H_widen (ts10_ HH25.out)) hg (fun k_ e_ => .inl (UU25.out.1 k_ e_))); have HO264 := Aside0.mk (ho); clear HO_4 UU25 HL250_1 HL261_1; clear ho hb hg hat; have p23 : 0 ≤ (x6_2 : Int) := of_decide_eq_true ts24_; have q23 : (x6_2 : Int) < ((x4_1.length : Int) : Int) := of_decide_eq_true ts24_; replace p23 := eq_true p23; replace q23 := eq_true q23; obtain ⟨Ao29, co29, eo29⟩ := Kd.R_slice HO264.out; subst eo29; obtain ⟨_, _, hraw27, _, _, hcc27, _⟩ := Kd.H_raw HH25.out (of_decide_eq_true ts24_) (by have h_ : (x6_2 : Int) < ((x4_1.length : Int) : Int) := of_decide_eq_true ts24_; first | exact h_ | (have e_ := (HN25.out); omega) | simpa using h_); obtain ⟨_, hfr27⟩ := Kd.H_at HH25.out (of_decide_eq_true ts24_) (by have h_ : (x6_2 : Int) < ((x4_1.length : Int) : Int) := of_decide_eq_true ts24_; first | exact h_ | (have e_ := (HN25.out); omega) | simpa using h_); have hx27_0 := hcc27 1 _ rfl; have hf27_0 := hfr27 1; (try rw [show (k35).sz = 2 from rfl] at hx27_0); (try rw [show (k35).sz = 2 from rfl] at hf27_0); have HP27 := Kd.S_seg0 HH25.out (of_decide_eq_true ts24_) (by have h_ : (x6_2 : Int) < ((x4_1.length : Int) : Int) := of_decide_eq_true ts24_; first | exact h_ | (have e_ := (HN25.out); omega) | simpa using h_) (seg := [.slice Ao29 y262.length co29]) (j := 1) (show 2 ≤ 2 from by decide) (x' := (⟨(rd_T35 x4_1 x6_2).f0, y262⟩ : S35)) (k35_mkM _ _ _ (⟨(rd_T35 x4_1 x6_2).f0, y262⟩ : S35) HO264.out) (fun _ hk => hk); clear hcc27 hfr27) | ((with_reducible refine gate_store (t := 30) (p := 57) rfl ?_); (try (rw [drewN_self w26]; generalize hq_ : World.drewN w26 _ = w26; replace HO_4 := Aside0.mk (Kd.S_at hq_ HO_4.out); replace HB := Aside0.mk (below_at hq_ HB.out); clear hq_; (try (obtain ⟨Ao29, co29, eo29⟩ := Kd.R_slice HO264.out)); (try (subst eo29)); (try (obtain ⟨_, _, hraw27, _, _, hcc27, _⟩ := Kd.H_raw HH25.out (of_decide_eq_true ts24_) (by have h_ : (x6_2 : Int) < ((x4_1.length : Int) : Int) := of_decide_eq_true ts24_; first | exact h_ | (have e_ := (HN25.out); omega) | simpa using h_))); (try (obtain ⟨_, hfr27⟩ := Kd.H_at HH25.out (of_decide_eq_true ts24_) (by have h_ : (x6_2 : Int) < ((x4_1.length : Int) : Int) := of_decide_eq_true ts24_; first | exact h_ | (have e_ := (HN25.out); omega) | simpa using h_))); (try (have hx27_0 := hcc27 1 _ rfl)); (try (have hf27_0 := hfr27 1)); (try (try rw [show (k35).sz = 2 from rfl] at hx27_0)); (try (try rw [show (k35).sz = 2 from rfl] at hf27_0)); (try (have HP27 := Kd.S_seg0 HH25.out (of_decide_eq_true ts24_) (by have h_ : (x6_2 : Int) < ((x4_1.length : Int) : Int) := of_decide_eq_true ts24_; first | exact h_ | (have e_ := (HN25.out); omega) | simpa using h_) (seg := [.slice Ao29 y262.length co29]) (j := 1) (show 2 ≤ 2 from by decide) (x' := (⟨(rd_T35 x4_1 x6_2).f0, y262⟩ : S35)) (k35_mkM _ _ _ (⟨(rd_T35 x4_1 x6_2).f0, y262⟩ : S35) HO264.out) (fun _ hk => hk))); (try (clear hcc27 hfr27)))); refine store_event (t := 30) (p := 57) (v := ?vo_w28) (w1 := (w26.setCell ⟨go25, (x6_2 : Int).toNat * 2 + 1, none⟩ (.slice Ao29 y262.length co29))) ?hg ?ho ?hn ?hr ?_; (case ho => rfl); (case hg => rfl); (case hn => rfl); (case hr => exact ts15_); intro w28 hw; have hg : w26.grownBy w28 (some go25) := (by rw [hw]; exact HP27.2); have hp_ : Kd.S k35 35 w28 w.heap.size (fun _ => True) (.slice (some ⟨go25, 0, none⟩) x4_1.length co24) y265 := (by rw [hw, Ny265.out]; exact HP27.1); clear HP27; replace HB := Aside0.mk ((by rw [hw]; exact below_set HB.out GB25.out : Below w.heap.size w w28)); have HO_4 := Aside0.mk (hp_); clear HO264 HH25; clear hg hw hp_ hraw27)))
            go_roundg k2
            case measure => have := HK1.out; have := HK2.out; omega
            case rel => exact ⟨(y265), (wrap64 (x5_1 + 1)), ts28_, H', ⟨by have := HK1.out; have := HK2.out; omega⟩, ⟨ts30_ HO_4.out⟩, ⟨ts29_ HB.out⟩⟩
           rw [if_neg c22] at H
           exact absurd H (by simp)
          rw [if_neg c8] at H
          have c8b0 : (((rd_T35 x4_1 x6_2).f0).toList == (rdOf ByteArray.empty l0 x5_1).toList) = false := beq_eq_false_iff_ne.mpr c8
          have c8b1 : (((rd_T35 x4_1 x6_2).f0).toList != (rdOf ByteArray.empty l0 x5_1).toList) = true := bne_iff_ne.mpr c8
          have H' := Aside0.mk H
          clear H
          obtain ⟨Ao30, co30, eo30⟩ := Kd.S_slice HO_4.out
          subst eo30
          have p250 : 0 ≤ (x6_2 : Int) := of_decide_eq_true ts24_
          have q250 : x6_2 < (x4_1.length : Int) := of_decide_eq_true ts24_
          obtain ⟨ad250, A250_1, c250_1, e250, hx250_0, hx250_1, hl250_1, hi250_1⟩ := at_T35 (Kd.S_reads' HO_4.out).2.2 x6_2 p250 q250
          cases e250
          obtain ⟨ce250, hce250, hMe250, hcc250⟩ := Kd.S_get HO_4.out z35 x6_2 p250 (ts35_ HO_4.out)
          obtain ⟨ve250_1, rfl, ge250_1⟩ := k35_openM hMe250
          have hv250_1 := hcc250 1 _ rfl
          rw [add_field _ _ 1 (by omega)] at hv250_1
          replace hv250_1 := Option.some.inj (hv250_1.symm.trans hx250_1)
          rw [hv250_1] at ge250_1
          have HL250_1 := Aside0.mk (show Kd.R (Kd.int .i64) 3 _ _ _ _ ((rd_T35 x4_1 x6_2).f1) from ge250_1)
          clear hv250_1 ge250_1
          have HX250_1 := Aside0.mk hx250_1
          clear hcc250 hce250
          have HR250_1 := Aside0.mk hi250_1
          have HC250_1 := Aside0.mk hl250_1
          clear hi250_1 hl250_1
          replace p250 := eq_true p250
          replace q250 := eq_true q250
          have p251 : 0 ≤ (x5_1 : Int) := of_decide_eq_true ts24_
          have q251 : x5_1 < (l0.length : Int) := of_decide_eq_true ts24_
          obtain ⟨ad251, e251, hx251_0⟩ := Kd.at_string HR0.out x5_1 p251 q251
          cases e251
          replace hx251_0 := (HB.out.cell (World.block_lt_of_cell? w _ hx251_0)).trans hx251_0
          replace p251 := eq_true p251
          replace q251 := eq_true q251
          go_wp2
          repeat (go_quiet (fail); try go_wp2)
          go_roundg k2
          case measure => have := HK1.out; have := HK2.out; omega
          case rel => exact ⟨(wrap64 (x6_2 + 1)), ts28_, H', ⟨by have := HK1.out; have := HK2.out; omega⟩, ⟨ts30_ HO_4.out⟩, ⟨ts29_ HB.out⟩⟩
         rw [if_neg c7] at H
         exact absurd H (by simp)
        rw [if_neg c6] at H
        exact absurd H (by simp)
       rw [if_neg c5] at H
       exact absurd H (by simp)
      rw [if_neg c4] at H
      have c4b0 : decide (x6_2 < (x4_1.length : Int)) = false := decide_eq_false c4
      clear c4
      by_cases c31 : x6_2 = (x4_1.length : Int)
      ·rw [if_pos c31] at H
       have c31b0 : (x6_2 == (x4_1.length : Int)) = true := beq_iff_eq.mpr c31
       have c31b1 : (x6_2 != (x4_1.length : Int)) = false := bne_eq_false_iff_eq.mpr c31
       clear c31
       by_cases c32 : 0 ≤ x5_1
       ·rw [if_pos c32] at H
        have c32b0 : decide (0 ≤ x5_1) = true := decide_eq_true c32
        clear c32
        by_cases c33 : x5_1 < (l0.length : Int)
        ·rw [if_pos c33] at H
         have c33b0 : decide (x5_1 < (l0.length : Int)) = true := decide_eq_true c33
         clear c33
         by_cases c34 : x4_1.length < 3518437208883
         ·rw [if_pos c34] at H
          have LMc34 := Aside0.mk c34
          clear c34
          obtain ⟨y267, hy267⟩ : ∃ y_ : List (S35), y_ = (x4_1 ++ [(⟨rdOf ByteArray.empty l0 x5_1, ([] : List Int)⟩ : S35)]) := ⟨_, rfl⟩
          replace H : (if 0 ≤ x6_2 then (if x6_2 < (y267.length : Int) then (if ((rd_T35 y267 x6_2).f1).length < 17592186044416 then (cupelref35_Groups.l0 k2 l0 (y267.set (x6_2 : Int).toNat (⟨(rd_T35 y267 x6_2).f0, (((rd_T35 y267 x6_2).f1) ++ [x5_1])⟩ : S35)) (wrap64 (x5_1 + 1))) else (none)) else (none)) else (none)) = some (r1, r2) := by first | (rw [hy267]; with_reducible exact H) | (have H2_ := (Option.bind_some _ _).symm.trans H; rw [hy267]; with_reducible exact H2_) | (have H2_ := (Option.bind_some _ _).symm.trans H; with_reducible exact H2_) | with_reducible exact H | (rw [hy267]; exact H) | exact H
          have Ny267 := Aside0.mk hy267
          clear hy267
          by_cases c35 : 0 ≤ x6_2
          ·rw [if_pos c35] at H
           have c35b0 : decide (0 ≤ x6_2) = true := decide_eq_true c35
           clear c35
           by_cases c36 : x6_2 < (y267.length : Int)
           ·rw [if_pos c36] at H
            have c36b0 : decide (x6_2 < (y267.length : Int)) = true := decide_eq_true c36
            clear c36
            by_cases c37 : ((rd_T35 y267 x6_2).f1).length < 17592186044416
            ·rw [if_pos c37] at H
             have LMc37 := Aside0.mk c37
             clear c37
             obtain ⟨y271, hy271⟩ : ∃ y_ : List Int, y_ = (((rd_T35 y267 x6_2).f1) ++ [x5_1]) := ⟨_, rfl⟩
             replace H : (cupelref35_Groups.l0 k2 l0 (y267.set (x6_2 : Int).toNat (⟨(rd_T35 y267 x6_2).f0, y271⟩ : S35)) (wrap64 (x5_1 + 1))) = some (r1, r2) := by first | (rw [hy271]; with_reducible exact H) | (have H2_ := (Option.bind_some _ _).symm.trans H; rw [hy271]; with_reducible exact H2_) | (have H2_ := (Option.bind_some _ _).symm.trans H; with_reducible exact H2_) | with_reducible exact H | (rw [hy271]; exact H) | exact H
             have Ny271 := Aside0.mk hy271
             clear hy271
             obtain ⟨y274, hy274⟩ : ∃ y_ : List (S35), y_ = (y267.set (x6_2 : Int).toNat (⟨(rd_T35 y267 x6_2).f0, y271⟩ : S35)) := ⟨_, rfl⟩
             replace H : (cupelref35_Groups.l0 k2 l0 y274 (wrap64 (x5_1 + 1))) = some (r1, r2) := by first | (rw [hy274]; with_reducible exact H) | (have H2_ := (Option.bind_some _ _).symm.trans H; rw [hy274]; with_reducible exact H2_) | (have H2_ := (Option.bind_some _ _).symm.trans H; with_reducible exact H2_) | with_reducible exact H | (rw [hy274]; exact H) | exact H
             have Ny274 := Aside0.mk hy274
             clear hy274
             have H' := Aside0.mk H
             clear H
             obtain ⟨Ao39, co39, eo39⟩ := Kd.S_slice HO_4.out
             subst eo39
             have p266 : 0 ≤ (x5_1 : Int) := of_decide_eq_true ts24_
             have q266 : x5_1 < (l0.length : Int) := of_decide_eq_true ts24_
             obtain ⟨ad266, e266, hx266_0⟩ := Kd.at_string HR0.out x5_1 p266 q266
             cases e266
             replace hx266_0 := (HB.out.cell (World.block_lt_of_cell? w _ hx266_0)).trans hx266_0
             replace p266 := eq_true p266
             replace q266 := eq_true q266
             go_wp2_with (first | ((with_reducible refine gate_builtin (b := .append) (xs := #[.tmp 38, .tmp 44]) rfl ?_); at_builtin; refine Kd.S_append k35 (w0 := w) w.heap.size rfl (.tmp 38) (.tmp 44) 31 35 (.agg #[(.string ⟨#[]⟩), (.slice none 0 0)]) 40 rfl Tryd.underlying31 info35 rfl (by decide) (by omega) (.slice Ao39 x4_1.length co39) x4_1 (⟨rdOf ByteArray.empty l0 x5_1, ([] : List Int)⟩ : S35) [.string (rdOf ByteArray.empty l0 x5_1), .slice none 0 0] (fun _ => True) (fun _ => False) rfl rfl ?aP (fun k_ hk_ => hk_.elim) ?aF ?aO ?aB ?aS ?aL ?_; (case aP => exact ts11_); (case aB => exact (ts29_ HB.out)); (case aF => exact ts12_); (case aO => exact (ts2_ HO_4.out)); (case aS => exact ts40_ HB.out); (case aL => have := LMc34.out; omega); intro v268 w40 ho hb hg hat; rw [← Ny267.out] at ho; replace HB := Aside0.mk (hb); have HO269 := Aside0.mk (ho); clear HO_4; clear ho hb hg hat; obtain ⟨Ao41, co41, eo41⟩ := Kd.S_slice HO269.out; subst eo41; have p270 : 0 ≤ (x6_2 : Int) := of_decide_eq_true ts24_; have q270 : x6_2 < (y267.length : Int) := of_decide_eq_true ts24_; obtain ⟨ad270, A270_1, c270_1, e270, hx270_0, hx270_1, hl270_1, hi270_1⟩ := at_T35 (Kd.S_reads' HO269.out).2.2 x6_2 p270 q270; cases e270; obtain ⟨ce270, hce270, hMe270, hcc270⟩ := Kd.S_get HO269.out z35 x6_2 p270 (ts39_ HO269.out); obtain ⟨ve270_1, rfl, ge270_1⟩ := k35_openM hMe270; have hv270_1 := hcc270 1 _ rfl; rw [add_field _ _ 1 (by omega)] at hv270_1; replace hv270_1 := Option.some.inj (hv270_1.symm.trans hx270_1); rw [hv270_1] at ge270_1; have HL270_1 := Aside0.mk (show Kd.R (Kd.int .i64) 3 _ _ _ _ ((rd_T35 y267 x6_2).f1) from ge270_1); clear hv270_1 ge270_1; have HX270_1 := Aside0.mk hx270_1; clear hcc270 hce270; have HR270_1 := Aside0.mk hi270_1; have HC270_1 := Aside0.mk hl270_1; clear hi270_1 hl270_1; replace p270 := eq_true p270; replace q270 := eq_true q270; obtain ⟨go42, co42, eo42, gb42, gl42, cl42, HG42⟩ := Kd.S_form HO269.out (by have h_ : (x6_2 : Int) < ((y267.length : Int) : Int) := of_decide_eq_true ts24_; have h2_ : 0 ≤ (x6_2 : Int) := (of_decide_eq_true ts24_); omega); (first | cases eo42 | (injection eo42 with ea_ en_ ec_; (first | subst ea_ | (injection ea_ with ea_; subst ea_)); subst ec_; clear en_)); have GB42 := Aside0.mk gb42; have GG42 := Aside0.mk HG42; clear gb42 gl42 HG42; (first | simp only [add_plain] at hx270_0 | skip); (first | simp only [add_plain] at hx270_1 | skip); obtain ⟨oki42, ce42, hcl42, hM42, hcc42, _, _, hH42⟩ := Kd.S_elem HO269.out z35 (x6_2 : Int) (of_decide_eq_true ts24_) (by have h_ : (x6_2 : Int) < ((y267.length : Int) : Int) := of_decide_eq_true ts24_; first | exact h_ | (have e_ := (Kd.S_reads' HO269.out).1; omega) | simpa using h_); obtain ⟨ve42_1, rfl, ge42_1⟩ := k35_openM hM42; have hv42 := hcc42 1 _ rfl; have hX42 := HX270_1.out; (try simp only [add_plain] at hX42); (try simp only [Nat.add_zero] at hv42); replace hv42 := Option.some.inj (hv42.symm.trans hX42); subst hv42; clear hX42 hcc42 hcl42; have UU42 := Aside0.mk (show Kd.R (Kd.int .i64) 3 _ w.heap.size oki42 (.slice A270_1 ((rd_T35 y267 x6_2).f1).length c270_1) ((rd_T35 y267 x6_2).f1) from ge42_1); have HH42 := Aside0.mk hH42; have HN42 := Aside0.mk (Kd.S_reads' HO269.out).1; clear hH42 ge42_1) | ((with_reducible refine gate_builtin (b := .append) (xs := #[.tmp 52, .tmp 54]) rfl ?_); at_builtin; refine Kd.R_append (Kd.int .i64) (w0 := w) w.heap.size rfl (.tmp 52) (.tmp 54) 30 3 (.int .i64 0) 8 rfl Tryd.underlying30 info3 rfl (by decide) (by omega) (.slice A270_1 ((rd_T35 y267 x6_2).f1).length c270_1) ((rd_T35 y267 x6_2).f1) x5_1 [.int .i64 x5_1] (fun k_ => oki42 k_ ∨ ((fun _ => True)) k_ ∧ w40.heap.size ≤ k_) (fun _ => False) rfl rfl ?aP (fun _ hk => hk.elim) ?aF ?aO ?aB ?aS ?aL ?_; (case aP => exact rfl); (case aB => exact (ts29_ HB.out)); (case aF => exact ts4_); (case aO => exact (ts20_ UU42.out)); (case aS => exact ts40_ HB.out); (case aL => have := LMc37.out; omega); intro v272 w43 ho hb hg hat; rw [← Ny271.out] at ho; replace HB := Aside0.mk (hb); replace HH42 := Aside0.mk (Kd.H_grown (Kd.H_widen (ts10_ HH42.out)) hg (fun k_ e_ => .inl (UU42.out.1 k_ e_))); have HO273 := Aside0.mk (ho); clear HO269 UU42 HL270_1; clear ho hb hg hat; have p38 : 0 ≤ (x6_2 : Int) := of_decide_eq_true ts24_; have q38 : (x6_2 : Int) < ((y267.length : Int) : Int) := of_decide_eq_true ts24_; replace p38 := eq_true p38; replace q38 := eq_true q38; obtain ⟨Ao46, co46, eo46⟩ := Kd.R_slice HO273.out; subst eo46; obtain ⟨_, _, hraw44, _, _, hcc44, _⟩ := Kd.H_raw HH42.out (of_decide_eq_true ts24_) (by have h_ : (x6_2 : Int) < ((y267.length : Int) : Int) := of_decide_eq_true ts24_; first | exact h_ | (have e_ := (HN42.out); omega) | simpa using h_); obtain ⟨_, hfr44⟩ := Kd.H_at HH42.out (of_decide_eq_true ts24_) (by have h_ : (x6_2 : Int) < ((y267.length : Int) : Int) := of_decide_eq_true ts24_; first | exact h_ | (have e_ := (HN42.out); omega) | simpa using h_); have hx44_0 := hcc44 1 _ rfl; have hf44_0 := hfr44 1; (try rw [show (k35).sz = 2 from rfl] at hx44_0); (try rw [show (k35).sz = 2 from rfl] at hf44_0); have HP44 := Kd.S_seg0 HH42.out (of_decide_eq_true ts24_) (by have h_ : (x6_2 : Int) < ((y267.length : Int) : Int) := of_decide_eq_true ts24_; first | exact h_ | (have e_ := (HN42.out); omega) | simpa using h_) (seg := [.slice Ao46 y271.length co46]) (j := 1) (show 2 ≤ 2 from by decide) (x' := (⟨(rd_T35 y267 x6_2).f0, y271⟩ : S35)) (k35_mkM _ _ _ (⟨(rd_T35 y267 x6_2).f0, y271⟩ : S35) HO273.out) (fun _ hk => hk); clear hcc44 hfr44) | ((with_reducible refine gate_store (t := 30) (p := 57) rfl ?_); (try (rw [drewN_self w43]; generalize hq_ : World.drewN w43 _ = w43; replace HO269 := Aside0.mk (Kd.S_at hq_ HO269.out); replace HB := Aside0.mk (below_at hq_ HB.out); clear hq_; (try (obtain ⟨Ao46, co46, eo46⟩ := Kd.R_slice HO273.out)); (try (subst eo46)); (try (obtain ⟨_, _, hraw44, _, _, hcc44, _⟩ := Kd.H_raw HH42.out (of_decide_eq_true ts24_) (by have h_ : (x6_2 : Int) < ((y267.length : Int) : Int) := of_decide_eq_true ts24_; first | exact h_ | (have e_ := (HN42.out); omega) | simpa using h_))); (try (obtain ⟨_, hfr44⟩ := Kd.H_at HH42.out (of_decide_eq_true ts24_) (by have h_ : (x6_2 : Int) < ((y267.length : Int) : Int) := of_decide_eq_true ts24_; first | exact h_ | (have e_ := (HN42.out); omega) | simpa using h_))); (try (have hx44_0 := hcc44 1 _ rfl)); (try (have hf44_0 := hfr44 1)); (try (try rw [show (k35).sz = 2 from rfl] at hx44_0)); (try (try rw [show (k35).sz = 2 from rfl] at hf44_0)); (try (have HP44 := Kd.S_seg0 HH42.out (of_decide_eq_true ts24_) (by have h_ : (x6_2 : Int) < ((y267.length : Int) : Int) := of_decide_eq_true ts24_; first | exact h_ | (have e_ := (HN42.out); omega) | simpa using h_) (seg := [.slice Ao46 y271.length co46]) (j := 1) (show 2 ≤ 2 from by decide) (x' := (⟨(rd_T35 y267 x6_2).f0, y271⟩ : S35)) (k35_mkM _ _ _ (⟨(rd_T35 y267 x6_2).f0, y271⟩ : S35) HO273.out) (fun _ hk => hk))); (try (clear hcc44 hfr44)))); refine store_event (t := 30) (p := 57) (v := ?vo_w45) (w1 := (w43.setCell ⟨go42, (x6_2 : Int).toNat * 2 + 1, none⟩ (.slice Ao46 y271.length co46))) ?hg ?ho ?hn ?hr ?_; (case ho => rfl); (case hg => rfl); (case hn => rfl); (case hr => exact ts15_); intro w45 hw; have hg : w43.grownBy w45 (some go42) := (by rw [hw]; exact HP44.2); have hp_ : Kd.S k35 35 w45 w.heap.size (fun _ => True) (.slice (some ⟨go42, 0, none⟩) y267.length co41) y274 := (by rw [hw, Ny274.out]; exact HP44.1); clear HP44; replace HB := Aside0.mk ((by rw [hw]; exact below_set HB.out GB42.out : Below w.heap.size w w45)); have HO269 := Aside0.mk (hp_); clear HO273 HH42; clear hg hw hp_ hraw44))
             repeat (go_quiet (first | ((with_reducible refine gate_builtin (b := .append) (xs := #[.tmp 38, .tmp 44]) rfl ?_); at_builtin; refine Kd.S_append k35 (w0 := w) w.heap.size rfl (.tmp 38) (.tmp 44) 31 35 (.agg #[(.string ⟨#[]⟩), (.slice none 0 0)]) 40 rfl Tryd.underlying31 info35 rfl (by decide) (by omega) (.slice Ao39 x4_1.length co39) x4_1 (⟨rdOf ByteArray.empty l0 x5_1, ([] : List Int)⟩ : S35) [.string (rdOf ByteArray.empty l0 x5_1), .slice none 0 0] (fun _ => True) (fun _ => False) rfl rfl ?aP (fun k_ hk_ => hk_.elim) ?aF ?aO ?aB ?aS ?aL ?_; (case aP => exact ts11_); (case aB => exact (ts29_ HB.out)); (case aF => exact ts12_); (case aO => exact (ts2_ HO_4.out)); (case aS => exact ts40_ HB.out); (case aL => have := LMc34.out; omega); intro v268 w40 ho hb hg hat; rw [← Ny267.out] at ho; replace HB := Aside0.mk (hb); have HO269 := Aside0.mk (ho); clear HO_4; clear ho hb hg hat; obtain ⟨Ao41, co41, eo41⟩ := Kd.S_slice HO269.out; subst eo41; have p270 : 0 ≤ (x6_2 : Int) := of_decide_eq_true ts24_; have q270 : x6_2 < (y267.length : Int) := of_decide_eq_true ts24_; obtain ⟨ad270, A270_1, c270_1, e270, hx270_0, hx270_1, hl270_1, hi270_1⟩ := at_T35 (Kd.S_reads' HO269.out).2.2 x6_2 p270 q270; cases e270; obtain ⟨ce270, hce270, hMe270, hcc270⟩ := Kd.S_get HO269.out z35 x6_2 p270 (ts39_ HO269.out); obtain ⟨ve270_1, rfl, ge270_1⟩ := k35_openM hMe270; have hv270_1 := hcc270 1 _ rfl; rw [add_field _ _ 1 (by omega)] at hv270_1; replace hv270_1 := Option.some.inj (hv270_1.symm.trans hx270_1); rw [hv270_1] at ge270_1; have HL270_1 := Aside0.mk (show Kd.R (Kd.int .i64) 3 _ _ _ _ ((rd_T35 y267 x6_2).f1) from ge270_1); clear hv270_1 ge270_1; have HX270_1 := Aside0.mk hx270_1; clear hcc270 hce270; have HR270_1 := Aside0.mk hi270_1; have HC270_1 := Aside0.mk hl270_1; clear hi270_1 hl270_1; replace p270 := eq_true p270; replace q270 := eq_true q270; obtain ⟨go42, co42, eo42, gb42, gl42, cl42, HG42⟩ := Kd.S_form HO269.out (by have h_ : (x6_2 : Int) < ((y267.length : Int) : Int) := of_decide_eq_true ts24_; have h2_ : 0 ≤ (x6_2 : Int) := (of_decide_eq_true ts24_); omega); (first | cases eo42 | (injection eo42 with ea_ en_ ec_; (first | subst ea_ | (injection ea_ with ea_; subst ea_)); subst ec_; clear en_)); have GB42 := Aside0.mk gb42; have GG42 := Aside0.mk HG42; clear gb42 gl42 HG42; (first | simp only [add_plain] at hx270_0 | skip); (first | simp only [add_plain] at hx270_1 | skip); obtain ⟨oki42, ce42, hcl42, hM42, hcc42, _, _, hH42⟩ := Kd.S_elem HO269.out z35 (x6_2 : Int) (of_decide_eq_true ts24_) (by have h_ : (x6_2 : Int) < ((y267.length : Int) : Int) := of_decide_eq_true ts24_; first | exact h_ | (have e_ := (Kd.S_reads' HO269.out).1; omega) | simpa using h_); obtain ⟨ve42_1, rfl, ge42_1⟩ := k35_openM hM42; have hv42 := hcc42 1 _ rfl; have hX42 := HX270_1.out; (try simp only [add_plain] at hX42); (try simp only [Nat.add_zero] at hv42); replace hv42 := Option.some.inj (hv42.symm.trans hX42); subst hv42; clear hX42 hcc42 hcl42; have UU42 := Aside0.mk (show Kd.R (Kd.int .i64) 3 _ w.heap.size oki42 (.slice A270_1 ((rd_T35 y267 x6_2).f1).length c270_1) ((rd_T35 y267 x6_2).f1) from ge42_1); have HH42 := Aside0.mk hH42; have HN42 := Aside0.mk (Kd.S_reads' HO269.out).1; clear hH42 ge42_1) | ((with_reducible refine gate_builtin (b := .append) (xs := #[.tmp 52, .tmp 54]) rfl ?_); at_builtin; refine Kd.R_append (Kd.int .i64) (w0 := w) w.heap.size rfl (.tmp 52) (.tmp 54) 30 3 (.int .i64 0) 8 rfl Tryd.underlying30 info3 rfl (by decide) (by omega) (.slice A270_1 ((rd_T35 y267 x6_2).f1).length c270_1) ((rd_T35 y267 x6_2).f1) x5_1 [.int .i64 x5_1] (fun k_ => oki42 k_ ∨ ((fun _ => True)) k_ ∧ w40.heap.size ≤ k_) (fun _ => False) rfl rfl ?aP (fun _ hk => hk.elim) ?aF ?aO ?aB ?aS ?aL ?_; (case aP => exact rfl); (case aB => exact (ts29_ HB.out)); (case aF => exact ts4_); (case aO => exact (ts20_ UU42.out)); (case aS => exact ts40_ HB.out); (case aL => have := LMc37.out; omega); intro v272 w43 ho hb hg hat; rw [← Ny271.out] at ho; replace HB := Aside0.mk (hb); replace HH42 := Aside0.mk (Kd.H_grown (Kd.H_widen (ts10_ HH42.out)) hg (fun k_ e_ => .inl (UU42.out.1 k_ e_))); have HO273 := Aside0.mk (ho); clear HO269 UU42 HL270_1; clear ho hb hg hat; have p38 : 0 ≤ (x6_2 : Int) := of_decide_eq_true ts24_; have q38 : (x6_2 : Int) < ((y267.length : Int) : Int) := of_decide_eq_true ts24_; replace p38 := eq_true p38; replace q38 := eq_true q38; obtain ⟨Ao46, co46, eo46⟩ := Kd.R_slice HO273.out; subst eo46; obtain ⟨_, _, hraw44, _, _, hcc44, _⟩ := Kd.H_raw HH42.out (of_decide_eq_true ts24_) (by have h_ : (x6_2 : Int) < ((y267.length : Int) : Int) := of_decide_eq_true ts24_; first | exact h_ | (have e_ := (HN42.out); omega) | simpa using h_); obtain ⟨_, hfr44⟩ := Kd.H_at HH42.out (of_decide_eq_true ts24_) (by have h_ : (x6_2 : Int) < ((y267.length : Int) : Int) := of_decide_eq_true ts24_; first | exact h_ | (have e_ := (HN42.out); omega) | simpa using h_); have hx44_0 := hcc44 1 _ rfl; have hf44_0 := hfr44 1; (try rw [show (k35).sz = 2 from rfl] at hx44_0); (try rw [show (k35).sz = 2 from rfl] at hf44_0); have HP44 := Kd.S_seg0 HH42.out (of_decide_eq_true ts24_) (by have h_ : (x6_2 : Int) < ((y267.length : Int) : Int) := of_decide_eq_true ts24_; first | exact h_ | (have e_ := (HN42.out); omega) | simpa using h_) (seg := [.slice Ao46 y271.length co46]) (j := 1) (show 2 ≤ 2 from by decide) (x' := (⟨(rd_T35 y267 x6_2).f0, y271⟩ : S35)) (k35_mkM _ _ _ (⟨(rd_T35 y267 x6_2).f0, y271⟩ : S35) HO273.out) (fun _ hk => hk); clear hcc44 hfr44) | ((with_reducible refine gate_store (t := 30) (p := 57) rfl ?_); (try (rw [drewN_self w43]; generalize hq_ : World.drewN w43 _ = w43; replace HO269 := Aside0.mk (Kd.S_at hq_ HO269.out); replace HB := Aside0.mk (below_at hq_ HB.out); clear hq_; (try (obtain ⟨Ao46, co46, eo46⟩ := Kd.R_slice HO273.out)); (try (subst eo46)); (try (obtain ⟨_, _, hraw44, _, _, hcc44, _⟩ := Kd.H_raw HH42.out (of_decide_eq_true ts24_) (by have h_ : (x6_2 : Int) < ((y267.length : Int) : Int) := of_decide_eq_true ts24_; first | exact h_ | (have e_ := (HN42.out); omega) | simpa using h_))); (try (obtain ⟨_, hfr44⟩ := Kd.H_at HH42.out (of_decide_eq_true ts24_) (by have h_ : (x6_2 : Int) < ((y267.length : Int) : Int) := of_decide_eq_true ts24_; first | exact h_ | (have e_ := (HN42.out); omega) | simpa using h_))); (try (have hx44_0 := hcc44 1 _ rfl)); (try (have hf44_0 := hfr44 1)); (try (try rw [show (k35).sz = 2 from rfl] at hx44_0)); (try (try rw [show (k35).sz = 2 from rfl] at hf44_0)); (try (have HP44 := Kd.S_seg0 HH42.out (of_decide_eq_true ts24_) (by have h_ : (x6_2 : Int) < ((y267.length : Int) : Int) := of_decide_eq_true ts24_; first | exact h_ | (have e_ := (HN42.out); omega) | simpa using h_) (seg := [.slice Ao46 y271.length co46]) (j := 1) (show 2 ≤ 2 from by decide) (x' := (⟨(rd_T35 y267 x6_2).f0, y271⟩ : S35)) (k35_mkM _ _ _ (⟨(rd_T35 y267 x6_2).f0, y271⟩ : S35) HO273.out) (fun _ hk => hk))); (try (clear hcc44 hfr44)))); refine store_event (t := 30) (p := 57) (v := ?vo_w45) (w1 := (w43.setCell ⟨go42, (x6_2 : Int).toNat * 2 + 1, none⟩ (.slice Ao46 y271.length co46))) ?hg ?ho ?hn ?hr ?_; (case ho => rfl); (case hg => rfl); (case hn => rfl); (case hr => exact ts15_); intro w45 hw; have hg : w43.grownBy w45 (some go42) := (by rw [hw]; exact HP44.2); have hp_ : Kd.S k35 35 w45 w.heap.size (fun _ => True) (.slice (some ⟨go42, 0, none⟩) y267.length co41) y274 := (by rw [hw, Ny274.out]; exact HP44.1); clear HP44; replace HB := Aside0.mk ((by rw [hw]; exact below_set HB.out GB42.out : Below w.heap.size w w45)); have HO269 := Aside0.mk (hp_); clear HO273 HH42; clear hg hw hp_ hraw44)); try go_wp2_with (first | ((with_reducible refine gate_builtin (b := .append) (xs := #[.tmp 38, .tmp 44]) rfl ?_); at_builtin; refine Kd.S_append k35 (w0 := w) w.heap.size rfl (.tmp 38) (.tmp 44) 31 35 (.agg #[(.string ⟨#[]⟩), (.slice none 0 0)]) 40 rfl Tryd.underlying31 info35 rfl (by decide) (by omega) (.slice Ao39 x4_1.length co39) x4_1 (⟨rdOf ByteArray.empty l0 x5_1, ([] : List Int)⟩ : S35) [.string (rdOf ByteArray.empty l0 x5_1), .slice none 0 0] (fun _ => True) (fun _ => False) rfl rfl ?aP (fun k_ hk_ => hk_.elim) ?aF ?aO ?aB ?aS ?aL ?_; (case aP => exact ts11_); (case aB => exact (ts29_ HB.out)); (case aF => exact ts12_); (case aO => exact (ts2_ HO_4.out)); (case aS => exact ts40_ HB.out); (case aL => have := LMc34.out; omega); intro v268 w40 ho hb hg hat; rw [← Ny267.out] at ho; replace HB := Aside0.mk (hb); have HO269 := Aside0.mk (ho); clear HO_4; clear ho hb hg hat; obtain ⟨Ao41, co41, eo41⟩ := Kd.S_slice HO269.out; subst eo41; have p270 : 0 ≤ (x6_2 : Int) := of_decide_eq_true ts24_; have q270 : x6_2 < (y267.length : Int) := of_decide_eq_true ts24_; obtain ⟨ad270, A270_1, c270_1, e270, hx270_0, hx270_1, hl270_1, hi270_1⟩ := at_T35 (Kd.S_reads' HO269.out).2.2 x6_2 p270 q270; cases e270; obtain ⟨ce270, hce270, hMe270, hcc270⟩ := Kd.S_get HO269.out z35 x6_2 p270 (ts39_ HO269.out); obtain ⟨ve270_1, rfl, ge270_1⟩ := k35_openM hMe270; have hv270_1 := hcc270 1 _ rfl; rw [add_field _ _ 1 (by omega)] at hv270_1; replace hv270_1 := Option.some.inj (hv270_1.symm.trans hx270_1); rw [hv270_1] at ge270_1; have HL270_1 := Aside0.mk (show Kd.R (Kd.int .i64) 3 _ _ _ _ ((rd_T35 y267 x6_2).f1) from ge270_1); clear hv270_1 ge270_1; have HX270_1 := Aside0.mk hx270_1; clear hcc270 hce270; have HR270_1 := Aside0.mk hi270_1; have HC270_1 := Aside0.mk hl270_1; clear hi270_1 hl270_1; replace p270 := eq_true p270; replace q270 := eq_true q270; obtain ⟨go42, co42, eo42, gb42, gl42, cl42, HG42⟩ := Kd.S_form HO269.out (by have h_ : (x6_2 : Int) < ((y267.length : Int) : Int) := of_decide_eq_true ts24_; have h2_ : 0 ≤ (x6_2 : Int) := (of_decide_eq_true ts24_); omega); (first | cases eo42 | (injection eo42 with ea_ en_ ec_; (first | subst ea_ | (injection ea_ with ea_; subst ea_)); subst ec_; clear en_)); have GB42 := Aside0.mk gb42; have GG42 := Aside0.mk HG42; clear gb42 gl42 HG42; (first | simp only [add_plain] at hx270_0 | skip); (first | simp only [add_plain] at hx270_1 | skip); obtain ⟨oki42, ce42, hcl42, hM42, hcc42, _, _, hH42⟩ := Kd.S_elem HO269.out z35 (x6_2 : Int) (of_decide_eq_true ts24_) (by have h_ : (x6_2 : Int) < ((y267.length : Int) : Int) := of_decide_eq_true ts24_; first | exact h_ | (have e_ := (Kd.S_reads' HO269.out).1; omega) | simpa using h_); obtain ⟨ve42_1, rfl, ge42_1⟩ := k35_openM hM42; have hv42 := hcc42 1 _ rfl; have hX42 := HX270_1.out; (try simp only [add_plain] at hX42); (try simp only [Nat.add_zero] at hv42); replace hv42 := Option.some.inj (hv42.symm.trans hX42); subst hv42; clear hX42 hcc42 hcl42; have UU42 := Aside0.mk (show Kd.R (Kd.int .i64) 3 _ w.heap.size oki42 (.slice A270_1 ((rd_T35 y267 x6_2).f1).length c270_1) ((rd_T35 y267 x6_2).f1) from ge42_1); have HH42 := Aside0.mk hH42; have HN42 := Aside0.mk (Kd.S_reads' HO269.out).1; clear hH42 ge42_1) | ((with_reducible refine gate_builtin (b := .append) (xs := #[.tmp 52, .tmp 54]) rfl ?_); at_builtin; refine Kd.R_append (Kd.int .i64) (w0 := w) w.heap.size rfl (.tmp 52) (.tmp 54) 30 3 (.int .i64 0) 8 rfl Tryd.underlying30 info3 rfl (by decide) (by omega) (.slice A270_1 ((rd_T35 y267 x6_2).f1).length c270_1) ((rd_T35 y267 x6_2).f1) x5_1 [.int .i64 x5_1] (fun k_ => oki42 k_ ∨ ((fun _ => True)) k_ ∧ w40.heap.size ≤ k_) (fun _ => False) rfl rfl ?aP (fun _ hk => hk.elim) ?aF ?aO ?aB ?aS ?aL ?_; (case aP => exact rfl); (case aB => exact (ts29_ HB.out)); (case aF => exact ts4_); (case aO => exact (ts20_ UU42.out)); (case aS => exact ts40_ HB.out); (case aL => have := LMc37.out; omega); intro v272 w43 ho hb hg hat; rw [← Ny271.out] at ho; replace HB := Aside0.mk (hb); replace HH42 := Aside0.mk (Kd.H_grown (Kd.H_widen (ts10_ HH42.out)) hg (fun k_ e_ => .inl (UU42.out.1 k_ e_))); have HO273 := Aside0.mk (ho); clear HO269 UU42 HL270_1; clear ho hb hg hat; have p38 : 0 ≤ (x6_2 : Int) := of_decide_eq_true ts24_; have q38 : (x6_2 : Int) < ((y267.length : Int) : Int) := of_decide_eq_true ts24_; replace p38 := eq_true p38; replace q38 := eq_true q38; obtain ⟨Ao46, co46, eo46⟩ := Kd.R_slice HO273.out; subst eo46; obtain ⟨_, _, hraw44, _, _, hcc44, _⟩ := Kd.H_raw HH42.out (of_decide_eq_true ts24_) (by have h_ : (x6_2 : Int) < ((y267.length : Int) : Int) := of_decide_eq_true ts24_; first | exact h_ | (have e_ := (HN42.out); omega) | simpa using h_); obtain ⟨_, hfr44⟩ := Kd.H_at HH42.out (of_decide_eq_true ts24_) (by have h_ : (x6_2 : Int) < ((y267.length : Int) : Int) := of_decide_eq_true ts24_; first | exact h_ | (have e_ := (HN42.out); omega) | simpa using h_); have hx44_0 := hcc44 1 _ rfl; have hf44_0 := hfr44 1; (try rw [show (k35).sz = 2 from rfl] at hx44_0); (try rw [show (k35).sz = 2 from rfl] at hf44_0); have HP44 := Kd.S_seg0 HH42.out (of_decide_eq_true ts24_) (by have h_ : (x6_2 : Int) < ((y267.length : Int) : Int) := of_decide_eq_true ts24_; first | exact h_ | (have e_ := (HN42.out); omega) | simpa using h_) (seg := [.slice Ao46 y271.length co46]) (j := 1) (show 2 ≤ 2 from by decide) (x' := (⟨(rd_T35 y267 x6_2).f0, y271⟩ : S35)) (k35_mkM _ _ _ (⟨(rd_T35 y267 x6_2).f0, y271⟩ : S35) HO273.out) (fun _ hk => hk); clear hcc44 hfr44) | ((with_reducible refine gate_store (t := 30) (p := 57) rfl ?_); (try (rw [drewN_self w43]; generalize hq_ : World.drewN w43 _ = w43; replace HO269 := Aside0.mk (Kd.S_at hq_ HO269.out); replace HB := Aside0.mk (below_at hq_ HB.out); clear hq_; (try (obtain ⟨Ao46, co46, eo46⟩ := Kd.R_slice HO273.out)); (try (subst eo46)); (try (obtain ⟨_, _, hraw44, _, _, hcc44, _⟩ := Kd.H_raw HH42.out (of_decide_eq_true ts24_) (by have h_ : (x6_2 : Int) < ((y267.length : Int) : Int) := of_decide_eq_true ts24_; first | exact h_ | (have e_ := (HN42.out); omega) | simpa using h_))); (try (obtain ⟨_, hfr44⟩ := Kd.H_at HH42.out (of_decide_eq_true ts24_) (by have h_ : (x6_2 : Int) < ((y267.length : Int) : Int) := of_decide_eq_true ts24_; first | exact h_ | (have e_ := (HN42.out); omega) | simpa using h_))); (try (have hx44_0 := hcc44 1 _ rfl)); (try (have hf44_0 := hfr44 1)); (try (try rw [show (k35).sz = 2 from rfl] at hx44_0)); (try (try rw [show (k35).sz = 2 from rfl] at hf44_0)); (try (have HP44 := Kd.S_seg0 HH42.out (of_decide_eq_true ts24_) (by have h_ : (x6_2 : Int) < ((y267.length : Int) : Int) := of_decide_eq_true ts24_; first | exact h_ | (have e_ := (HN42.out); omega) | simpa using h_) (seg := [.slice Ao46 y271.length co46]) (j := 1) (show 2 ≤ 2 from by decide) (x' := (⟨(rd_T35 y267 x6_2).f0, y271⟩ : S35)) (k35_mkM _ _ _ (⟨(rd_T35 y267 x6_2).f0, y271⟩ : S35) HO273.out) (fun _ hk => hk))); (try (clear hcc44 hfr44)))); refine store_event (t := 30) (p := 57) (v := ?vo_w45) (w1 := (w43.setCell ⟨go42, (x6_2 : Int).toNat * 2 + 1, none⟩ (.slice Ao46 y271.length co46))) ?hg ?ho ?hn ?hr ?_; (case ho => rfl); (case hg => rfl); (case hn => rfl); (case hr => exact ts15_); intro w45 hw; have hg : w43.grownBy w45 (some go42) := (by rw [hw]; exact HP44.2); have hp_ : Kd.S k35 35 w45 w.heap.size (fun _ => True) (.slice (some ⟨go42, 0, none⟩) y267.length co41) y274 := (by rw [hw, Ny274.out]; exact HP44.1); clear HP44; replace HB := Aside0.mk ((by rw [hw]; exact below_set HB.out GB42.out : Below w.heap.size w w45)); have HO269 := Aside0.mk (hp_); clear HO273 HH42; clear hg hw hp_ hraw44)))
             go_roundg k2
             case measure => have := HK1.out; have := HK2.out; omega
             case rel => exact ⟨(y274), (wrap64 (x5_1 + 1)), ts28_, H', ⟨by have := HK1.out; have := HK2.out; omega⟩, ⟨ts30_ HO269.out⟩, ⟨ts29_ HB.out⟩⟩
            rw [if_neg c37] at H
            exact absurd H (by simp)
           rw [if_neg c36] at H
           exact absurd H (by simp)
          rw [if_neg c35] at H
          exact absurd H (by simp)
         rw [if_neg c34] at H
         exact absurd H (by simp)
        rw [if_neg c33] at H
        exact absurd H (by simp)
       rw [if_neg c32] at H
       exact absurd H (by simp)
      rw [if_neg c31] at H
      have c31b0 : (x6_2 == (x4_1.length : Int)) = false := beq_eq_false_iff_ne.mpr c31
      have c31b1 : (x6_2 != (x4_1.length : Int)) = true := bne_iff_ne.mpr c31
      by_cases c47 : 0 ≤ x6_2
      ·rw [if_pos c47] at H
       exact absurd H (by simp)
      rw [if_neg c47] at H
      exact absurd H (by simp)
   rw [if_neg c3] at H
   have c3b0 : decide (x5_1 < (l0.length : Int)) = false := decide_eq_false c3
   clear c3
   simp only [Option.some.injEq, Prod.mk.injEq] at H
   obtain ⟨rfl, rfl⟩ := H
   go_wp2
   repeat (go_quiet (fail); try go_wp2)
   go_ret2
   exact ⟨_, ts26_, ts30_ HO_4.out, ts29_ HB.out⟩
/-! ### cupellaw35_sameInts: function 14 -/
def cupellaw35_sameInts.l0 : Nat → List Int → List Int → Int → Option (Bool)
 | 0, _, _, _ => none
 | k + 1, x0, x1, x5 => if x5 < (x0.length : Int) then (if 0 ≤ x5 then (if x5 < (x1.length : Int) then (if (rd x0 x5) = (rd x1 x5) then (cupellaw35_sameInts.l0 k x0 x1 (wrap64 (x5 + 1))) else (some false)) else (none)) else (none)) else (some true)
def cupellaw35_sameInts.f (k : Nat) (l0 : List Int) (l1 : List Int) : Option (Bool) := if (l0.length : Int) = (l1.length : Int) then (cupellaw35_sameInts.l0 k l0 l1 0) else (some false)
theorem cupellaw35_sameInts.mono_l : ∀ k, (∀ y0 y1 y2, LeO (cupellaw35_sameInts.l0 k y0 y1 y2) (cupellaw35_sameInts.l0 (k + 1) y0 y1 y2))
 | 0 => fun _ _ _ r h => by simp [cupellaw35_sameInts.l0] at h
 | k + 1 => by
  have ih0 := cupellaw35_sameInts.mono_l k
  ·intro y0 y1 y2
   unfold cupellaw35_sameInts.l0
   repeat' first
   | (with_reducible exact ih0 _ _ _)
   | (with_reducible exact LeO.refl _)
   | (with_reducible exact LeO.none _)
   | (with_reducible refine LeO.ite ?_ ?_)
   | (with_reducible refine LeO.bind ?_ (fun _ => ?_))
   | exact LeO.none _
   | refine LeO.ite ?_ ?_
   | refine LeO.bind ?_ (fun _ => ?_)
theorem cupellaw35_sameInts.mono : ∀ a0 a1 k, LeO (cupellaw35_sameInts.f k a0 a1) (cupellaw35_sameInts.f (k + 1) a0 a1) := by
 intro a0 a1 k
 have ih0 := cupellaw35_sameInts.mono_l k
 unfold cupellaw35_sameInts.f
 repeat' first
   | (with_reducible exact ih0 _ _ _)
   | (with_reducible exact LeO.refl _)
   | (with_reducible exact LeO.none _)
   | (with_reducible refine LeO.ite ?_ ?_)
   | (with_reducible refine LeO.bind ?_ (fun _ => ?_))
   | exact LeO.none _
   | refine LeO.ite ?_ ?_
   | refine LeO.bind ?_ (fun _ => ?_)
theorem cupellaw35_sameInts.calls (k : Nat) (A0 : Option Addr) (c0 : Nat) (l0 : List Int) (A1 : Option Addr) (c1 : Nat) (l1 : List Int) (r : Bool) (w : World) (hr0 : Kd.C (Kd.int .i64) w A0 l0.length l0) (hc0 : l0.length ≤ c0) (hr1 : Kd.C (Kd.int .i64) w A1 l1.length l1) (hc1 : l1.length ≤ c1) (h : cupellaw35_sameInts.f k l0 l1 = some r) :
  Calls Tryd.prog 14 #[.slice A0 l0.length c0, .slice A1 l1.length c1] w fun e w' => e = .returned (.bool r) ∧ Drawn0 w w' := by
 have HR0 := Aside0.mk hr0
 have HC0 := Aside0.mk hc0
 clear hr0 hc0
 have HR1 := Aside0.mk hr1
 have HC1 := Aside0.mk hc1
 clear hr1 hc1
 have H : (if (l0.length : Int) = (l1.length : Int) then (cupellaw35_sameInts.l0 k l0 l1 0) else (some false)) = some r := h
 clear h
 by_cases c3 : (l0.length : Int) = (l1.length : Int)
 ·rw [if_pos c3] at H
  have c3b0 : ((l0.length : Int) == (l1.length : Int)) = true := beq_iff_eq.mpr c3
  have c3b1 : ((l0.length : Int) != (l1.length : Int)) = false := bne_eq_false_iff_eq.mpr c3
  have c3b2 : (l0.length == l1.length) = true := by first | simpa using c3 | (simp at c3 ⊢; omega)
  clear c3
  have H' := Aside0.mk H
  clear H
  go_enter Tryd.func14, Tryd.ntmps14
  go_wp2
  repeat (go_quiet (fail); try go_wp2)
  go_loopg [5] k (fun kq v5 w' => ∃ (x5_1 : Int), v5 = .int .i64 x5_1 ∧ Aside0 (cupellaw35_sameInts.l0 kq l0 l1 x5_1 = some r) ∧ Aside0 (kq ≤ k) ∧ Drawn0 w w')
  case atStart => exact ⟨(0), ts28_, H', ⟨Nat.le_refl _⟩, ts16_⟩
  case round =>
   clear H'
   try clear c1
   try clear p2
   try clear c3
   try clear c3b0
   try clear c3b1
   try clear c3b2
   obtain ⟨x5_1, rfl, HA, HK1, ⟨m1, rfl⟩⟩ := hrel
   cases gk with
   | zero => exact absurd HA.out (by simp [cupellaw35_sameInts.l0])
   | succ k1 =>
    have H := HA.out
    clear HA
    simp only [cupellaw35_sameInts.l0] at H
    by_cases c4 : x5_1 < (l0.length : Int)
    ·rw [if_pos c4] at H
     have c4b0 : decide (x5_1 < (l0.length : Int)) = true := decide_eq_true c4
     clear c4
     by_cases c5 : 0 ≤ x5_1
     ·rw [if_pos c5] at H
      have c5b0 : decide (0 ≤ x5_1) = true := decide_eq_true c5
      clear c5
      by_cases c6 : x5_1 < (l1.length : Int)
      ·rw [if_pos c6] at H
       have c6b0 : decide (x5_1 < (l1.length : Int)) = true := decide_eq_true c6
       clear c6
       by_cases c7 : (rd l0 x5_1) = (rd l1 x5_1)
       ·rw [if_pos c7] at H
        have c7b0 : ((rd l0 x5_1) == (rd l1 x5_1)) = true := beq_iff_eq.mpr c7
        have c7b1 : ((rd l0 x5_1) != (rd l1 x5_1)) = false := bne_eq_false_iff_eq.mpr c7
        clear c7
        have H' := Aside0.mk H
        clear H
        have p275 : 0 ≤ (x5_1 : Int) := of_decide_eq_true ts24_
        have q275 : x5_1 < (l0.length : Int) := of_decide_eq_true ts24_
        obtain ⟨ad275, e275, hx275_0⟩ := Kd.at_int HR0.out x5_1 p275 q275
        cases e275
        replace p275 := eq_true p275
        replace q275 := eq_true q275
        have p276 : 0 ≤ (x5_1 : Int) := of_decide_eq_true ts24_
        have q276 : x5_1 < (l1.length : Int) := of_decide_eq_true ts24_
        obtain ⟨ad276, e276, hx276_0⟩ := Kd.at_int HR1.out x5_1 p276 q276
        cases e276
        replace p276 := eq_true p276
        replace q276 := eq_true q276
        go_wp2
        repeat (go_quiet (fail); try go_wp2)
        go_roundg k1
        case measure => have := HK1.out; omega
        case rel => exact ⟨(wrap64 (x5_1 + 1)), ts28_, H', ⟨by have := HK1.out; omega⟩, ts16_⟩
       rw [if_neg c7] at H
       have c7b0 : ((rd l0 x5_1) == (rd l1 x5_1)) = false := beq_eq_false_iff_ne.mpr c7
       have c7b1 : ((rd l0 x5_1) != (rd l1 x5_1)) = true := bne_iff_ne.mpr c7
       obtain rfl := Option.some.inj H
       have p275 : 0 ≤ (x5_1 : Int) := of_decide_eq_true ts24_
       have q275 : x5_1 < (l0.length : Int) := of_decide_eq_true ts24_
       obtain ⟨ad275, e275, hx275_0⟩ := Kd.at_int HR0.out x5_1 p275 q275
       cases e275
       replace p275 := eq_true p275
       replace q275 := eq_true q275
       have p276 : 0 ≤ (x5_1 : Int) := of_decide_eq_true ts24_
       have q276 : x5_1 < (l1.length : Int) := of_decide_eq_true ts24_
       obtain ⟨ad276, e276, hx276_0⟩ := Kd.at_int HR1.out x5_1 p276 q276
       cases e276
       replace p276 := eq_true p276
       replace q276 := eq_true q276
       go_wp2
       repeat (go_quiet (fail); try go_wp2)
       go_ret
       exact ⟨ts28_, ts16_⟩
      rw [if_neg c6] at H
      exact absurd H (by simp)
     rw [if_neg c5] at H
     exact absurd H (by simp)
    rw [if_neg c4] at H
    have c4b0 : decide (x5_1 < (l0.length : Int)) = false := decide_eq_false c4
    clear c4
    obtain rfl := Option.some.inj H
    go_wp2
    repeat (go_quiet (fail); try go_wp2)
    go_ret
    exact ⟨ts28_, ts16_⟩
 rw [if_neg c3] at H
 have c3b0 : ((l0.length : Int) == (l1.length : Int)) = false := beq_eq_false_iff_ne.mpr c3
 have c3b1 : ((l0.length : Int) != (l1.length : Int)) = true := bne_iff_ne.mpr c3
 have c3b2 : (l0.length == l1.length) = false := by first | simpa using c3 | (simp at c3 ⊢; omega)
 obtain rfl := Option.some.inj H
 go_enter Tryd.func14, Tryd.ntmps14
 go_wp2
 repeat (go_quiet (fail); try go_wp2)
 go_ret
 exact ⟨ts28_, ts16_⟩
end Go.Proofs.YtndennmpnomjnaaDoor.A

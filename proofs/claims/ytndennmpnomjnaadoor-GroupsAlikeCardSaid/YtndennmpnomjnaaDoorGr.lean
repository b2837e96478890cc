/- Written by wip/tools/xprint.py, a program of this session that drives the kit's printer. Not trusted: Lean checks it. -/
import Derived.Test.YtndennmpnomjnaaDoorGm
set_option linter.all false
namespace Go.Proofs.YtndennmpnomjnaaDoor.A
open Go.RowKit Go.Maps Go.Proofs.YtndennmpnomjnaaDoorW.PrintWords Go.Proofs.YtndennmpnomjnaaDoorW.PrintLast Go.Proofs.YtndennmpnomjnaaDoorW.PrintMore
attribute [local go_sem] max2_int min2_int max_two min_two max_three min_three max_four min_four   -- for this text's walks alone
set_option linter.unusedVariables false
set_option linter.unusedSimpArgs false
/-! ### groups_Groups: function 12 -/
def groups_Groups.l0 : Nat → List Int → List (S35) → List ByteArray → Int → Int → Option ((List (S35)) × Int)
 | 0, _, _, _, _, _ => none
 | k + 1, x1, x4, x14, x15, x16 => if x16 < x15 then (if 0 ≤ x16 then (if x16 < (x14.length : Int) then (if x16 < (x14.length : Int) then (if ((gfind x4 (rdOf ByteArray.empty x14 x16)) < (x4.length : Int)) then (if 0 ≤ (gfind x4 (rdOf ByteArray.empty x14 x16)) then (if (gfind x4 (rdOf ByteArray.empty x14 x16)) < (x4.length : Int) then (if ((rd_T35 x4 (gfind x4 (rdOf ByteArray.empty x14 x16))).f1).length < 17592186044416 then (groups_Groups.l0 k x1 (x4.set ((gfind x4 (rdOf ByteArray.empty x14 x16)) : Int).toNat (⟨(rd_T35 x4 (gfind x4 (rdOf ByteArray.empty x14 x16))).f0, (((rd_T35 x4 (gfind x4 (rdOf ByteArray.empty x14 x16))).f1) ++ [x16])⟩ : S35)) x14 x15 (wrap64 (x16 + 1))) else (none)) else (none)) else (none)) else (if x4.length < 3518437208883 then ((some (x4 ++ [(⟨rdOf ByteArray.empty x14 x16, ([] : List Int)⟩ : S35)] : List (S35))).bind fun y162 => (if 0 ≤ (x4.length : Int) then (if (x4.length : Int) < (y162.length : Int) then (if ((rd_T35 y162 (x4.length : Int)).f1).length < 17592186044416 then (groups_Groups.l0 k x1 (y162.set ((x4.length : Int) : Int).toNat (⟨(rd_T35 y162 (x4.length : Int)).f0, (((rd_T35 y162 (x4.length : Int)).f1) ++ [x16])⟩ : S35)) x14 x15 (wrap64 (x16 + 1))) else (none)) else (none)) else (none))) else (none))) else (none)) else (none)) else (none)) else (some (x4, 0))
def groups_Groups.f (k : Nat) (l0 : List ByteArray) : Option ((List (S35)) × Int) := if ¬ (∀ s ∈ l0, s.size ≤ maxLen) then none else if (l0.length : Int) > 1000 then (some (([] : List (S35)), 3)) else (groups_Groups.l0 k ([] : List Int) ([] : List (S35)) l0 (l0.length : Int) 0)
theorem groups_Groups.mono_l : ∀ k, (∀ y0 y1 y2 y3 y4, LeO (groups_Groups.l0 k y0 y1 y2 y3 y4) (groups_Groups.l0 (k + 1) y0 y1 y2 y3 y4))
 | 0 => fun _ _ _ _ _ r h => by simp [groups_Groups.l0] at h
 | k + 1 => by
  have ih0 := groups_Groups.mono_l k
  ·intro y0 y1 y2 y3 y4
   unfold groups_Groups.l0
   repeat' first
   | (with_reducible exact ih0 _ _ _ _ _)
   | (with_reducible exact LeO.refl _)
   | (with_reducible exact LeO.none _)
   | (with_reducible refine LeO.ite ?_ ?_)
   | (with_reducible refine LeO.bind ?_ (fun _ => ?_))
   | exact ih0 _ _ _ _ _
   | exact LeO.none _
   | refine LeO.ite ?_ ?_
   | refine LeO.bind ?_ (fun _ => ?_)
theorem groups_Groups.mono : ∀ a0 k, LeO (groups_Groups.f k a0) (groups_Groups.f (k + 1) a0) := by
 intro a0 k
 have ih0 := groups_Groups.mono_l k
 unfold groups_Groups.f
 repeat' first
   | (with_reducible exact ih0 _ _ _ _ _)
   | (with_reducible exact LeO.refl _)
   | (with_reducible exact LeO.none _)
   | (with_reducible refine LeO.ite ?_ ?_)
   | (with_reducible refine LeO.bind ?_ (fun _ => ?_))
   | exact ih0 _ _ _ _ _
   | exact LeO.none _
   | refine LeO.ite ?_ ?_
   | refine LeO.bind ?_ (fun _ => ?_)
set_option maxHeartbeats 8000000 in
set_option maxRecDepth 100000 in
theorem groups_Groups.calls (k : Nat) (A0 : Option Addr) (c0 : Nat) (l0 : List ByteArray) (r1 : List (S35)) (r2 : Int) (w : World) (hr0 : Kd.C Kd.string w A0 l0.length l0) (hc0 : l0.length ≤ c0) (h : groups_Groups.f k l0 = some (r1, r2)) :
  Calls Tryd.prog 12 #[.slice A0 l0.length c0] w fun e w' => ∃ v0_ : Value, e = .returned (.tuple #[v0_, .int .i64 r2]) ∧ Kd.S k35 35 w' w.heap.size (fun _ => True) v0_ r1 ∧ Below w.heap.size w w' := by
 have hu35 := Tryd.underlying35
 have HR0 := Aside0.mk hr0
 have HC0 := Aside0.mk hc0
 clear hr0 hc0
 have hwf_ : ∀ s ∈ l0, s.size ≤ maxLen := by
  by_cases hw : ∀ s ∈ l0, s.size ≤ maxLen
  ·exact hw
  ·unfold groups_Groups.f at h
   rw [if_pos hw] at h
   cases h
 have HWF := Aside0.mk hwf_
 unfold groups_Groups.f at h
 rw [if_neg (fun h_ => h_ hwf_)] at h
 clear hwf_
 have hmm := @run_makeMap Tryd.prog
 have HB := Aside0.mk (Below.refl w.heap.size w)
 have H : (if (l0.length : Int) > 1000 then (some (([] : List (S35)), 3)) else (groups_Groups.l0 k ([] : List Int) ([] : List (S35)) l0 (l0.length : Int) 0)) = some (r1, r2) := h
 clear h
 by_cases c3 : (l0.length : Int) > 1000
 ·rw [if_pos c3] at H
  have c3b0 : decide (1000 < (l0.length : Int)) = true := decide_eq_true c3
  have c3b1 : decide (1000 < l0.length) = true := decide_eq_true (by omega)
  clear c3
  simp only [Option.some.injEq, Prod.mk.injEq] at H
  obtain ⟨rfl, rfl⟩ := H
  go_enter Tryd.func12, Tryd.ntmps12
  go_wp2
  go_ret2
  exact ⟨_, by first | rfl | (simp [errW_none, errW_some] <;> rfl) | (simp [*, errW_none, errW_some] <;> rfl), by first | exact Kd.S_nil _ _ _ _ _ | exact Kd.N_nil _ _ _ _ _ | exact Kd.V_nil _ _ _ _ _ | exact Kd.Q_nil _ _ _ _ _ | exact Kd.R_nil _ _ _ _ _, by repeat (first | (with_reducible first | exact HB.out | apply below_alloc | apply pw_below_drewN | apply below_drew1) | exact HB.out)⟩
 ·rw [if_neg c3] at H
  have c3b0 : decide (1000 < (l0.length : Int)) = false := decide_eq_false c3
  have c3b1 : decide (1000 < l0.length) = false := decide_eq_false (by omega)
  clear c3
  have H' := Aside0.mk H
  clear H
  go_enter Tryd.func12, Tryd.ntmps12
  go_wp2
  go_loopg [4, 16] k (fun kq v4 v16 w' => ∃ (x4_1 : List (S35)) (x16_1 : Int), v16 = .int .i64 x16_1 ∧ Aside0 (groups_Groups.l0 kq ([] : List Int) x4_1 l0 (l0.length : Int) x16_1 = some (r1, r2)) ∧ Aside0 (kq ≤ k) ∧ Aside0 (Kd.S k35 35 w' w.heap.size (fun _ => True) v4 x4_1) ∧ Aside0 (Below w.heap.size w w') ∧ Aside0 (MapIn w' w.heap.size (x4_1.map (·.f0))))
  case atStart => exact ⟨(([] : List (S35))), (0), (by first | rfl | (simp; done) | (simp [*]; done)), H', ⟨Nat.le_refl _⟩, ⟨by first | exact Kd.S_nil _ _ _ _ _ | exact Kd.N_nil _ _ _ _ _ | exact Kd.V_nil _ _ _ _ _ | exact Kd.Q_nil _ _ _ _ _ | exact Kd.R_nil _ _ _ _ _⟩, ⟨by repeat (first | (with_reducible first | exact HB.out | apply below_alloc | apply pw_below_drewN | apply below_drew1) | exact HB.out)⟩, ⟨MapIn.made w⟩⟩
  case round =>
   clear H'
   try clear c1
   try clear p2
   try clear c3
   try clear c3b0
   try clear c3b1
   obtain ⟨x4_1, x16_1, rfl, HA, HK1, HO_4, HB, HMAP⟩ := hrel
   cases gk with
   | zero => exact absurd HA.out (by simp [groups_Groups.l0])
   | succ k1 =>
    have H := HA.out
    clear HA
    simp only [groups_Groups.l0] at H
    by_cases c4 : x16_1 < (l0.length : Int)
    ·rw [if_pos c4] at H
     have c4b0 : decide (x16_1 < (l0.length : Int)) = true := decide_eq_true c4
     clear c4
     by_cases c5 : 0 ≤ x16_1
     ·rw [if_pos c5] at H
      have c5b0 : decide (0 ≤ x16_1) = true := decide_eq_true c5
      clear c5
      by_cases c6 : x16_1 < (l0.length : Int)
      ·rw [if_pos c6] at H
       have c6b0 : decide (x16_1 < (l0.length : Int)) = true := decide_eq_true c6
       clear c6
       by_cases c7 : x16_1 < (l0.length : Int)
       ·rw [if_pos c7] at H
        have c7b0 : decide (x16_1 < (l0.length : Int)) = true := decide_eq_true c7
        clear c7
        by_cases c8 : ((gfind x4_1 (rdOf ByteArray.empty l0 x16_1)) < (x4_1.length : Int))
        ·rw [if_pos c8] at H
         have c8b0 : decide ((gfind x4_1 (rdOf ByteArray.empty l0 x16_1)) < (x4_1.length : Int)) = true := decide_eq_true c8
         clear c8
         by_cases c9 : 0 ≤ (gfind x4_1 (rdOf ByteArray.empty l0 x16_1))
         ·rw [if_pos c9] at H
          have c9b0 : decide (0 ≤ (gfind x4_1 (rdOf ByteArray.empty l0 x16_1))) = true := decide_eq_true c9
          clear c9
          by_cases c10 : (gfind x4_1 (rdOf ByteArray.empty l0 x16_1)) < (x4_1.length : Int)
          ·rw [if_pos c10] at H
           have c10b0 : decide ((gfind x4_1 (rdOf ByteArray.empty l0 x16_1)) < (x4_1.length : Int)) = true := decide_eq_true c10
           clear c10
           by_cases c11 : ((rd_T35 x4_1 (gfind x4_1 (rdOf ByteArray.empty l0 x16_1))).f1).length < 17592186044416
           ·rw [if_pos c11] at H
            have LMc11 := Aside0.mk c11
            clear c11
            obtain ⟨y158, hy158⟩ : ∃ y_ : List Int, y_ = (((rd_T35 x4_1 (gfind x4_1 (rdOf ByteArray.empty l0 x16_1))).f1) ++ [x16_1]) := ⟨_, rfl⟩
            replace H : (groups_Groups.l0 k1 ([] : List Int) (x4_1.set ((gfind x4_1 (rdOf ByteArray.empty l0 x16_1)) : Int).toNat (⟨(rd_T35 x4_1 (gfind x4_1 (rdOf ByteArray.empty l0 x16_1))).f0, y158⟩ : S35)) l0 (l0.length : Int) (wrap64 (x16_1 + 1))) = some (r1, r2) := by first | (rw [hy158]; with_reducible exact H) | (have H2_ := (Option.bind_some _ _).symm.trans H; rw [hy158]; with_reducible exact H2_) | (have H2_ := (Option.bind_some _ _).symm.trans H; with_reducible exact H2_) | with_reducible exact H | (rw [hy158]; exact H) | exact H
            have Ny158 := Aside0.mk hy158
            clear hy158
            obtain ⟨y161, hy161⟩ : ∃ y_ : List (S35), y_ = (x4_1.set ((gfind x4_1 (rdOf ByteArray.empty l0 x16_1)) : Int).toNat (⟨(rd_T35 x4_1 (gfind x4_1 (rdOf ByteArray.empty l0 x16_1))).f0, y158⟩ : S35)) := ⟨_, rfl⟩
            replace H : (groups_Groups.l0 k1 ([] : List Int) y161 l0 (l0.length : Int) (wrap64 (x16_1 + 1))) = some (r1, r2) := by first | (rw [hy161]; with_reducible exact H) | (have H2_ := (Option.bind_some _ _).symm.trans H; rw [hy161]; with_reducible exact H2_) | (have H2_ := (Option.bind_some _ _).symm.trans H; with_reducible exact H2_) | with_reducible exact H | (rw [hy161]; exact H) | exact H
            have Ny161 := Aside0.mk hy161
            clear hy161
            have H' := Aside0.mk H
            clear H
            have p155 : 0 ≤ (x16_1 : Int) := of_decide_eq_true (by first | (with_reducible assumption) | assumption)
            have q155 : x16_1 < (l0.length : Int) := of_decide_eq_true (by first | (with_reducible assumption) | assumption)
            obtain ⟨ad155, e155, hx155_0⟩ := Kd.at_string HR0.out x16_1 p155 q155
            cases e155
            replace hx155_0 := (HB.out.cell (World.block_lt_of_cell? w _ hx155_0)).trans hx155_0
            replace p155 := eq_true p155
            replace q155 := eq_true q155
            obtain ⟨Ao13, co13, eo13⟩ := Kd.S_slice HO_4.out
            subst eo13
            have p157 : 0 ≤ ((gfind x4_1 (rdOf ByteArray.empty l0 x16_1)) : Int) := of_decide_eq_true (by first | (with_reducible assumption) | assumption)
            have q157 : (gfind x4_1 (rdOf ByteArray.empty l0 x16_1)) < (x4_1.length : Int) := of_decide_eq_true (by first | (with_reducible assumption) | assumption)
            obtain ⟨ad157, A157_1, c157_1, e157, hx157_0, hx157_1, hl157_1, hi157_1⟩ := at_T35 (Kd.S_reads' HO_4.out).2.2 (gfind x4_1 (rdOf ByteArray.empty l0 x16_1)) p157 q157
            cases e157
            obtain ⟨ce157, hce157, hMe157, hcc157⟩ := Kd.S_get HO_4.out z35 (gfind x4_1 (rdOf ByteArray.empty l0 x16_1)) p157 (by first | exact q157 | exact of_decide_eq_true (by first | (with_reducible assumption) | assumption) | (have e_ := (Kd.S_reads' HO_4.out).1; omega))
            obtain ⟨ve157_1, rfl, ge157_1⟩ := k35_openM hMe157
            have hv157_1 := hcc157 1 _ rfl
            rw [add_field _ _ 1 (by omega)] at hv157_1
            replace hv157_1 := Option.some.inj (hv157_1.symm.trans hx157_1)
            rw [hv157_1] at ge157_1
            have HL157_1 := Aside0.mk (show Kd.R (Kd.int .i64) 3 _ _ _ _ ((rd_T35 x4_1 (gfind x4_1 (rdOf ByteArray.empty l0 x16_1))).f1) from ge157_1)
            clear hv157_1 ge157_1
            have HX157_1 := Aside0.mk hx157_1
            clear hcc157 hce157
            have HR157_1 := Aside0.mk hi157_1
            have HC157_1 := Aside0.mk hl157_1
            clear hi157_1 hl157_1
            replace p157 := eq_true p157
            replace q157 := eq_true q157
            obtain ⟨go14, co14, eo14, gb14, gl14, cl14, HG14⟩ := Kd.S_form HO_4.out (by have h_ : ((gfind x4_1 (rdOf ByteArray.empty l0 x16_1)) : Int) < ((x4_1.length : Int) : Int) := of_decide_eq_true (by first | (with_reducible assumption) | assumption); have h2_ : 0 ≤ ((gfind x4_1 (rdOf ByteArray.empty l0 x16_1)) : Int) := (of_decide_eq_true (by first | (with_reducible assumption) | assumption)); omega)
            (first | cases eo14 | (injection eo14 with ea_ en_ ec_; (first | subst ea_ | (injection ea_ with ea_; subst ea_)); subst ec_; clear en_))
            have GB14 := Aside0.mk gb14
            have GG14 := Aside0.mk HG14
            have HGB := Aside0.mk (MapIn.ne HMAP.out ⟨_, HG14⟩)
            clear gb14 gl14 HG14
            (first | simp only [add_plain] at hx157_0 | skip)
            (first | simp only [add_plain] at hx157_1 | skip)
            obtain ⟨oki14, ce14, hcl14, hM14, hcc14, _, _, hH14⟩ := Kd.S_elem HO_4.out z35 ((gfind x4_1 (rdOf ByteArray.empty l0 x16_1)) : Int) (of_decide_eq_true (by first | (with_reducible assumption) | assumption)) (by have h_ : ((gfind x4_1 (rdOf ByteArray.empty l0 x16_1)) : Int) < ((x4_1.length : Int) : Int) := of_decide_eq_true (by first | (with_reducible assumption) | assumption); first | exact h_ | (have e_ := (Kd.S_reads' HO_4.out).1; omega) | simpa using h_)
            obtain ⟨ve14_1, rfl, ge14_1⟩ := k35_openM hM14
            have hv14 := hcc14 1 _ rfl
            have hX14 := HX157_1.out
            (try simp only [add_plain] at hX14)
            (try simp only [Nat.add_zero] at hv14)
            replace hv14 := Option.some.inj (hv14.symm.trans hX14)
            subst hv14
            clear hX14 hcc14 hcl14
            have UU14 := Aside0.mk (show Kd.R (Kd.int .i64) 3 _ w.heap.size oki14 (.slice A157_1 ((rd_T35 x4_1 (gfind x4_1 (rdOf ByteArray.empty l0 x16_1))).f1).length c157_1) ((rd_T35 x4_1 (gfind x4_1 (rdOf ByteArray.empty l0 x16_1))).f1) from ge14_1)
            have HH14 := Aside0.mk hH14
            have HN14 := Aside0.mk (Kd.S_reads' HO_4.out).1
            clear hH14 ge14_1
            obtain ⟨DM, hown_, hhas_, hat_⟩ := HMAP.out
            have hkey_ : keyOf Tryd.prog 9 (.string (rdOf ByteArray.empty l0 x16_1)) = some (.string (rdOf ByteArray.empty l0 x16_1).data.toList) := Go.WideMaps.keyOf_string_mk Tryd.underlying9 (HWF.out _ (by unfold rdOf; rw [List.getD_eq_getElem?_getD, List.getElem?_eq_getElem (show x16_1.toNat < l0.length by have h1_ := of_eq_true p155; have h2_ := of_eq_true q155; omega)]; exact List.getElem_mem _))
            have hfd_ : kfind (x4_1.map (·.f0)) (rdOf ByteArray.empty l0 x16_1) < (x4_1.map (·.f0)).length := by have h_ := of_decide_eq_true c8b0; unfold gfind at h_; simp only [List.length_map]; omega
            have hhk_ : Maps.has DM (.string (rdOf ByteArray.empty l0 x16_1).data.toList) = true := by rw [hhas_]; exact decide_eq_true hfd_
            have hak_ := hat_ _ hfd_
            have HOWN := Aside0.mk hown_
            have HFD := Aside0.mk (And.intro hhas_ hat_)
            have HFD2 := Aside0.mk hfd_
            clear hown_ hhas_ hat_ hfd_
            go_wp2_with (first | (at_lookup; refine wpList_lookup_own_ok_int _ rfl _ _ 67 rfl 9 3 .i64 lawK Tryd.underlying67 Tryd.underlying3 (Tryd.zeroValue3 _) w.heap.size (x4_1.map (·.f0)).length DM rfl HOWN.out _ _ rfl hkey_ ?_; intro c hat hwc; rw [hhk_]; clear hhk_; (obtain rfl : c = gfind x4_1 (rdOf ByteArray.empty l0 x16_1) := by have e_ := hat.symm.trans hak_; injection e_ with e_; injection e_); clear hat hwc hak_ hkey_; (try clear HOWN)) | ((with_reducible refine gate_builtin (b := .append) (xs := #[.tmp 45, .tmp 47]) rfl ?_); at_builtin; refine Kd.R_append (Kd.int .i64) (w0 := w) w.heap.size rfl (.tmp 45) (.tmp 47) 30 3 (.int .i64 0) 8 rfl Tryd.underlying30 info3 rfl (by decide) (by omega) (.slice A157_1 ((rd_T35 x4_1 (gfind x4_1 (rdOf ByteArray.empty l0 x16_1))).f1).length c157_1) ((rd_T35 x4_1 (gfind x4_1 (rdOf ByteArray.empty l0 x16_1))).f1) x16_1 [.int .i64 x16_1] (fun k_ => oki14 k_ ∨ ((fun _ => True)) k_ ∧ wr.heap.size ≤ k_) (fun _ => False) rfl rfl ?aP (fun _ hk => hk.elim) ?aF ?aO ?aB ?aS ?aL ?_; (case aP => exact rfl); (case aB => exact (by repeat (first | (with_reducible first | exact HB.out | apply below_alloc | apply pw_below_drewN | apply below_drew1) | exact HB.out))); (case aF => exact (fun k_ hk => .inr ⟨trivial, hk⟩)); (case aO => exact (by (with_reducible repeat (first | apply Kd.R_alloc | apply Kd.R_drewN | apply Kd.R_drew)); exact Kd.R_mono UU14.out (fun _ hk => .inl hk))); (case aS => exact (below_size (by repeat (first | (with_reducible first | exact HB.out | apply below_alloc | apply pw_below_drewN | apply below_drew1) | exact HB.out)))); (case aL => have := LMc11.out; omega); intro v159 w15 ho hb hg hat; have nm_ := Aside0.mk (MapIn.kept2 HMAP.out hg (Kd.R_typed UU14.out)); clear HMAP; have HMAP := nm_; clear nm_; rw [← Ny158.out] at ho; have n0_ := Aside0.mk (hb); have n1_ := Aside0.mk (Kd.H_grown (Kd.H_widen (by repeat (first | exact HH14.out | refine Kd.H_alloc ?_ _ | refine Kd.H_drewN ?_ _ | refine Kd.H_drew ?_))) hg (fun k_ e_ => .inl (UU14.out.1 k_ e_))); have n2_ := Aside0.mk (ho); clear HB; clear HH14; clear HO_4; clear UU14; clear HL157_1; have HB := n0_; have HH14 := n1_; have HO160 := n2_; clear n0_ n1_ n2_; clear ho hb hg hat; have p12 : 0 ≤ ((gfind x4_1 (rdOf ByteArray.empty l0 x16_1)) : Int) := of_decide_eq_true (by first | (with_reducible assumption) | assumption); have q12 : ((gfind x4_1 (rdOf ByteArray.empty l0 x16_1)) : Int) < ((x4_1.length : Int) : Int) := of_decide_eq_true (by first | (with_reducible assumption) | assumption); replace p12 := eq_true p12; replace q12 := eq_true q12; obtain ⟨Ao18, co18, eo18⟩ := Kd.R_slice HO160.out; subst eo18; obtain ⟨_, _, hraw16, _, _, hcc16, _⟩ := Kd.H_raw HH14.out (of_decide_eq_true (by first | (with_reducible assumption) | assumption)) (by have h_ : ((gfind x4_1 (rdOf ByteArray.empty l0 x16_1)) : Int) < ((x4_1.length : Int) : Int) := of_decide_eq_true (by first | (with_reducible assumption) | assumption); first | exact h_ | (have e_ := (HN14.out); omega) | simpa using h_); obtain ⟨_, hfr16⟩ := Kd.H_at HH14.out (of_decide_eq_true (by first | (with_reducible assumption) | assumption)) (by have h_ : ((gfind x4_1 (rdOf ByteArray.empty l0 x16_1)) : Int) < ((x4_1.length : Int) : Int) := of_decide_eq_true (by first | (with_reducible assumption) | assumption); first | exact h_ | (have e_ := (HN14.out); omega) | simpa using h_); have hx16_0 := hcc16 1 _ rfl; have hf16_0 := hfr16 1; (try rw [show (k35).sz = 2 from rfl] at hx16_0); (try rw [show (k35).sz = 2 from rfl] at hf16_0); (try simp only [Int.toNat_natCast] at hx16_0 hf16_0); have HP16 := Kd.S_seg0 HH14.out (of_decide_eq_true (by first | (with_reducible assumption) | assumption)) (by have h_ : ((gfind x4_1 (rdOf ByteArray.empty l0 x16_1)) : Int) < ((x4_1.length : Int) : Int) := of_decide_eq_true (by first | (with_reducible assumption) | assumption); first | exact h_ | (have e_ := (HN14.out); omega) | simpa using h_) (seg := [.slice Ao18 y158.length co18]) (j := 1) (show 2 ≤ 2 from by decide) (x' := (⟨(rd_T35 x4_1 (gfind x4_1 (rdOf ByteArray.empty l0 x16_1))).f0, y158⟩ : S35)) (k35_mkM _ _ _ (⟨(rd_T35 x4_1 (gfind x4_1 (rdOf ByteArray.empty l0 x16_1))).f0, y158⟩ : S35) HO160.out) (fun _ hk => hk); clear hcc16 hfr16) | ((with_reducible refine gate_store (t := 30) (p := 50) rfl ?_); refine store_event (t := 30) (p := 50) (v := ?vo_w17) (w1 := (w15.setCell ⟨go14, ((gfind x4_1 (rdOf ByteArray.empty l0 x16_1)) : Int).toNat * 2 + 1, none⟩ (.slice Ao18 y158.length co18))) ?hg ?ho ?hn ?hr ?_; (case ho => rfl); (case hg => rfl); (case hn => rfl); (case hr => first | (go_simp; done) | (go_simp; rfl)); intro w17 hw; have hg : w15.grownBy w17 (some go14) := (by rw [hw]; exact HP16.2); have nm_ := Aside0.mk (MapIn.kept HMAP.out hg (fun e_ => HGB.out (Option.some.inj e_).symm)); clear HMAP; have HMAP := nm_; clear nm_; have hp_ : Kd.S k35 35 w17 w.heap.size (fun _ => True) (.slice (some ⟨go14, 0, none⟩) x4_1.length co13) y161 := (by rw [hw, Ny161.out]; exact HP16.1); clear HP16; have n0_ := Aside0.mk ((by rw [hw]; exact below_set HB.out GB14.out : Below w.heap.size w w17)); have n1_ := Aside0.mk (hp_); clear HB; clear HO160; clear HH14; have HB := n0_; have HO_4 := n1_; clear n0_ n1_; clear hg hw hp_ hraw16))
            go_roundg k1
            case measure => have := HK1.out; omega
            case rel => exact ⟨(y161), (wrap64 (x16_1 + 1)), (by first | rfl | (simp; done) | (simp [*]; done)), H', ⟨by have := HK1.out; omega⟩, ⟨by (with_reducible repeat (first | apply Kd.S_alloc | apply Kd.S_drewN | apply Kd.S_drew)); exact HO_4.out⟩, ⟨by repeat (first | (with_reducible first | exact HB.out | apply below_alloc | apply pw_below_drewN | apply below_drew1) | exact HB.out)⟩, ⟨by rw [Ny161.out, keys_set x4_1 _ _ (by have h_ := of_decide_eq_true c8b0; have h2_ := of_decide_eq_true c9b0; omega)]; exact HMAP.out⟩⟩
           ·rw [if_neg c11] at H
            exact absurd H (by simp)
          ·rw [if_neg c10] at H
           exact absurd H (by simp)
         ·rw [if_neg c9] at H
          exact absurd H (by simp)
        ·rw [if_neg c8] at H
         have c8b0 : decide ((gfind x4_1 (rdOf ByteArray.empty l0 x16_1)) < (x4_1.length : Int)) = false := decide_eq_false c8
         clear c8
         by_cases c19 : x4_1.length < 3518437208883
         ·rw [if_pos c19] at H
          have LMc19 := Aside0.mk c19
          clear c19
          obtain ⟨y162, hy162⟩ : ∃ y_ : List (S35), y_ = (x4_1 ++ [(⟨rdOf ByteArray.empty l0 x16_1, ([] : List Int)⟩ : S35)]) := ⟨_, rfl⟩
          replace H : (if 0 ≤ (x4_1.length : Int) then (if (x4_1.length : Int) < (y162.length : Int) then (if ((rd_T35 y162 (x4_1.length : Int)).f1).length < 17592186044416 then (groups_Groups.l0 k1 ([] : List Int) (y162.set ((x4_1.length : Int) : Int).toNat (⟨(rd_T35 y162 (x4_1.length : Int)).f0, (((rd_T35 y162 (x4_1.length : Int)).f1) ++ [x16_1])⟩ : S35)) l0 (l0.length : Int) (wrap64 (x16_1 + 1))) else (none)) else (none)) else (none)) = some (r1, r2) := by first | (rw [hy162]; with_reducible exact H) | (have H2_ := (Option.bind_some _ _).symm.trans H; rw [hy162]; with_reducible exact H2_) | (have H2_ := (Option.bind_some _ _).symm.trans H; with_reducible exact H2_) | with_reducible exact H | (rw [hy162]; exact H) | exact H
          have Ny162 := Aside0.mk hy162
          clear hy162
          by_cases c20 : 0 ≤ (x4_1.length : Int)
          ·rw [if_pos c20] at H
           have c20b0 : decide (0 ≤ (x4_1.length : Int)) = true := decide_eq_true c20
           have c20b1 : decide (0 ≤ x4_1.length) = true := decide_eq_true (by omega)
           clear c20
           by_cases c21 : (x4_1.length : Int) < (y162.length : Int)
           ·rw [if_pos c21] at H
            have c21b0 : decide ((x4_1.length : Int) < (y162.length : Int)) = true := decide_eq_true c21
            have c21b1 : decide (x4_1.length < y162.length) = true := decide_eq_true (Int.ofNat_lt.mp c21)
            clear c21
            by_cases c22 : ((rd_T35 y162 (x4_1.length : Int)).f1).length < 17592186044416
            ·rw [if_pos c22] at H
             have LMc22 := Aside0.mk c22
             clear c22
             obtain ⟨y166, hy166⟩ : ∃ y_ : List Int, y_ = (((rd_T35 y162 (x4_1.length : Int)).f1) ++ [x16_1]) := ⟨_, rfl⟩
             replace H : (groups_Groups.l0 k1 ([] : List Int) (y162.set ((x4_1.length : Int) : Int).toNat (⟨(rd_T35 y162 (x4_1.length : Int)).f0, y166⟩ : S35)) l0 (l0.length : Int) (wrap64 (x16_1 + 1))) = some (r1, r2) := by first | (rw [hy166]; with_reducible exact H) | (have H2_ := (Option.bind_some _ _).symm.trans H; rw [hy166]; with_reducible exact H2_) | (have H2_ := (Option.bind_some _ _).symm.trans H; with_reducible exact H2_) | with_reducible exact H | (rw [hy166]; exact H) | exact H
             have Ny166 := Aside0.mk hy166
             clear hy166
             obtain ⟨y169, hy169⟩ : ∃ y_ : List (S35), y_ = (y162.set ((x4_1.length : Int) : Int).toNat (⟨(rd_T35 y162 (x4_1.length : Int)).f0, y166⟩ : S35)) := ⟨_, rfl⟩
             replace H : (groups_Groups.l0 k1 ([] : List Int) y169 l0 (l0.length : Int) (wrap64 (x16_1 + 1))) = some (r1, r2) := by first | (rw [hy169]; with_reducible exact H) | (have H2_ := (Option.bind_some _ _).symm.trans H; rw [hy169]; with_reducible exact H2_) | (have H2_ := (Option.bind_some _ _).symm.trans H; with_reducible exact H2_) | with_reducible exact H | (rw [hy169]; exact H) | exact H
             have Ny169 := Aside0.mk hy169
             clear hy169
             have H' := Aside0.mk H
             clear H
             have p155 : 0 ≤ (x16_1 : Int) := of_decide_eq_true (by first | (with_reducible assumption) | assumption)
             have q155 : x16_1 < (l0.length : Int) := of_decide_eq_true (by first | (with_reducible assumption) | assumption)
             obtain ⟨ad155, e155, hx155_0⟩ := Kd.at_string HR0.out x16_1 p155 q155
             cases e155
             replace hx155_0 := (HB.out.cell (World.block_lt_of_cell? w _ hx155_0)).trans hx155_0
             replace p155 := eq_true p155
             replace q155 := eq_true q155
             obtain ⟨Ao24, co24, eo24⟩ := Kd.S_slice HO_4.out
             subst eo24
             obtain ⟨DM, hown_, hhas_, hat_⟩ := HMAP.out
             have hkey_ : keyOf Tryd.prog 9 (.string (rdOf ByteArray.empty l0 x16_1)) = some (.string (rdOf ByteArray.empty l0 x16_1).data.toList) := Go.WideMaps.keyOf_string_mk Tryd.underlying9 (HWF.out _ (by unfold rdOf; rw [List.getD_eq_getElem?_getD, List.getElem?_eq_getElem (show x16_1.toNat < l0.length by have h1_ := of_eq_true p155; have h2_ := of_eq_true q155; omega)]; exact List.getElem_mem _))
             have hfd_ : ¬ kfind (x4_1.map (·.f0)) (rdOf ByteArray.empty l0 x16_1) < (x4_1.map (·.f0)).length := by have h_ := of_decide_eq_false c8b0; unfold gfind at h_; simp only [List.length_map]; omega
             have hhk_ : Maps.has DM (.string (rdOf ByteArray.empty l0 x16_1).data.toList) = false := by rw [hhas_]; exact decide_eq_false hfd_
             have HOWN := Aside0.mk hown_
             have HFD := Aside0.mk (And.intro hhas_ hat_)
             have HFD2 := Aside0.mk hfd_
             clear hown_ hhas_ hat_ hfd_
             have hlm_ : x4_1.length < maxLen := by have := LMc19.out; unfold maxLen; omega
             have HLM := Aside0.mk hlm_
             clear hlm_
             go_wp2_with (first | (at_lookup; refine wpList_lookup_own_ok_int _ rfl _ _ 67 rfl 9 3 .i64 lawK Tryd.underlying67 Tryd.underlying3 (Tryd.zeroValue3 _) w.heap.size (x4_1.map (·.f0)).length DM rfl HOWN.out _ _ rfl hkey_ ?_; intro c hat hwc; rw [hhk_]; clear hhk_; clear hat hwc) | (at_mapUpdate; refine wpList_mapUpdate_own _ rfl _ _ _ 67 rfl 9 3 lawK Tryd.underlying67 _ w.heap.size (x4_1.map (·.f0)).length DM rfl HOWN.out (by have := HLM.out; simpa using this) _ _ _ rfl rfl hkey_ _ [] (plainElem_int Tryd.underlying3 (WalkArith.wf_i64 (by have := HLM.out; unfold maxLen at this; omega))) ?_; intro wm hown1 hgrow1; have nm_ := Aside0.mk (MapIn.put HFD2.out HOWN.out HFD.out.1 HFD.out.2 (by simpa using hown1)); have n0_ := Aside0.mk (S_map HO_4.out HMAP.out hgrow1); have n1_ := Aside0.mk (HB.out.grown hgrow1 HB.out.size (fun j hj => by cases hj; exact Nat.le_refl _)); clear HMAP HO_4 HB hown1 hgrow1 HOWN HFD HFD2 hkey_; have HMAP := nm_; have HO_4 := n0_; have HB := n1_; clear nm_ n0_ n1_) | ((with_reducible refine gate_builtin (b := .append) (xs := #[.tmp 34, .tmp 37]) rfl ?_); at_builtin; refine Kd.S_append k35 (w0 := w) w.heap.size rfl (.tmp 34) (.tmp 37) 31 35 (.agg #[(.string ⟨#[]⟩), (.slice none 0 0)]) 40 rfl Tryd.underlying31 info35 rfl (by decide) (by omega) (.slice Ao24 x4_1.length co24) x4_1 (⟨rdOf ByteArray.empty l0 x16_1, ([] : List Int)⟩ : S35) [.string (rdOf ByteArray.empty l0 x16_1), .slice none 0 0] (fun _ => True) (fun _ => False) rfl rfl ?aP (fun k_ hk_ => hk_.elim) ?aF ?aO ?aB ?aS ?aL ?_; (case aP => exact k35_mkM _ _ _ (⟨rdOf ByteArray.empty l0 x16_1, ([] : List Int)⟩ : S35) (Kd.R_nil _ _ _ _ _)); (case aB => exact (by repeat (first | (with_reducible first | exact HB.out | apply below_alloc | apply pw_below_drewN | apply below_drew1) | exact HB.out))); (case aF => exact (fun _ _ => trivial)); (case aO => exact (by (with_reducible repeat (first | apply Kd.S_alloc | apply Kd.S_drewN | apply Kd.S_drew)); exact Kd.S_mono HO_4.out (fun k_ hk => ⟨trivial, fun e_ => e_⟩))); (case aS => exact (below_size (by repeat (first | (with_reducible first | exact HB.out | apply below_alloc | apply pw_below_drewN | apply below_drew1) | exact HB.out)))); (case aL => have := LMc19.out; omega); intro v163 w25 ho hb hg hat; have nm_ := Aside0.mk (MapIn.kept2 HMAP.out hg (Kd.S_typed HO_4.out)); clear HMAP; have HMAP := nm_; clear nm_; rw [← Ny162.out] at ho; have n0_ := Aside0.mk (hb); have n1_ := Aside0.mk (ho); clear HB; clear HO_4; have HB := n0_; have HO164 := n1_; clear n0_ n1_; clear ho hb hg hat; obtain ⟨Ao26, co26, eo26⟩ := Kd.S_slice HO164.out; subst eo26; have p165 : 0 ≤ ((x4_1.length : Int) : Int) := of_decide_eq_true (by first | (with_reducible assumption) | assumption); have q165 : (x4_1.length : Int) < (y162.length : Int) := of_decide_eq_true (by first | (with_reducible assumption) | assumption); obtain ⟨ad165, A165_1, c165_1, e165, hx165_0, hx165_1, hl165_1, hi165_1⟩ := at_T35 (Kd.S_reads' HO164.out).2.2 (x4_1.length : Int) p165 q165; cases e165; obtain ⟨ce165, hce165, hMe165, hcc165⟩ := Kd.S_get HO164.out z35 (x4_1.length : Int) p165 (by first | exact q165 | exact of_decide_eq_true (by first | (with_reducible assumption) | assumption) | (have e_ := (Kd.S_reads' HO164.out).1; omega)); obtain ⟨ve165_1, rfl, ge165_1⟩ := k35_openM hMe165; have hv165_1 := hcc165 1 _ rfl; rw [add_field _ _ 1 (by omega)] at hv165_1; replace hv165_1 := Option.some.inj (hv165_1.symm.trans hx165_1); rw [hv165_1] at ge165_1; have HL165_1 := Aside0.mk (show Kd.R (Kd.int .i64) 3 _ _ _ _ ((rd_T35 y162 (x4_1.length : Int)).f1) from ge165_1); clear hv165_1 ge165_1; have HX165_1 := Aside0.mk hx165_1; clear hcc165 hce165; have HR165_1 := Aside0.mk hi165_1; have HC165_1 := Aside0.mk hl165_1; clear hi165_1 hl165_1; (try simp only [Go.IntWalk.toNatUp] at hx165_0); (try simp only [Go.IntWalk.toNatUp] at hx165_1); replace p165 := eq_true p165; replace q165 := eq_true q165; obtain ⟨go27, co27, eo27, gb27, gl27, cl27, HG27⟩ := Kd.S_form HO164.out (by have h_ : ((x4_1.length : Int) : Int) < ((y162.length : Int) : Int) := of_decide_eq_true (by first | (with_reducible assumption) | assumption); have h2_ : 0 ≤ ((x4_1.length : Int) : Int) := (of_decide_eq_true (by first | (with_reducible assumption) | assumption)); omega); (first | cases eo27 | (injection eo27 with ea_ en_ ec_; (first | subst ea_ | (injection ea_ with ea_; subst ea_)); subst ec_; clear en_)); have GB27 := Aside0.mk gb27; have GG27 := Aside0.mk HG27; have HGB := Aside0.mk (MapIn.ne HMAP.out ⟨_, HG27⟩); clear gb27 gl27 HG27; (first | simp only [add_plain] at hx165_0 | skip); (first | simp only [add_plain] at hx165_1 | skip); obtain ⟨oki27, ce27, hcl27, hM27, hcc27, _, _, hH27⟩ := Kd.S_elem HO164.out z35 ((x4_1.length : Int) : Int) (of_decide_eq_true (by first | (with_reducible assumption) | assumption)) (by have h_ : ((x4_1.length : Int) : Int) < ((y162.length : Int) : Int) := of_decide_eq_true (by first | (with_reducible assumption) | assumption); first | exact h_ | (have e_ := (Kd.S_reads' HO164.out).1; omega) | simpa using h_); obtain ⟨ve27_1, rfl, ge27_1⟩ := k35_openM hM27; have hv27 := hcc27 1 _ rfl; have hX27 := HX165_1.out; (try simp only [add_plain] at hX27); (try simp only [Nat.add_zero] at hv27); replace hv27 := Option.some.inj (hv27.symm.trans hX27); subst hv27; clear hX27 hcc27 hcl27; have UU27 := Aside0.mk (show Kd.R (Kd.int .i64) 3 _ w.heap.size oki27 (.slice A165_1 ((rd_T35 y162 (x4_1.length : Int)).f1).length c165_1) ((rd_T35 y162 (x4_1.length : Int)).f1) from ge27_1); have HH27 := Aside0.mk hH27; have HN27 := Aside0.mk (Kd.S_reads' HO164.out).1; clear hH27 ge27_1) | ((with_reducible refine gate_builtin (b := .append) (xs := #[.tmp 45, .tmp 47]) rfl ?_); at_builtin; refine Kd.R_append (Kd.int .i64) (w0 := w) w.heap.size rfl (.tmp 45) (.tmp 47) 30 3 (.int .i64 0) 8 rfl Tryd.underlying30 info3 rfl (by decide) (by omega) (.slice A165_1 ((rd_T35 y162 (x4_1.length : Int)).f1).length c165_1) ((rd_T35 y162 (x4_1.length : Int)).f1) x16_1 [.int .i64 x16_1] (fun k_ => oki27 k_ ∨ ((fun _ => True)) k_ ∧ w25.heap.size ≤ k_) (fun _ => False) rfl rfl ?aP (fun _ hk => hk.elim) ?aF ?aO ?aB ?aS ?aL ?_; (case aP => exact rfl); (case aB => exact (by repeat (first | (with_reducible first | exact HB.out | apply below_alloc | apply pw_below_drewN | apply below_drew1) | exact HB.out))); (case aF => exact (fun k_ hk => .inr ⟨trivial, hk⟩)); (case aO => exact (by (with_reducible repeat (first | apply Kd.R_alloc | apply Kd.R_drewN | apply Kd.R_drew)); exact Kd.R_mono UU27.out (fun _ hk => .inl hk))); (case aS => exact (below_size (by repeat (first | (with_reducible first | exact HB.out | apply below_alloc | apply pw_below_drewN | apply below_drew1) | exact HB.out)))); (case aL => have := LMc22.out; omega); intro v167 w28 ho hb hg hat; have nm_ := Aside0.mk (MapIn.kept2 HMAP.out hg (Kd.R_typed UU27.out)); clear HMAP; have HMAP := nm_; clear nm_; rw [← Ny166.out] at ho; have n0_ := Aside0.mk (hb); have n1_ := Aside0.mk (Kd.H_grown (Kd.H_widen (by repeat (first | exact HH27.out | refine Kd.H_alloc ?_ _ | refine Kd.H_drewN ?_ _ | refine Kd.H_drew ?_))) hg (fun k_ e_ => .inl (UU27.out.1 k_ e_))); have n2_ := Aside0.mk (ho); clear HB; clear HH27; clear HO164; clear UU27; clear HL165_1; have HB := n0_; have HH27 := n1_; have HO168 := n2_; clear n0_ n1_ n2_; clear ho hb hg hat; have p23 : 0 ≤ ((x4_1.length : Int) : Int) := of_decide_eq_true (by first | (with_reducible assumption) | assumption); have q23 : ((x4_1.length : Int) : Int) < ((y162.length : Int) : Int) := of_decide_eq_true (by first | (with_reducible assumption) | assumption); replace p23 := eq_true p23; replace q23 := eq_true q23; obtain ⟨Ao31, co31, eo31⟩ := Kd.R_slice HO168.out; subst eo31; obtain ⟨_, _, hraw29, _, _, hcc29, _⟩ := Kd.H_raw HH27.out (of_decide_eq_true (by first | (with_reducible assumption) | assumption)) (by have h_ : ((x4_1.length : Int) : Int) < ((y162.length : Int) : Int) := of_decide_eq_true (by first | (with_reducible assumption) | assumption); first | exact h_ | (have e_ := (HN27.out); omega) | simpa using h_); obtain ⟨_, hfr29⟩ := Kd.H_at HH27.out (of_decide_eq_true (by first | (with_reducible assumption) | assumption)) (by have h_ : ((x4_1.length : Int) : Int) < ((y162.length : Int) : Int) := of_decide_eq_true (by first | (with_reducible assumption) | assumption); first | exact h_ | (have e_ := (HN27.out); omega) | simpa using h_); have hx29_0 := hcc29 1 _ rfl; have hf29_0 := hfr29 1; (try rw [show (k35).sz = 2 from rfl] at hx29_0); (try rw [show (k35).sz = 2 from rfl] at hf29_0); (try simp only [Int.toNat_natCast] at hx29_0 hf29_0); have HP29 := Kd.S_seg0 HH27.out (of_decide_eq_true (by first | (with_reducible assumption) | assumption)) (by have h_ : ((x4_1.length : Int) : Int) < ((y162.length : Int) : Int) := of_decide_eq_true (by first | (with_reducible assumption) | assumption); first | exact h_ | (have e_ := (HN27.out); omega) | simpa using h_) (seg := [.slice Ao31 y166.length co31]) (j := 1) (show 2 ≤ 2 from by decide) (x' := (⟨(rd_T35 y162 (x4_1.length : Int)).f0, y166⟩ : S35)) (k35_mkM _ _ _ (⟨(rd_T35 y162 (x4_1.length : Int)).f0, y166⟩ : S35) HO168.out) (fun _ hk => hk); clear hcc29 hfr29) | ((with_reducible refine gate_store (t := 30) (p := 50) rfl ?_); refine store_event (t := 30) (p := 50) (v := ?vo_w30) (w1 := (w28.setCell ⟨go27, ((x4_1.length : Int) : Int).toNat * 2 + 1, none⟩ (.slice Ao31 y166.length co31))) ?hg ?ho ?hn ?hr ?_; (case ho => rfl); (case hg => rfl); (case hn => rfl); (case hr => first | (go_simp; done) | (go_simp; rfl)); intro w30 hw; have hg : w28.grownBy w30 (some go27) := (by rw [hw]; exact HP29.2); have nm_ := Aside0.mk (MapIn.kept HMAP.out hg (fun e_ => HGB.out (Option.some.inj e_).symm)); clear HMAP; have HMAP := nm_; clear nm_; have hp_ : Kd.S k35 35 w30 w.heap.size (fun _ => True) (.slice (some ⟨go27, 0, none⟩) y162.length co26) y169 := (by rw [hw, Ny169.out]; exact HP29.1); clear HP29; have n0_ := Aside0.mk ((by rw [hw]; exact below_set HB.out GB27.out : Below w.heap.size w w30)); have n1_ := Aside0.mk (hp_); clear HB; clear HO168; clear HH27; have HB := n0_; have HO164 := n1_; clear n0_ n1_; clear hg hw hp_ hraw29))
             go_roundg k1
             case measure => have := HK1.out; omega
             case rel => exact ⟨(y169), (wrap64 (x16_1 + 1)), (by first | rfl | (simp; done) | (simp [*]; done)), H', ⟨by have := HK1.out; omega⟩, ⟨by (with_reducible repeat (first | apply Kd.S_alloc | apply Kd.S_drewN | apply Kd.S_drew)); exact HO164.out⟩, ⟨by repeat (first | (with_reducible first | exact HB.out | apply below_alloc | apply pw_below_drewN | apply below_drew1) | exact HB.out)⟩, ⟨by rw [Ny169.out, keys_set y162 _ _ (by have h_ := of_decide_eq_true c21b1; omega), Ny162.out, List.map_append]; exact HMAP.out⟩⟩
            ·rw [if_neg c22] at H
             exact absurd H (by simp)
           ·rw [if_neg c21] at H
            exact absurd H (by simp)
          ·rw [if_neg c20] at H
           exact absurd H (by simp)
         ·rw [if_neg c19] at H
          exact absurd H (by simp)
       ·rw [if_neg c7] at H
        exact absurd H (by simp)
      ·rw [if_neg c6] at H
       exact absurd H (by simp)
     ·rw [if_neg c5] at H
      exact absurd H (by simp)
    ·rw [if_neg c4] at H
     have c4b0 : decide (x16_1 < (l0.length : Int)) = false := decide_eq_false c4
     clear c4
     simp only [Option.some.injEq, Prod.mk.injEq] at H
     obtain ⟨rfl, rfl⟩ := H
     go_wp2
     go_ret2
     exact ⟨_, by first | rfl | (simp [errW_none, errW_some] <;> rfl) | (simp [*, errW_none, errW_some] <;> rfl), by (with_reducible repeat (first | apply Kd.S_alloc | apply Kd.S_drewN | apply Kd.S_drew)); exact HO_4.out, by repeat (first | (with_reducible first | exact HB.out | apply below_alloc | apply pw_below_drewN | apply below_drew1) | exact HB.out)⟩
end Go.Proofs.YtndennmpnomjnaaDoor.A

/- Plain facts on shares: what Shares comes to in the program and in the reference: the same. No memory and no Go in it: lists and numbers alone. -/
import Derived.Test.YtpkdmhplmgbfaaaPl3
import Derived.Test.YtpkdmhplmgbfaaaPl4
import Derived.Test.YtpkdmhplmgbfaaaAx7
set_option linter.unusedVariables false
set_option linter.unusedSimpArgs false
set_option maxHeartbeats 400000
namespace Go.Proofs.Ytpkdmhplmgbfaaa.A
open Go.RowKit Go.Proofs.YtpkdmhplmgbfaaaW.PrintWords Go.Proofs.YtpkdmhplmgbfaaaW.PrintLast Go.Proofs.YtpkdmhplmgbfaaaW.PrintMore

def bs (l : List Int) (N : Int) (j : Nat) : Int := N * rd l (j : Int) / tot l
def rs (l : List Int) (N : Int) (j : Nat) : Int := N * rd l (j : Int) % tot l
theorem mul_bounds {a b A B : Int} (h0 : 0 ≤ a) (h1 : a ≤ A) (h2 : 0 ≤ b) (h3 : b ≤ B) : 0 ≤ a * b ∧ a * b ≤ A * B :=
  ⟨Int.mul_nonneg h0 h2, Int.mul_le_mul h1 h3 h2 (Int.le_trans h0 h1)⟩
theorem prod_bound {l : List Int} (h : good l) {N : Int} (h0 : 0 ≤ N) (h1 : N ≤ 1000000) {j : Nat} (hj : j < l.length) : 0 ≤ N * rd l (j : Int) ∧ N * rd l (j : Int) ≤ 1000000000000000 := by
  have hb := good_rd h j hj
  exact mul_bounds h0 h1 (by omega) hb.2
theorem rs_bound {l : List Int} (h : good l) (N : Int) (j : Nat) : 0 ≤ rs l N j ∧ rs l N j < tot l := by
  have ht := (tot_bound h).1
  unfold rs
  exact ⟨Int.emod_nonneg _ (by omega), Int.emod_lt_of_pos _ (by omega)⟩
theorem bs_rs {l : List Int} (h : good l) (N : Int) (j : Nat) : bs l N j * tot l + rs l N j = N * rd l (j : Int) := by
  unfold bs rs
  rw [Int.mul_comm]
  exact Int.mul_ediv_add_emod _ _
theorem rd_le_tot {l : List Int} (h : good l) {j : Nat} (hj : j < l.length) : rd l (j : Int) ≤ tot l := by
  have h1 := ps_mono h (j + 1) l.length (by omega) (Nat.le_refl _)
  have h2 := ps_succ l j hj
  have h3 := ps_bound h j (by omega)
  have h4 : tot l = ps l l.length := rfl
  omega
theorem bs_bound {l : List Int} (h : good l) {N : Int} (h0 : 0 ≤ N) (h1 : N ≤ 1000000) {j : Nat} (hj : j < l.length) : 0 ≤ bs l N j ∧ bs l N j ≤ 1000000 := by
  have ht := (tot_bound h).1
  have hp := prod_bound h h0 h1 hj
  have hle := rd_le_tot h hj
  unfold bs
  refine ⟨Int.ediv_nonneg hp.1 (by omega), ?_⟩
  have h2 : N * rd l (j : Int) ≤ N * tot l := Int.mul_le_mul_of_nonneg_left hle h0
  have h3 : N * rd l (j : Int) / tot l ≤ N * tot l / tot l := Int.ediv_le_ediv (by omega) h2
  rw [Int.mul_ediv_cancel _ (by omega)] at h3
  omega
theorem bs_eq {l : List Int} (h : good l) {N : Int} (h0 : 0 ≤ N) (h1 : N ≤ 1000000) {j : Nat} (hj : j < l.length) : wrap64 (Int.tdiv (wrap64 (N * rd l (j : Int))) (tot l)) = bs l N j := by
  have hp := prod_bound h h0 h1 hj
  have hb := bs_bound h h0 h1 hj
  generalize hX : N * rd l (j : Int) = X at hp
  have e : bs l N j = X / tot l := by unfold bs; rw [hX]
  rw [w64 (x := X) (by omega) (by omega), Int.tdiv_eq_ediv_of_nonneg hp.1, ← e]
  exact w64 (by omega) (by omega)
theorem rs_eq {l : List Int} (h : good l) {N : Int} (h0 : 0 ≤ N) (h1 : N ≤ 1000000) {j : Nat} (hj : j < l.length) : Int.tmod (wrap64 (N * rd l (j : Int))) (tot l) = rs l N j := by
  have hp := prod_bound h h0 h1 hj
  generalize hX : N * rd l (j : Int) = X at hp
  have e : rs l N j = X % tot l := by unfold rs; rw [hX]
  rw [w64 (x := X) (by omega) (by omega), e]
  exact Int.tmod_eq_emod_of_nonneg hp.1

/-- how many are left -/
theorem left_c {l : List Int} (h : good l) {N : Int} (h0 : 0 ≤ N) : ∃ c : Nat, c < l.length ∧ N - sm (bs l N) l.length = (c : Int) ∧ sm (rs l N) l.length = (c : Int) * tot l := by
  have ht := (tot_bound h).1
  have hn := h.2.1
  have e1 : sm (fun j => rd l (j : Int) * N) l.length = tot l * N := by
    rw [sm_mul, ← ps_sm l l.length (Nat.le_refl _)]; rfl
  have e2 : sm (fun j => rd l (j : Int) * N) l.length = sm (bs l N) l.length * tot l + sm (rs l N) l.length := by
    rw [← sm_mul, ← sm_add]
    exact sm_congr _ _ _ (fun j _ => by rw [bs_rs h N j, Int.mul_comm])
  have h3 : 0 ≤ sm (rs l N) l.length := sm_nonneg _ _ (fun j _ => (rs_bound h N j).1)
  have h4 : sm (rs l N) l.length ≤ (l.length : Int) * (tot l - 1) := sm_le _ _ _ (fun j _ => by have := (rs_bound h N j).2; omega)
  rw [e1] at e2
  generalize hD : N - sm (bs l N) l.length = D
  have e3 : D * tot l = sm (rs l N) l.length := by rw [← hD, Int.sub_mul, Int.mul_comm N]; omega
  have h5 : (l.length : Int) * (tot l - 1) = (l.length : Int) * tot l - (l.length : Int) := by rw [Int.mul_sub]; omega
  have h6 : 0 ≤ D := by
    rcases Int.lt_or_le D 0 with hneg | hpos
    · have : D * tot l < 0 := Int.mul_neg_of_neg_of_pos hneg (by omega)
      omega
    · exact hpos
  have h7 : D < (l.length : Int) := by
    rcases Int.lt_or_le D (l.length : Int) with hlt | hge
    · exact hlt
    · have : (l.length : Int) * tot l ≤ D * tot l := Int.mul_le_mul_of_nonneg_right hge (by omega)
      omega
  obtain ⟨c, rfl⟩ := Int.eq_ofNat_of_zero_le h6
  exact ⟨c, by omega, rfl, e3.symm⟩
theorem sm_bs_bound {l : List Int} (h : good l) {N : Int} (h0 : 0 ≤ N) (h1 : N ≤ 1000000) (i : Nat) (hi : i ≤ l.length) : 0 ≤ sm (bs l N) i ∧ sm (bs l N) i ≤ 1000000000 := by
  have hn := h.1
  refine ⟨sm_nonneg _ _ (fun j hj => (bs_bound h h0 h1 (by omega)).1), ?_⟩
  have := sm_le (bs l N) 1000000 i (fun j hj => (bs_bound h h0 h1 (by omega)).2)
  omega
theorem cnt_bound (n : Nat) (rest : Nat → Int) (c j : Nat) : 0 ≤ cnt n rest c j ∧ cnt n rest c j ≤ 1 := by
  rw [cnt_sel]
  split <;> omega

/-- the shares, as a list -/
def shl1 (l : List Int) (N : Int) (c : Nat) : List Int := tab l.length (fun j => bs l N j + cnt l.length (rs l N) c j)
theorem shl1_length (l : List Int) (N : Int) (c : Nat) : (shl1 l N c).length = l.length := tab_length _ _
theorem shl1_rd {l : List Int} {N : Int} {c j : Nat} (hj : j < l.length) : rd (shl1 l N c) (j : Int) = bs l N j + cnt l.length (rs l N) c j := rd_tab _ _ _ hj
theorem shl1_succ {l : List Int} (h : good l) {N : Int} (h0 : 0 ≤ N) (h1 : N ≤ 1000000) {c b : Nat} (hc : c < l.length) (hb : b < l.length) (hat : (O l.length (rs l N))[c]'(by rw [O_length]; exact hc) = ⟨(b : Int), rs l N b⟩) : (shl1 l N c).set b (wrap64 (rd (shl1 l N c) (b : Int) + 1)) = shl1 l N (c + 1) := by
  have b1 := bs_bound h h0 h1 hb
  have b2 := cnt_bound l.length (rs l N) c b
  rw [shl1_rd hb, w64 (by omega) (by omega)]
  unfold shl1
  rw [tab_set]
  refine tab_congr _ _ _ (fun j hj => ?_)
  rw [cnt_succ hc hat j]
  by_cases hjb : j = b
  · subst hjb; simp; omega
  · simp [hjb]
theorem shl1_zero (l : List Int) (N : Int) : shl1 l N 0 = tab l.length (bs l N) := tab_congr _ _ _ (fun j _ => by rw [cnt_zero]; omega)

/-- the program's last loop -/
theorem sh_l1 {l : List Int} (h : good l) {N : Int} (h0 : 0 ≤ N) (h1 : N ≤ 1000000) {c : Nat} (hc : c < l.length) (d : Nat) : ∀ i : Nat, c - i = d → i ≤ c →
    Ev (fun k => energy_Shares.l1 k (shl1 l N i) ((O l.length (rs l N)).take c) (c : Int) (i : Int)) (shl1 l N c, 0) := by
  have hn := h.1
  induction d with
  | zero =>
    intro i hd hi
    obtain rfl : i = c := by omega
    have g1 : ¬ ((i : Nat) : Int) < (i : Int) := by omega
    refine ev_step ?_
    simp only [energy_Shares.l1, g1, if_false]
    exact Ev.now _
  | succ d ih =>
    intro i hd hi
    have hic : i < c := by omega
    have hin : i < l.length := by omega
    have hd2 : c - (i + 1) = d := by omega
    have hi2 : i + 1 ≤ c := by omega
    have g1 : (i : Int) < (c : Int) := by omega
    have g2 : 0 ≤ (i : Int) := by omega
    have g3 := wrap_succ (i := i) (by omega)
    obtain ⟨b, hb, hat⟩ := O_at (rest := rs l N) hin
    have gl : (((O l.length (rs l N)).take c).length : Int) = (c : Int) := by rw [List.length_take, O_length]; omega
    have e1 : rd_T56 ((O l.length (rs l N)).take c) (i : Int) = ⟨(b : Int), rs l N b⟩ := by
      have hlt : i < ((O l.length (rs l N)).take c).length := by rw [List.length_take, O_length]; omega
      unfold rd_T56
      rw [Int.toNat_natCast, List.getD_eq_getElem?_getD, List.getElem?_eq_getElem hlt, List.getElem_take]
      simp only [Option.getD_some]
      exact hat
    have g4 : 0 ≤ (b : Int) := by omega
    have g5 : (b : Int) < ((shl1 l N i).length : Int) := by rw [shl1_length]; omega
    have e2 := shl1_succ h h0 h1 hin hb hat
    have ihn := ih (i + 1) hd2 hi2
    refine ev_step ?_
    simp only [energy_Shares.l1, g1, g2, g3, gl, e1, g4, g5, Int.toNat_natCast, e2, if_true]
    exact ihn

def part (l : List Int) (f : Nat → Int) (i : Nat) : List Int := tab l.length (fun j => if j < i then f j else 0)
theorem part_length (l : List Int) (f : Nat → Int) (i : Nat) : (part l f i).length = l.length := tab_length _ _
theorem part_set {l : List Int} (f : Nat → Int) {i : Nat} (hi : i < l.length) : (part l f i).set i (f i) = part l f (i + 1) := by
  unfold part
  rw [tab_set]
  refine tab_congr _ _ _ (fun j hj => ?_)
  by_cases h : j = i
  · subst h; simp
  · by_cases h2 : j < i
    · simp [h, h2, show j < i + 1 by omega]
    · simp [h, h2, show ¬ j < i + 1 by omega]
theorem part_zero (l : List Int) (f : Nat → Int) : part l f 0 = List.replicate l.length 0 := by
  rw [rep_tab]
  exact tab_congr _ _ _ (fun j _ => by simp)
theorem part_all (l : List Int) (f : Nat → Int) : part l f l.length = tab l.length f := tab_congr _ _ _ (fun j hj => by rw [if_pos hj])
theorem part_rd {l : List Int} (f : Nat → Int) {i : Nat} (hi : i < l.length) : rd (part l f (i + 1)) (i : Int) = f i := by
  unfold part
  rw [rd_tab _ _ _ hi, if_pos (by omega)]

def ordi (l : List Int) (N : Int) (i : Nat) : List S56 := (List.range i).map (fun (j : Nat) => (⟨(j : Int), rs l N j⟩ : S56))
theorem ordi_succ (l : List Int) (N : Int) (i : Nat) : ordi l N i ++ [(⟨(i : Int), rs l N i⟩ : S56)] = ordi l N (i + 1) := by simp [ordi, List.range_succ]
theorem ordi_length (l : List Int) (N : Int) (i : Nat) : (ordi l N i).length = i := by simp [ordi]

/-- the program's first loop -/
theorem sh_l0 {l : List Int} (h : good l) {N : Int} (h0 : 0 ≤ N) (h1 : N ≤ 1000000) {c : Nat} (hc : c < l.length) (hl : N - sm (bs l N) l.length = (c : Int)) (d : Nat) : ∀ i : Nat, l.length - i = d → i ≤ l.length →
    Ev (fun k => energy_Shares.l0 k N (tot l) (part l (bs l N) i) (ordi l N i) (N - sm (bs l N) i) l (l.length : Int) (i : Int)) (shl1 l N c, 0) := by
  have hn := h.1
  induction d with
  | zero =>
    intro i hd hi
    obtain rfl : i = l.length := by omega
    have g1 : ¬ ((l.length : Nat) : Int) < (l.length : Int) := by omega
    have hf : energy_share_28.f (ordi l N l.length) (N - sm (bs l N) l.length) = some ((O l.length (rs l N)).take c) := by
      unfold energy_share_28.f
      rw [hl, ordi_length, if_pos ⟨h.2.1, by omega, by omega, by omega⟩, Int.toNat_natCast]
      rfl
    have gl : (((O l.length (rs l N)).take c).length : Int) = (c : Int) := by rw [List.length_take, O_length]; omega
    have := sh_l1 h h0 h1 hc _ 0 rfl (by omega)
    rw [shl1_zero, ← part_all] at this
    refine ev_step ?_
    simp only [energy_Shares.l0, g1, if_false, hf, Option.bind_some, gl]
    exact this
  | succ d ih =>
    intro i hd hi
    have hlt : i < l.length := by omega
    have hd2 : l.length - (i + 1) = d := by omega
    have hi2 : i + 1 ≤ l.length := by omega
    have g1 : (i : Int) < (l.length : Int) := by omega
    have g2 : 0 ≤ (i : Int) := by omega
    have g3 := wrap_succ (i := i) (by omega)
    have gt : ¬ tot l = 0 := by have := (tot_bound h).1; omega
    have gp : ((part l (bs l N) i).length : Int) = (l.length : Int) := by rw [part_length]
    have e1 := bs_eq h h0 h1 hlt
    have e2 := rs_eq h h0 h1 hlt
    have e3 := part_set (bs l N) hlt
    have e4 := part_rd (bs l N) hlt
    have e5 := ordi_succ l N i
    have e6 : (ordi l N i).length < 8796093022208 := by
      rw [ordi_length]
      exact Nat.lt_of_lt_of_le hlt (Nat.le_trans hn (Nat.le_of_ble_eq_true rfl))
    have e7 : wrap64 (N - sm (bs l N) i - bs l N i) = N - sm (bs l N) (i + 1) := by
      have b1 := sm_bs_bound h h0 h1 i (by omega)
      have b2 := bs_bound h h0 h1 hlt
      simp only [sm]
      generalize sm (bs l N) i = s at b1
      generalize bs l N i = t at b2
      rw [w64 (by omega) (by omega)]
      omega
    have ihn := ih (i + 1) hd2 hi2
    refine ev_step ?_
    simp only [energy_Shares.l0, g1, g2, g3, gt, gp, e1, e2, Int.toNat_natCast, e3, e4, e5, e6, e7, if_true, if_false, Option.bind_some]
    exact ihn

/-- what Shares answers -/
theorem shares_f (l : List Int) (N : Int) : ∃ r, Ev (fun k => energy_Shares.f k l N) r ∧
    ((¬ good l ∧ r = ([], err l)) ∨ (good l ∧ (N < 0 ∨ N > 1000000) ∧ r = ([], 2)) ∨ (good l ∧ 0 ≤ N ∧ N ≤ 1000000 ∧ ∃ c : Nat, c < l.length ∧ N - sm (bs l N) l.length = (c : Int) ∧ sm (rs l N) l.length = (c : Int) * tot l ∧ r = (shl1 l N c, 0))) := by
  have hs := sums_f l
  by_cases h : good l
  · rw [if_pos h] at hs
    have hlen := tab_length l.length (fun j => ps l (j + 1))
    have hlast := last_ps h
    generalize hT : tab l.length (fun j => ps l (j + 1)) = T at hs hlen hlast
    by_cases h0 : N < 0
    · refine ⟨_, ?_, .inr (.inl ⟨h, .inl h0, rfl⟩)⟩
      simp only [energy_Shares.f]
      refine Ev.bind hs ?_
      simp only [h0, if_true]
      refine ev_step ?_
      simp only [energy_Shares.j0, if_true]
      exact Ev.now _
    · by_cases h1 : N > 1000000
      · refine ⟨_, ?_, .inr (.inl ⟨h, .inr h1, rfl⟩)⟩
        simp only [energy_Shares.f]
        refine Ev.bind hs ?_
        simp only [h0, h1, if_true, if_false, decide_true]
        refine ev_step ?_
        simp only [energy_Shares.j0, if_true]
        exact Ev.now _
      · have h0' : 0 ≤ N := by omega
        have h1' : N ≤ 1000000 := by omega
        obtain ⟨c, hc, hl, hr⟩ := left_c h h0'
        refine ⟨_, ?_, .inr (.inr ⟨h, h0', h1', c, hc, hl, hr, rfl⟩)⟩
        have hm := sh_l0 h h0' h1' hc hl _ 0 rfl (by omega)
        have e0 : ordi l N 0 = [] := rfl
        have e1 : N - sm (bs l N) 0 = N := by simp [sm]
        rw [part_zero, e0, e1] at hm
        have hn := h.1
        have hpos := h.2.1
        have g1 : 0 ≤ wrap64 ((T.length : Int) - 1) := by rw [hlen, w64 (by omega) (by omega)]; omega
        have g2 : wrap64 ((T.length : Int) - 1) < (T.length : Int) := by rw [hlen, w64 (by omega) (by omega)]; omega
        have g3 : 0 ≤ (l.length : Int) := by omega
        have g4 : l.length ≤ 35184372088832 := Nat.le_trans hn (Nat.le_of_ble_eq_true rfl)
        simp only [energy_Shares.f]
        refine Ev.bind hs ?_
        simp only [h0, h1, if_true, if_false, decide_false]
        refine ev_step ?_
        simp only [energy_Shares.j0, Bool.false_eq_true, if_false, g1, g2, g3, g4, Int.toNat_natCast, if_true, hlast]
        exact hm
  · rw [if_neg h] at hs
    refine ⟨_, ?_, .inl ⟨h, rfl⟩⟩
    have e0 : ¬ err l = 0 := by
      unfold err
      split
      · decide
      · simp [h]
    simp only [energy_Shares.f]
    refine Ev.bind hs ?_
    simp only [e0, if_false]
    exact Ev.now _
end Go.Proofs.Ytpkdmhplmgbfaaa.A

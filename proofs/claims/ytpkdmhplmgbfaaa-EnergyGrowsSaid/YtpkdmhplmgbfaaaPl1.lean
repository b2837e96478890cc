/- Plain facts on energies: the sums, the errors, what Choose comes to in the program and in the reference. No memory and no Go in it: lists and numbers alone. -/
import Derived.Test.YtpkdmhplmgbfaaaChoose
set_option linter.unusedVariables false
set_option linter.unusedSimpArgs false
namespace Go.Proofs.Ytpkdmhplmgbfaaa.A
open Go.RowKit Go.Proofs.YtpkdmhplmgbfaaaW.PrintWords Go.Proofs.YtpkdmhplmgbfaaaW.PrintLast Go.Proofs.YtpkdmhplmgbfaaaW.PrintMore

theorem w64 {x : Int} (h0 : -9223372036854775808 ≤ x) (h1 : x ≤ 9223372036854775807) : wrap64 x = x := by unfold wrap64; omega

/-! lists by their values -/
def tab (n : Nat) (f : Nat → Int) : List Int := (List.range n).map f
theorem tab_length (n : Nat) (f : Nat → Int) : (tab n f).length = n := by simp [tab]
theorem rd_tab (n : Nat) (f : Nat → Int) (j : Nat) (h : j < n) : rd (tab n f) (j : Int) = f j := by simp [rd, tab, List.getD_eq_getElem?_getD, h]
theorem tab_set (n : Nat) (f : Nat → Int) (i : Nat) (v : Int) : (tab n f).set i v = tab n (fun j => if j = i then v else f j) := by
  apply List.ext_getElem (by simp [tab])
  intro j h1 h2
  simp only [tab, List.getElem_set, List.getElem_map, List.getElem_range]
  by_cases h : i = j
  · subst h; simp
  · simp [h, Ne.symm h]
theorem tab_self (l : List Int) : l = tab l.length (fun j => rd l (j : Int)) := by
  apply List.ext_getElem (by simp [tab])
  intro j h1 h2
  simp [tab, rd, List.getD_eq_getElem?_getD, h1]
theorem tab_congr (n : Nat) (f g : Nat → Int) (h : ∀ j, j < n → f j = g j) : tab n f = tab n g := by
  unfold tab
  exact List.map_congr_left (fun j hj => h j (by simpa using hj))
theorem rep_tab (n : Nat) (v : Int) : List.replicate n v = tab n (fun _ => v) := by
  apply List.ext_getElem (by simp [tab])
  intro j h1 h2
  simp [tab]
theorem rd_mem {l : List Int} {j : Nat} (h : j < l.length) : rd l (j : Int) ∈ l := by
  simp [rd, List.getD_eq_getElem?_getD, h]
theorem drop_cons {l : List Int} {i : Nat} (h : i < l.length) : l.drop i = rd l (i : Int) :: l.drop (i + 1) := by
  rw [List.drop_eq_getElem_cons h]
  simp [rd, List.getD_eq_getElem?_getD, h]

/-! the sums of the first ones -/
def ps (l : List Int) (i : Nat) : Int := (l.take i).sum
theorem ps_zero (l : List Int) : ps l 0 = 0 := by simp [ps]
theorem ps_succ (l : List Int) (i : Nat) (h : i < l.length) : ps l (i + 1) = ps l i + rd l (i : Int) := by
  unfold ps
  rw [List.take_succ_eq_append_getElem h, List.sum_append]
  simp [rd, List.getD_eq_getElem?_getD, h]
def good (l : List Int) : Prop := l.length ≤ 1000 ∧ 0 < l.length ∧ ∀ x ∈ l, 1 ≤ x ∧ x ≤ 1000000000
instance (l : List Int) : Decidable (good l) := by unfold good; infer_instance
def err (l : List Int) : Int := if l.length > 1000 then 3 else if good l then 0 else 2
theorem good_rd {l : List Int} (h : good l) (j : Nat) (hj : j < l.length) : 1 ≤ rd l (j : Int) ∧ rd l (j : Int) ≤ 1000000000 := h.2.2 _ (rd_mem hj)
theorem ps_bound {l : List Int} (h : good l) (i : Nat) (hi : i ≤ l.length) : (i : Int) ≤ ps l i ∧ ps l i ≤ 1000000000 * (i : Int) := by
  induction i with
  | zero => simp [ps_zero]
  | succ i ih =>
    have h1 := ih (by omega)
    have h2 := good_rd h i (by omega)
    rw [ps_succ l i (by omega)]
    omega
theorem ps_mono {l : List Int} (h : good l) (i j : Nat) (hij : i ≤ j) (hj : j ≤ l.length) : ps l i + ((j : Int) - (i : Int)) ≤ ps l j := by
  induction j with
  | zero => obtain rfl : i = 0 := by omega
            simp
  | succ j ih =>
    rcases Nat.lt_or_ge i (j + 1) with h1 | h1
    · have h2 := ih (by omega) (by omega)
      have h3 := good_rd h j (by omega)
      rw [ps_succ l j (by omega)]
      omega
    · obtain rfl : i = j + 1 := by omega
      omega
def tot (l : List Int) : Int := ps l l.length
theorem tot_bound {l : List Int} (h : good l) : 1 ≤ tot l ∧ tot l ≤ 1000000000000 := by
  have h1 := ps_bound h l.length (Nat.le_refl _)
  have h2 := h.1
  have h3 := h.2.1
  unfold tot
  omega

/-! the program's check and sums -/
theorem min_loop (l : List Int) (hn : l.length ≤ 1000) (d : Nat) : ∀ (i : Nat) (m : Int), l.length - i = d → i ≤ l.length → ∃ r, Ev (fun k => slices_Min_int64_int64.l0 k l m (i : Int)) r ∧ ∀ b, b ≤ r ↔ b ≤ m ∧ ∀ x ∈ l.drop i, b ≤ x := by
  induction d with
  | zero =>
    intro i m hd hi
    refine ⟨m, Ev.step (fun k => rfl) ?_, fun b => by simp [List.drop_eq_nil_of_le (show l.length ≤ i by omega)]⟩
    have h1 : ¬ (i : Int) < (l.length : Int) := by omega
    simp only [slices_Min_int64_int64.l0, h1, if_false]
    exact Ev.now _
  | succ d ih =>
    intro i m hd hi
    obtain ⟨r, hr, hb⟩ := ih (i + 1) (mn m (rd l (i : Int))) (by omega) (by omega)
    refine ⟨r, Ev.step (fun k => rfl) ?_, fun b => ?_⟩
    · have h1 : (i : Int) < (l.length : Int) := by omega
      have h2 : 0 ≤ (i : Int) := by omega
      have h3 : wrap64 ((i : Int) + 1) = ((i + 1 : Nat) : Int) := by rw [w64 (by omega) (by omega)]; omega
      simp only [slices_Min_int64_int64.l0, h1, h2, h3, if_true]
      exact hr
    · rw [hb, drop_cons (show i < l.length by omega)]
      simp only [List.mem_cons, forall_eq_or_imp]
      unfold mn
      split <;> constructor <;> intro h <;> refine ⟨?_, ?_⟩ <;> first | exact h.2.2 | (refine ⟨?_, ?_⟩ <;> first | exact h.2 | omega) | exact h.2 | omega
theorem max_loop (l : List Int) (hn : l.length ≤ 1000) (d : Nat) : ∀ (i : Nat) (m : Int), l.length - i = d → i ≤ l.length → ∃ r, Ev (fun k => slices_Max_int64_int64.l0 k l m (i : Int)) r ∧ ∀ b, r ≤ b ↔ m ≤ b ∧ ∀ x ∈ l.drop i, x ≤ b := by
  induction d with
  | zero =>
    intro i m hd hi
    refine ⟨m, Ev.step (fun k => rfl) ?_, fun b => by simp [List.drop_eq_nil_of_le (show l.length ≤ i by omega)]⟩
    have h1 : ¬ (i : Int) < (l.length : Int) := by omega
    simp only [slices_Max_int64_int64.l0, h1, if_false]
    exact Ev.now _
  | succ d ih =>
    intro i m hd hi
    obtain ⟨r, hr, hb⟩ := ih (i + 1) (mx m (rd l (i : Int))) (by omega) (by omega)
    refine ⟨r, Ev.step (fun k => rfl) ?_, fun b => ?_⟩
    · have h1 : (i : Int) < (l.length : Int) := by omega
      have h2 : 0 ≤ (i : Int) := by omega
      have h3 : wrap64 ((i : Int) + 1) = ((i + 1 : Nat) : Int) := by rw [w64 (by omega) (by omega)]; omega
      simp only [slices_Max_int64_int64.l0, h1, h2, h3, if_true]
      exact hr
    · rw [hb, drop_cons (show i < l.length by omega)]
      simp only [List.mem_cons, forall_eq_or_imp]
      unfold mx
      split <;> constructor <;> intro h <;> refine ⟨?_, ?_⟩ <;> first | exact h.2.2 | (refine ⟨?_, ?_⟩ <;> first | exact h.2 | omega) | exact h.2 | omega

theorem min_f (l : List Int) (h0 : 0 < l.length) (hn : l.length ≤ 1000) : ∃ r, Ev (fun k => slices_Min_int64_int64.f k l) r ∧ ∀ b, b ≤ r ↔ ∀ x ∈ l, b ≤ x := by
  obtain ⟨r, hr, hb⟩ := min_loop l hn _ 1 (rd l 0) rfl (by omega)
  refine ⟨r, ?_, fun b => ?_⟩
  · have h1 : ¬ (l.length : Int) < 1 := by omega
    have h2 : 0 < (l.length : Int) := by omega
    simp only [slices_Min_int64_int64.f, h1, h2, if_true, if_false]
    exact hr
  · rw [hb]
    have := drop_cons (l := l) (i := 0) h0
    rw [List.drop_zero] at this
    conv => rhs; rw [this]
    simp
theorem max_f (l : List Int) (h0 : 0 < l.length) (hn : l.length ≤ 1000) : ∃ r, Ev (fun k => slices_Max_int64_int64.f k l) r ∧ ∀ b, r ≤ b ↔ ∀ x ∈ l, x ≤ b := by
  obtain ⟨r, hr, hb⟩ := max_loop l hn _ 1 (rd l 0) rfl (by omega)
  refine ⟨r, ?_, fun b => ?_⟩
  · have h1 : ¬ (l.length : Int) < 1 := by omega
    have h2 : 0 < (l.length : Int) := by omega
    simp only [slices_Max_int64_int64.f, h1, h2, if_true, if_false]
    exact hr
  · rw [hb]
    have := drop_cons (l := l) (i := 0) h0
    rw [List.drop_zero] at this
    conv => rhs; rw [this]
    simp

def stt (l : List Int) (i : Nat) : List Int := tab l.length (fun j => if j < i then ps l (j + 1) else rd l (j : Int))
theorem sums_loop (l : List Int) (h : good l) (d : Nat) : ∀ (i : Nat), l.length - i = d → 1 ≤ i → i ≤ l.length → Ev (fun k => energy_sums.l0 k l (stt l i) (i : Int)) (tab l.length (fun j => ps l (j + 1)), 0) := by
  induction d with
  | zero =>
    intro i hd h1 hi
    refine Ev.step (fun k => rfl) ?_
    have h2 : ¬ (i : Int) < (l.length : Int) := by omega
    simp only [energy_sums.l0, h2, if_false]
    have : stt l i = tab l.length (fun j => ps l (j + 1)) := tab_congr _ _ _ (fun j hj => by rw [if_pos (by omega)])
    rw [this]
    exact Ev.now _
  | succ d ih =>
    intro i hd h1 hi
    have hlt : i < l.length := by omega
    have hn := h.1
    refine Ev.step (fun k => rfl) ?_
    have g1 : (i : Int) < (l.length : Int) := by omega
    have g2 : 0 ≤ (i : Int) := by omega
    have g3 : ((stt l i).length : Int) = (l.length : Int) := by unfold stt; rw [tab_length]
    have g4 : wrap64 ((i : Int) - 1) = ((i - 1 : Nat) : Int) := by rw [w64 (by omega) (by omega)]; omega
    have g5 : 0 ≤ ((i - 1 : Nat) : Int) := by omega
    have g6 : ((i - 1 : Nat) : Int) < (l.length : Int) := by omega
    have g7 : wrap64 ((i : Int) + 1) = ((i + 1 : Nat) : Int) := by rw [w64 (by omega) (by omega)]; omega
    have e1 : rd (stt l i) (i : Int) = rd l (i : Int) := by unfold stt; rw [rd_tab _ _ _ hlt, if_neg (by omega)]
    have e2 : rd (stt l i) ((i - 1 : Nat) : Int) = ps l i := by
      unfold stt
      rw [rd_tab _ _ _ (by omega), if_pos (by omega), show i - 1 + 1 = i by omega]
    have b1 := good_rd h i hlt
    have b2 := ps_bound h i hi
    have e3 : wrap64 (rd l (i : Int) + ps l i) = ps l (i + 1) := by rw [w64 (by omega) (by omega), ps_succ l i hlt]; omega
    have e4 : (stt l i).set (i : Int).toNat (ps l (i + 1)) = stt l (i + 1) := by
      unfold stt
      rw [Int.toNat_natCast, tab_set]
      refine tab_congr _ _ _ (fun j hj => ?_)
      by_cases hji : j = i
      · subst hji; simp
      · by_cases hlt2 : j < i
        · simp [hji, hlt2, show j < i + 1 by omega]
        · simp [hji, hlt2, show ¬ j < i + 1 by omega]
    simp only [energy_sums.l0, g1, g2, g3, g4, g5, g6, g7, e1, e2, e3, e4, if_true]
    exact ih (i + 1) (by omega) (by omega) (by omega)

theorem sums_f (l : List Int) : Ev (fun k => energy_sums.f k l) (if good l then (tab l.length (fun j => ps l (j + 1)), 0) else ([], err l)) := by
  by_cases h1 : l.length > 1000
  · have h2 : (l.length : Int) > 1000 := by omega
    have h3 : ¬ good l := fun h => by have := h.1; omega
    simp only [energy_sums.f, h2, h3, err, h1, if_true, if_false]
    exact Ev.now _
  · have h2 : ¬ (l.length : Int) > 1000 := by omega
    by_cases h0 : l.length = 0
    · have h3 : ¬ good l := fun h => by have := h.2.1; omega
      have h4 : (l.length : Int) = 0 := by omega
      simp only [energy_sums.f, h2, h3, h4, err, h1, if_true, if_false]
      exact Ev.now _
    · have h4 : ¬ (l.length : Int) = 0 := by omega
      obtain ⟨r, hr, hb⟩ := min_f l (by omega) (by omega)
      obtain ⟨s, hs, hc⟩ := max_f l (by omega) (by omega)
      simp only [energy_sums.f, h2, h4, if_false]
      refine Ev.bind hr ?_
      by_cases h5 : r < 1
      · have h6 : ¬ good l := fun h => by
          have := (hb 1).2 (fun x hx => (h.2.2 x hx).1)
          omega
        simp only [h5, h6, err, h1, if_true, if_false]
        exact Ev.now _
      · simp only [h5, if_false]
        refine Ev.bind hs ?_
        by_cases h7 : s > 1000000000
        · have h6 : ¬ good l := fun h => by
            have := (hc 1000000000).2 (fun x hx => (h.2.2 x hx).2)
            omega
          simp only [h7, h6, err, h1, if_true, if_false]
          exact Ev.now _
        · have h6 : good l := ⟨by omega, by omega, fun x hx => ⟨(hb 1).1 (by omega) x hx, (hc 1000000000).1 (by omega) x hx⟩⟩
          have h8 : slices_Clone_int64_int64.f l = some l := by unfold slices_Clone_int64_int64.f; simp; omega
          simp only [h7, h6, h8, if_true, if_false, Option.bind_some]
          have e : stt l 1 = l := by
            conv => rhs; rw [tab_self l]
            refine tab_congr _ _ _ (fun j hj => ?_)
            by_cases hj0 : j < 1
            · obtain rfl : j = 0 := by omega
              rw [if_pos (by omega), ps_succ l 0 (by omega), ps_zero]; simp
            · rw [if_neg hj0]
          have := sums_loop l h6 _ 1 rfl (Nat.le_refl _) (by omega)
          rw [e] at this
          exact this
end Go.Proofs.Ytpkdmhplmgbfaaa.A

/- Plain facts on energies: which program is chosen, in the program and in the reference. No memory and no Go in it: lists and numbers alone. -/
import Derived.Test.YtpkdmhplmgbfaaaPl1
import Derived.Test.YtpkdmhplmgbfaaaShown
import Derived.Test.YtpkdmhplmgbfaaaAx6
import Derived.OpenShut
set_option linter.unusedVariables false
set_option linter.unusedSimpArgs false
namespace Go.Proofs.Ytpkdmhplmgbfaaa.A
open Go.RowKit Go.Proofs.YtpkdmhplmgbfaaaW.PrintWords Go.Proofs.YtpkdmhplmgbfaaaW.PrintLast Go.Proofs.YtpkdmhplmgbfaaaW.PrintMore

/-- the next state -/
def nxt (a : Int) : Int := IntKind.u64.wrap (a + 11400714819323198485)
theorem bits_nonneg (op : BinOp) (x y : Int) : 0 ≤ Go.bits op .u64 x y := (bounds_u64 (wf_bits op .u64 x y)).1
theorem wrap_u64_id (s : Int) (h0 : 0 ≤ s) (h1 : s < 18446744073709551616) : IntKind.u64.wrap s = s := by simp [IntKind.wrap, IntKind.bits, IntKind.signed]; omega
theorem draw_f (t s : Int) (h1 : 1 ≤ s) (h2 : s ≤ 1000000000000) : ∃ x, gen_Draw.f t s = some x ∧ cupelref06_Draw.f t s = some x ∧ 0 ≤ x ∧ x < s := by
  have e := wrap_u64_id s (by omega) (by omega)
  have g1 : ¬ s ≤ 0 := by omega
  have g2 : ¬ s < 1 := by omega
  have g3 : ¬ s = 0 := by omega
  unfold gen_Draw.f cupelref06_Draw.f
  simp only [e, g1, g2, g3, if_false]
  refine ⟨_, rfl, rfl, ?_⟩
  generalize hX : Go.bits .xor .u64 (IntKind.u64.wrap _) _ = X
  have hx0 : 0 ≤ X := by rw [← hX]; exact bits_nonneg _ _ _
  have h3 : 0 ≤ X.tmod s := Int.tmod_nonneg _ hx0
  have h4 : X.tmod s < s := Int.tmod_lt_of_pos _ (by omega)
  rw [w64 (by omega) (by omega)]
  exact ⟨h3, h4⟩

/-- which one a number falls to -/
theorem falls {l : List Int} (h : good l) (x : Int) (h0 : 0 ≤ x) (h1 : x < tot l) : ∃ m, m < l.length ∧ ps l m ≤ x ∧ x < ps l (m + 1) := by
  have key : ∀ n, n ≤ l.length → x < ps l n → ∃ m, m < n ∧ ps l m ≤ x ∧ x < ps l (m + 1) := by
    intro n
    induction n with
    | zero => intro _ h2; rw [ps_zero] at h2; omega
    | succ n ih =>
      intro hn h2
      by_cases h3 : x < ps l n
      · obtain ⟨m, a, b, c⟩ := ih (by omega) h3
        exact ⟨m, by omega, b, c⟩
      · exact ⟨n, by omega, by omega, h2⟩
  exact key _ (Nat.le_refl _) h1
theorem falls_one {l : List Int} (h : good l) (x : Int) {m m' : Nat} (a : m < l.length) (b : ps l m ≤ x) (c : x < ps l (m + 1)) (a' : m' < l.length) (b' : ps l m' ≤ x) (c' : x < ps l (m' + 1)) : m = m' := by
  rcases Nat.lt_trichotomy m m' with h1 | h1 | h1
  · have := ps_mono h (m + 1) m' (by omega) (by omega); omega
  · exact h1
  · have := ps_mono h (m' + 1) m (by omega) (by omega); omega
theorem count_lt (n m : Nat) (h : m ≤ n) : (List.range n).countP (fun j => decide (j < m)) = m := by
  induction n with
  | zero => obtain rfl : m = 0 := by omega
            simp
  | succ n ih =>
    rw [List.range_succ, List.countP_append]
    rcases Nat.lt_or_ge m (n + 1) with h1 | h1
    · rw [ih (by omega)]; simp; omega
    · obtain rfl : m = n + 1 := by omega
      have e : (List.range n).countP (fun j => decide (j < n + 1)) = n := by
        rw [List.countP_eq_length.2 (fun j hj => by simp at hj ⊢; omega)]; simp
      rw [e]; simp
theorem count_ps {l : List Int} (h : good l) (x : Int) {m : Nat} (a : m < l.length) (b : ps l m ≤ x) (c : x < ps l (m + 1)) : (tab l.length (fun j => ps l (j + 1))).countP (fun y => decide (y ≤ x)) = m := by
  unfold tab
  rw [List.countP_map, ← count_lt l.length m (by omega)]
  refine List.countP_congr (fun j hj => ?_)
  have hj' : j < l.length := by simpa using hj
  simp only [Function.comp_apply, decide_eq_true_eq]
  constructor
  · intro h1
    rcases Nat.lt_or_ge j m with h2 | h2
    · exact h2
    · have := ps_mono h (m + 1) (j + 1) (by omega) (by omega); omega
  · intro h1
    have := ps_mono h (j + 1) m (by omega) (by omega); omega
theorem sorted_ps {l : List Int} (h : good l) : (tab l.length (fun j => ps l (j + 1))).Pairwise (· ≤ ·) := by
  unfold tab
  rw [List.pairwise_map]
  refine List.pairwise_lt_range.imp_of_mem (fun {a b} ha hb hab => ?_)
  have hb' : b < l.length := by simpa using hb
  have := ps_mono h (a + 1) (b + 1) (by omega) (by omega); omega
theorem last_ps {l : List Int} (h : good l) : rd (tab l.length (fun j => ps l (j + 1))) (wrap64 (((tab l.length (fun j => ps l (j + 1))).length : Int) - 1)) = tot l := by
  have h1 := h.1
  have h2 := h.2.1
  have e : wrap64 (((tab l.length (fun j => ps l (j + 1))).length : Int) - 1) = ((l.length - 1 : Nat) : Int) := by rw [tab_length, w64 (by omega) (by omega)]; omega
  rw [e, rd_tab _ _ _ (by omega)]
  unfold tot
  congr 1
  omega

/-- The program's choice. -/
theorem choose_good {l : List Int} (h : good l) (a : Int) : ∃ m x, gen_Draw.f (nxt a) (tot l) = some x ∧ cupelref06_Draw.f (nxt a) (tot l) = some x ∧ 0 ≤ x ∧ m < l.length ∧ ps l m ≤ x ∧ x < ps l (m + 1) ∧ Ev (fun k => energy_Choose.f k l a) ((m : Int), nxt a, 0) := by
  have hb := tot_bound h
  obtain ⟨x, hx, hx2, h0, h1⟩ := draw_f (nxt a) (tot l) hb.1 hb.2
  obtain ⟨m, ha, hp, hq⟩ := falls h x h0 h1
  refine ⟨m, x, hx, hx2, h0, ha, hp, hq, ?_⟩
  have hs := sums_f l
  rw [if_pos h] at hs
  simp only [energy_Choose.f]
  refine Ev.bind hs ?_
  have g1 : 0 < (tab l.length (fun j => ps l (j + 1))).length ∧ (tab l.length (fun j => ps l (j + 1))).length < 1000000 ∧ (tab l.length (fun j => ps l (j + 1))).Pairwise (· ≤ ·) := by
    rw [tab_length]
    exact ⟨h.2.1, by have := h.1; omega, sorted_ps h⟩
  have g2 : gen_Next.f a = some (nxt a) := rfl
  simp only [if_true, g2, Option.bind_some, g1, last_ps h, hx, count_ps h x ha hp hq, and_self]
  exact Ev.now _
theorem choose_bad {l : List Int} (h : ¬ good l) (a : Int) : Ev (fun k => energy_Choose.f k l a) (0, 0, err l) := by
  have hs := sums_f l
  rw [if_neg h] at hs
  simp only [energy_Choose.f]
  refine Ev.bind hs ?_
  have : ¬ err l = 0 := by
    unfold err
    split
    · decide
    · simp [h]
  simp only [this, if_false]
  exact Ev.now _

/-! the reference -/
def okE (x : Int) : Prop := 1 ≤ x ∧ x ≤ 1000000000
theorem check_loop (l : List Int) (hn : l.length ≤ 1000) (d : Nat) : ∀ (i : Nat), l.length - i = d → i ≤ l.length → (∀ x ∈ l.take i, 1 ≤ x ∧ x ≤ 1000000000) → Ev (fun k => cupelref34_Check.l0 k l (i : Int)) (if good l then 0 else 2) := by
  induction d with
  | zero =>
    intro i hd hi hall
    refine Ev.step (fun k => rfl) ?_
    have h1 : ¬ (i : Int) < (l.length : Int) := by omega
    rw [List.take_of_length_le (by omega)] at hall
    by_cases h0 : l.length = 0
    · have h2 : ¬ good l := fun h => by have := h.2.1; omega
      have h3 : (l.length : Int) = 0 := by omega
      simp only [cupelref34_Check.l0, h1, h2, h3, if_true, if_false]
      exact Ev.now _
    · have h2 : good l := ⟨hn, by omega, hall⟩
      have h3 : ¬ (l.length : Int) = 0 := by omega
      simp only [cupelref34_Check.l0, h1, h2, h3, if_true, if_false]
      exact Ev.now _
  | succ d ih =>
    intro i hd hi hall
    have hlt : i < l.length := by omega
    refine Ev.step (fun k => rfl) ?_
    have h1 : (i : Int) < (l.length : Int) := by omega
    have h2 : 0 ≤ (i : Int) := by omega
    have h3 : wrap64 ((i : Int) + 1) = ((i + 1 : Nat) : Int) := by rw [w64 (by omega) (by omega)]; omega
    by_cases h4 : rd l (i : Int) < 1
    · have h5 : ¬ good l := fun h => by have := good_rd h i hlt; omega
      simp only [cupelref34_Check.l0, h1, h2, h4, h5, if_true, if_false]
      exact Ev.now _
    · by_cases h6 : rd l (i : Int) > 1000000000
      · have h5 : ¬ good l := fun h => by have := good_rd h i hlt; omega
        simp only [cupelref34_Check.l0, h1, h2, h4, h5, h6, if_true, if_false]
        exact Ev.now _
      · simp only [cupelref34_Check.l0, h1, h2, h3, h4, h6, if_true, if_false]
        refine ih (i + 1) (by omega) (by omega) (fun x hx => ?_)
        rw [List.take_succ_eq_append_getElem hlt] at hx
        rcases List.mem_append.1 hx with hx | hx
        · exact hall x hx
        · have : x = rd l (i : Int) := by
            have := List.mem_singleton.1 hx
            rw [this]; simp [rd, List.getD_eq_getElem?_getD, hlt]
          omega
theorem check_f (l : List Int) : Ev (fun k => cupelref34_Check.f k l) (err l) := by
  by_cases h1 : l.length > 1000
  · have h2 : (l.length : Int) > 1000 := by omega
    simp only [cupelref34_Check.f, h2, err, h1, if_true]
    exact Ev.now _
  · have h2 : ¬ (l.length : Int) > 1000 := by omega
    simp only [cupelref34_Check.f, h2, err, h1, if_false]
    exact check_loop l (by omega) _ 0 rfl (by omega) (by simp)
theorem sum_loop {l : List Int} (h : good l) (d : Nat) : ∀ (i : Nat), l.length - i = d → i ≤ l.length → Ev (fun k => cupelref34_Sum.l0 k l (ps l i) (i : Int)) (tot l) := by
  have hn := h.1
  induction d with
  | zero =>
    intro i hd hi
    refine Ev.step (fun k => rfl) ?_
    have h1 : ¬ (i : Int) < (l.length : Int) := by omega
    simp only [cupelref34_Sum.l0, h1, if_false]
    obtain rfl : i = l.length := by omega
    exact Ev.now _
  | succ d ih =>
    intro i hd hi
    have hlt : i < l.length := by omega
    refine Ev.step (fun k => rfl) ?_
    have h1 : (i : Int) < (l.length : Int) := by omega
    have h2 : 0 ≤ (i : Int) := by omega
    have h3 : wrap64 ((i : Int) + 1) = ((i + 1 : Nat) : Int) := by rw [w64 (by omega) (by omega)]; omega
    have b1 := good_rd h i hlt
    have b2 := ps_bound h i hi
    have h4 : wrap64 (ps l i + rd l (i : Int)) = ps l (i + 1) := by rw [w64 (by omega) (by omega), ps_succ l i hlt]
    simp only [cupelref34_Sum.l0, h1, h2, h3, h4, if_true]
    exact ih (i + 1) (by omega) (by omega)
theorem sum_f {l : List Int} (h : good l) : Ev (fun k => cupelref34_Sum.f k l) (tot l) := by
  have := sum_loop h _ 0 rfl (by omega)
  rw [ps_zero] at this
  exact this
theorem rchoose_loop {l : List Int} (h : good l) (t x : Int) (m : Nat) (hm : m < l.length) (hp : ps l m ≤ x) (hq : x < ps l (m + 1)) (hx : x ≤ 1000000000000) (d : Nat) : ∀ (i : Nat), m - i = d → i ≤ m → Ev (fun k => cupelref34_Choose.l0 k l t (x - ps l i) (i : Int)) ((m : Int), t, 0) := by
  have hn := h.1
  induction d with
  | zero =>
    intro i hd hi
    obtain rfl : i = m := by omega
    refine Ev.step (fun k => rfl) ?_
    have h1 : (i : Int) < (l.length : Int) := by omega
    have h2 : 0 ≤ (i : Int) := by omega
    rw [ps_succ l i hm] at hq
    have h3 : ¬ x - ps l i ≥ rd l (i : Int) := by omega
    simp only [cupelref34_Choose.l0, h1, h2, h3, if_true, if_false]
    exact Ev.now _
  | succ d ih =>
    intro i hd hi
    have hlt : i < l.length := by omega
    refine Ev.step (fun k => rfl) ?_
    have h1 : (i : Int) < (l.length : Int) := by omega
    have h2 : 0 ≤ (i : Int) := by omega
    have h3 : wrap64 ((i : Int) + 1) = ((i + 1 : Nat) : Int) := by rw [w64 (by omega) (by omega)]; omega
    have e := ps_succ l i hlt
    have b0 := ps_mono h (i + 1) m (by omega) (by omega)
    have b1 := ps_bound h i (by omega)
    have b2 := good_rd h i hlt
    have h4 : x - ps l i ≥ rd l (i : Int) := by omega
    have h5 : wrap64 (x - ps l i - rd l (i : Int)) = x - ps l (i + 1) := by rw [w64 (by omega) (by omega)]; omega
    simp only [cupelref34_Choose.l0, h1, h2, h3, h4, h5, if_true]
    exact ih (i + 1) (by omega) (by omega)
theorem rchoose_f (l : List Int) (a : Int) : ∃ r, Ev (fun k => energy_Choose.f k l a) r ∧ Ev (fun k => cupelref34_Choose.f k l a) r := by
  by_cases h : good l
  · obtain ⟨m, x, hx, hx2, h0, ha, hp, hq, hc⟩ := choose_good h a
    refine ⟨_, hc, ?_⟩
    have hb := tot_bound h
    have hpn := ps_mono h (m + 1) l.length (by omega) (Nat.le_refl _)
    have htot : ps l l.length = tot l := rfl
    have e0 : err l = 0 := by
      have := h.1
      unfold err
      rw [if_neg (by omega), if_pos h]
    have hck := check_f l
    rw [e0] at hck
    simp only [cupelref34_Choose.f]
    refine Ev.bind hck ?_
    have g2 : cupelref06_Next.f a = some (nxt a) := rfl
    simp only [if_true, g2, Option.bind_some]
    refine Ev.bind (sum_f h) ?_
    simp only [hx2, Option.bind_some]
    have := rchoose_loop h (nxt a) x m ha hp hq (by omega) _ 0 rfl (by omega)
    rw [ps_zero, Int.sub_zero] at this
    exact this
  · refine ⟨_, choose_bad h a, ?_⟩
    have e0 : ¬ err l = 0 := by
      unfold err
      split
      · decide
      · simp [h]
    simp only [cupelref34_Choose.f]
    refine Ev.bind (check_f l) ?_
    simp only [e0, if_false]
    exact Ev.now _
theorem EnergyChoices : cupellaw34_EnergyChoices.Pure := by
  intro l a _ _ _ _
  refine Ev.rounds ?_
  simp only [cupellaw34_EnergyChoices.f]
  refine Ev.bind shown_ev ?_
  by_cases h1 : (l.length : Int) > 2000
  · simp only [h1, if_true]
    exact Ev.now _
  · simp only [h1, if_true, if_false]
    obtain ⟨r, hr, hr'⟩ := rchoose_f l a
    refine Ev.bind hr ?_
    refine Ev.bind hr' ?_
    simp
    exact Ev.now _
end Go.Proofs.Ytpkdmhplmgbfaaa.A

/- Plain facts on shares: they are exact: the law EnergyExact. No memory and no Go in it: lists and numbers alone. -/
import Derived.Test.YtpkdmhplmgbfaaaPl6
set_option linter.unusedVariables false
set_option linter.unusedSimpArgs false
set_option maxHeartbeats 400000
namespace Go.Proofs.Ytpkdmhplmgbfaaa.A
open Go.RowKit Go.Proofs.YtpkdmhplmgbfaaaW.PrintWords Go.Proofs.YtpkdmhplmgbfaaaW.PrintLast Go.Proofs.YtpkdmhplmgbfaaaW.PrintMore

/-- what is known of the shares -/
structure Exact (l a : List Int) (N : Int) : Prop where
  len : a.length = l.length
  low : ∀ j, j < l.length → 0 ≤ rd a (j : Int) ∧ rd a (j : Int) ≤ 1000001
  sum : sm (fun j => rd a (j : Int)) l.length = N
  near : ∀ j, j < l.length → rd a (j : Int) * tot l - N * rd l (j : Int) < tot l ∧ -tot l < rd a (j : Int) * tot l - N * rd l (j : Int)
  mono : ∀ i j, i < l.length → j < l.length → rd l (i : Int) < rd l (j : Int) → rd a (i : Int) ≤ rd a (j : Int)

theorem exact_mono_aux {l : List Int} (h : good l) {N : Int} (h0 : 0 ≤ N) {c i j : Nat} (hi : i < l.length) (hj : j < l.length) (hr : sm (rs l N) l.length = (c : Int) * tot l) (hlt : rd l (i : Int) < rd l (j : Int)) :
    bs l N i + cnt l.length (rs l N) c i ≤ bs l N j + cnt l.length (rs l N) c j := by
  have ht := (tot_bound h).1
  have ci := cnt_bound l.length (rs l N) c i
  have cj := cnt_bound l.length (rs l N) c j
  have hle : N * rd l (i : Int) ≤ N * rd l (j : Int) := Int.mul_le_mul_of_nonneg_left (Int.le_of_lt hlt) h0
  have hb : bs l N i ≤ bs l N j := Int.ediv_le_ediv (by omega) hle
  rcases Int.lt_or_le (bs l N i) (bs l N j) with hlt2 | hge
  · omega
  · have he : bs l N i = bs l N j := by omega
    have ei := bs_rs h N i
    have ej := bs_rs h N j
    rw [he] at ei
    rw [he]
    have hrest : rs l N i ≤ rs l N j := by omega
    rcases Int.lt_or_le (rs l N i) (rs l N j) with hl | hg
    · have : cnt l.length (rs l N) c i ≤ cnt l.length (rs l N) c j := by
        rw [cnt_sel, cnt_sel]
        by_cases hs : sel l.length (rs l N) c i = true
        · rw [if_pos hs, if_pos (sel_mono hj hi hl hs)]
          omega
        · rw [if_neg hs]
          split <;> omega
      omega
    · have hN : N = 0 := by
        have e1 : N * rd l (i : Int) = N * rd l (j : Int) := by omega
        rcases Int.lt_or_le 0 N with hp | hn
        · have := Int.mul_lt_mul_of_pos_left hlt hp
          omega
        · omega
      subst hN
      have hz : ∀ p, rs l 0 p = 0 := fun p => by unfold rs; simp
      have hs0 : sm (rs l 0) l.length = 0 := by
        rw [sm_congr _ (fun _ => 0 * 0) _ (fun p _ => by rw [hz]; rfl), sm_mul]
        simp
      have hc0 : c = 0 := by
        rw [hs0] at hr
        rcases Nat.eq_zero_or_pos c with h5 | h5
        · exact h5
        · have : 0 < (c : Int) * tot l := Int.mul_pos (by omega) (by omega)
          omega
      subst hc0
      rw [cnt_zero, cnt_zero]
      omega

theorem exact_shares {l : List Int} (h : good l) {N : Int} (h0 : 0 ≤ N) (h1 : N ≤ 1000000) {c : Nat} (hc : c < l.length) (hl : N - sm (bs l N) l.length = (c : Int)) (hr : sm (rs l N) l.length = (c : Int) * tot l) : Exact l (shl1 l N c) N where
  len := shl1_length l N c
  low j hj := by
    have b1 := bs_bound h h0 h1 hj
    have b2 := cnt_bound l.length (rs l N) c j
    rw [shl1_rd hj]
    omega
  sum := by
    rw [sm_congr _ (fun j => bs l N j + cnt l.length (rs l N) c j) _ (fun j hj => shl1_rd hj), sm_add, cnt_sum _ _ _ (by omega)]
    omega
  near j hj := by
    have ht := (tot_bound h).1
    have e := bs_rs h N j
    have hb := rs_bound h N j
    rw [shl1_rd hj, Int.add_mul, ← e, cnt_sel]
    by_cases hs : sel l.length (rs l N) c j = true
    · have hp := sel_pos (by omega) ht (fun p _ => rs_bound h N p) hr hj hs
      rw [if_pos hs, Int.one_mul]
      generalize bs l N j * tot l = X
      omega
    · rw [if_neg hs, Int.zero_mul]
      generalize bs l N j * tot l = X
      omega
  mono i j hi hj hlt := by
    rw [shl1_rd hi, shl1_rd hj]
    exact exact_mono_aux h h0 hi hj hr hlt

/-- the products of the law stay small -/
theorem law_prod {l a : List Int} {N : Int} (h : good l) (h0 : 0 ≤ N) (h1 : N ≤ 1000000) (e : Exact l a N) {j : Nat} (hj : j < l.length) :
    wrap64 (wrap64 (rd a (j : Int) * tot l) - wrap64 (N * rd l (j : Int))) = rd a (j : Int) * tot l - N * rd l (j : Int) := by
  have hb := e.low j hj
  have ht := tot_bound h
  have hp := prod_bound h h0 h1 hj
  have hq := mul_bounds hb.1 hb.2 (show 0 ≤ tot l by omega) ht.2
  generalize rd a (j : Int) * tot l = X at hq
  generalize N * rd l (j : Int) = Y at hp
  rw [w64 (x := X) (by omega) (by omega), w64 (x := Y) (by omega) (by omega), w64 (by omega) (by omega)]

theorem exact_l1 {l a : List Int} {N : Int} (h : good l) (h0 : 0 ≤ N) (h1 : N ≤ 1000000) (e : Exact l a N) (d : Nat) : ∀ i : Nat, l.length - i = d → i ≤ l.length →
    Ev (fun k => cupellaw34_EnergyExact.l1 k l N a (tot l) (i : Int)) true := by
  have hn := h.1
  have hlen := e.len
  induction d with
  | zero =>
    intro i hd hi
    have g1 : ¬ (i : Int) < (l.length : Int) := by omega
    refine ev_step ?_
    simp only [cupellaw34_EnergyExact.l1, g1, if_false]
    exact Ev.now _
  | succ d ih =>
    intro i hd hi
    have hlt : i < l.length := by omega
    have ihn := ih (i + 1) (by omega) (by omega)
    have g1 : (i : Int) < (l.length : Int) := by omega
    have g2 : 0 ≤ (i : Int) := by omega
    have g4 : (i : Int) < (a.length : Int) := by omega
    have gi0 : ¬ (i : Int) > 0 ↔ i = 0 := by omega
    have gim : 0 < i → (0 : Int) ≤ ((i - 1 : Nat) : Int) ∧ ((i - 1 : Nat) : Int) < (l.length : Int) ∧ ((i - 1 : Nat) : Int) < (a.length : Int) ∧ i - 1 < l.length := by omega
    have gwm : 0 < i → wrap64 ((i : Int) - 1) = ((i - 1 : Nat) : Int) := fun hp => by rw [w64 (by omega) (by omega)]; omega
    have hi6 : i < 1000000 := by omega
    have ht := tot_bound h
    have gneg : wrap64 (-tot l) = -tot l := w64 (by omega) (by omega)
    have hnear := e.near i hlt
    have g3 := wrap_succ hi6
    have ep := law_prod h h0 h1 e hlt
    have c1 : ¬ rd a (i : Int) * tot l - N * rd l (i : Int) ≥ tot l := Int.not_le.2 hnear.1
    have c2 : ¬ rd a (i : Int) * tot l - N * rd l (i : Int) ≤ -tot l := Int.not_le.2 hnear.2
    refine ev_step ?_
    simp only [cupellaw34_EnergyExact.l1, g1, g2, g4, ep, gneg, c1, c2, if_true, if_false, decide_false]
    refine ev_step ?_
    simp only [cupellaw34_EnergyExact.j2, Bool.false_eq_true, if_false]
    by_cases hpos : (i : Int) > 0
    · have hip : 0 < i := by
        rcases Nat.eq_zero_or_pos i with h5 | h5
        · exact absurd hpos (gi0.2 h5)
        · exact h5
      obtain ⟨q1, q2, q3, q4⟩ := gim hip
      have q5 := gwm hip
      by_cases m1 : rd l (i : Int) > rd l ((i - 1 : Nat) : Int)
      · have m2 : ¬ rd a (i : Int) < rd a ((i - 1 : Nat) : Int) := Int.not_lt.2 (e.mono (i - 1) i q4 hlt m1)
        have m3 : ¬ rd l (i : Int) < rd l ((i - 1 : Nat) : Int) := fun hq => absurd (Int.lt_trans hq m1) (Int.lt_irrefl _)
        simp only [hpos, g1, g2, q5, q1, q2, q3, g4, m1, m2, m3, g3, if_true, if_false]
        exact ihn
      · by_cases m4 : rd l (i : Int) < rd l ((i - 1 : Nat) : Int)
        · have m5 : ¬ rd a (i : Int) > rd a ((i - 1 : Nat) : Int) := Int.not_lt.2 (e.mono i (i - 1) hlt q4 m4)
          simp only [hpos, g1, g2, q5, q1, q2, q3, g4, m1, m4, m5, g3, if_true, if_false]
          exact ihn
        · simp only [hpos, g1, g2, q5, q1, q2, q3, g4, m1, m4, g3, if_true, if_false]
          exact ihn
    · simp only [hpos, g3, if_false]
      exact ihn

theorem exact_l0 {l a : List Int} {N : Int} (h : good l) (h0 : 0 ≤ N) (h1 : N ≤ 1000000) (e : Exact l a N) (d : Nat) : ∀ i : Nat, l.length - i = d → i ≤ l.length →
    Ev (fun k => cupellaw34_EnergyExact.l0 k l N a (ps l i) (sm (fun j => rd a (j : Int)) i) (i : Int)) true := by
  have hn := h.1
  have hlen := e.len
  induction d with
  | zero =>
    intro i hd hi
    obtain rfl : i = l.length := by omega
    have g1 : ¬ ((l.length : Nat) : Int) < (l.length : Int) := by omega
    have hm := exact_l1 h h0 h1 e _ 0 rfl (by omega)
    have es := e.sum
    have et : ps l l.length = tot l := rfl
    refine ev_step ?_
    simp only [cupellaw34_EnergyExact.l0, g1, es, et, if_true, if_false]
    exact hm
  | succ d ih =>
    intro i hd hi
    have hlt : i < l.length := by omega
    have ihn := ih (i + 1) (by omega) (by omega)
    have g1 : (i : Int) < (l.length : Int) := by omega
    have g2 : 0 ≤ (i : Int) := by omega
    have g4 : (i : Int) < (a.length : Int) := by omega
    have hi6 : i < 1000000 := by omega
    have e1 : wrap64 (ps l i + rd l (i : Int)) = ps l (i + 1) := by
      have b1 := good_rd h i hlt
      have b2 := ps_bound h i hi
      rw [w64 (by omega) (by omega), ps_succ l i hlt]
    have e2 : wrap64 (sm (fun j => rd a (j : Int)) i + rd a (i : Int)) = sm (fun j => rd a (j : Int)) (i + 1) := by
      have b1 := e.low i hlt
      have b2 := sm_nonneg (fun j => rd a (j : Int)) i (fun j hj => (e.low j (Nat.lt_trans hj hlt)).1)
      have b3 := sm_le (fun j => rd a (j : Int)) 1000001 i (fun j hj => (e.low j (Nat.lt_trans hj hlt)).2)
      simp only [sm]
      generalize sm (fun j => rd a (j : Int)) i = s at b2 b3
      generalize rd a (i : Int) = t at b1
      exact w64 (by omega) (by omega)
    have g3 := wrap_succ hi6
    refine ev_step ?_
    simp only [cupellaw34_EnergyExact.l0, g1, g2, g3, g4, e1, e2, if_true]
    exact ihn

theorem EnergyExact : cupellaw34_EnergyExact.Pure := by
  intro l N _ _ _ _
  refine Ev.rounds ?_
  simp only [cupellaw34_EnergyExact.f]
  refine Ev.bind shown_ev ?_
  by_cases h1 : (l.length : Int) > 1000
  · simp only [h1, if_true]
    exact Ev.now _
  · simp only [h1, if_true, if_false]
    obtain ⟨r, hr, hcase⟩ := shares_f l N
    refine Ev.bind hr ?_
    rcases hcase with ⟨hg, rfl⟩ | ⟨hg, hN, rfl⟩ | ⟨hg, h0, h1, c, hc, hl, hs, rfl⟩
    · have e0 : ¬ err l = 0 := by
        unfold err
        split
        · decide
        · simp [hg]
      simp only [e0, if_false]
      exact Ev.now _
    · simp
      exact Ev.now _
    · have he := exact_shares hg h0 h1 hc hl hs
      have hm := exact_l0 hg h0 h1 he _ 0 rfl (by omega)
      rw [ps_zero] at hm
      have el : ((shl1 l N c).length : Int) = (l.length : Int) := by rw [shl1_length]
      simp only [el, if_true]
      exact hm
end Go.Proofs.Ytpkdmhplmgbfaaa.A

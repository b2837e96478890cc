/- Plain facts on shares: what the reference's Shares comes to, and the law EnergyShares. No memory and no Go in it: lists and numbers alone. -/
import Derived.Test.YtpkdmhplmgbfaaaPl5
set_option linter.unusedVariables false
set_option linter.unusedSimpArgs false
set_option maxHeartbeats 400000
namespace Go.Proofs.Ytpkdmhplmgbfaaa.A
open Go.RowKit Go.Proofs.YtpkdmhplmgbfaaaW.PrintWords Go.Proofs.YtpkdmhplmgbfaaaW.PrintLast Go.Proofs.YtpkdmhplmgbfaaaW.PrintMore

/-- the rests that are left -/
def rcl (l : List Int) (N : Int) (c : Nat) : List Int := tab l.length (restc l.length (rs l N) c)
theorem rcl_length (l : List Int) (N : Int) (c : Nat) : (rcl l N c).length = l.length := tab_length _ _
theorem rcl_rd {l : List Int} {N : Int} {c j : Nat} (hj : j < l.length) : rd (rcl l N c) (j : Int) = restc l.length (rs l N) c j := rd_tab _ _ _ hj
theorem rcl_succ {l : List Int} {N : Int} {c b : Nat} (hc : c < l.length) (hat : (O l.length (rs l N))[c]'(by rw [O_length]; exact hc) = ⟨(b : Int), rs l N b⟩) : (rcl l N c).set b (-1) = rcl l N (c + 1) := by
  unfold rcl
  rw [tab_set]
  exact tab_congr _ _ _ (fun j hj => by rw [restc_succ hc hat j])
theorem rcl_zero (l : List Int) (N : Int) : rcl l N 0 = tab l.length (rs l N) := tab_congr _ _ _ (fun j _ => restc_zero _ _ j)

/-- the search for the largest rest -/
theorem ref_l2 {l : List Int} (h : good l) {N : Int} (h0 : 0 ≤ N) (h1 : N ≤ 1000000) {i b : Nat} (hi : i < l.length) (hb : b < l.length) (hat : (O l.length (rs l N))[i]'(by rw [O_length]; exact hi) = ⟨(b : Int), rs l N b⟩)
    (x : Int) (r : List Int × Int) (hnext : Ev (fun k => cupelref34_Shares.l1 k l (shl1 l N (i + 1)) (rcl l N (i + 1)) (wrap64 (x - 1))) r) (d : Nat) :
    ∀ p a : Nat, l.length - p = d → p ≤ l.length → 1 ≤ p → a < p → (∀ j, j < p → restc l.length (rs l N) i j ≤ restc l.length (rs l N) i a) → (∀ j, j < a → restc l.length (rs l N) i j < restc l.length (rs l N) i a) →
    Ev (fun k => cupelref34_Shares.l2 k l (shl1 l N i) (rcl l N i) x (a : Int) (p : Int)) r := by
  have hn := h.1
  obtain ⟨hmb, hmax⟩ := pick_max (fun j hj => (rs_bound h N j).1) hi hb hat
  induction d with
  | zero =>
    intro p a hd hp hp1 hap ha1 ha2
    obtain rfl : p = l.length := by omega
    have hab : a = b := first_max hap hb ha1 ha2 (fun j hj => by rw [hmb]; exact (hmax j hj).1) (fun j hj => by rw [hmb]; exact (hmax j (by omega)).2 hj)
    subst hab
    have g1 : ¬ ((l.length : Nat) : Int) < (l.length : Int) := by omega
    have g2 : 0 ≤ (a : Int) := by omega
    have g3 : (a : Int) < ((shl1 l N i).length : Int) := by rw [shl1_length]; omega
    have g4 : (a : Int) < ((rcl l N i).length : Int) := by rw [rcl_length]; omega
    have e1 := shl1_succ h h0 h1 hi hb hat
    have e2 := rcl_succ hi hat
    refine ev_step ?_
    simp only [cupelref34_Shares.l2, g1, g2, g3, g4, Int.toNat_natCast, e1, e2, if_true, if_false]
    exact hnext
  | succ d ih =>
    intro p a hd hp hp1 hap ha1 ha2
    have hpn : p < l.length := by omega
    have hd2 : l.length - (p + 1) = d := by omega
    have g1 : (p : Int) < (l.length : Int) := by omega
    have g2 : 0 ≤ (p : Int) := by omega
    have g3 : (p : Int) < ((rcl l N i).length : Int) := by rw [rcl_length]; omega
    have g4 : 0 ≤ (a : Int) := by omega
    have g5 : (a : Int) < ((rcl l N i).length : Int) := by rw [rcl_length]; omega
    have han : a < l.length := by omega
    have hp3 : p < 1000000 := by omega
    have hp2 : p + 1 ≤ l.length := by omega
    have hp4 : 1 ≤ p + 1 := by omega
    have hp5 : a < p + 1 := by omega
    have hp6 : p < p + 1 := by omega
    refine ev_step ?_
    by_cases q : restc l.length (rs l N) i p > restc l.length (rs l N) i a
    · have ihn := ih (p + 1) p hd2 hp2 hp4 hp6
        (fun j hj => by
          rcases Nat.lt_or_ge j p with hlt | hge
          · exact Int.le_of_lt (Int.lt_of_le_of_lt (ha1 j hlt) q)
          · obtain rfl : j = p := Nat.le_antisymm (Nat.le_of_lt_succ hj) hge
            exact Int.le_refl _)
        (fun j hj => Int.lt_of_le_of_lt (ha1 j hj) q)
      have g6 := wrap_succ hp3
      have e1 : rd (rcl l N i) (p : Int) = restc l.length (rs l N) i p := rcl_rd hpn
      have e2 : rd (rcl l N i) (a : Int) = restc l.length (rs l N) i a := rcl_rd han
      simp only [cupelref34_Shares.l2, g1, g2, g3, g4, g5, g6, e1, e2, q, if_true]
      exact ihn
    · have ihn := ih (p + 1) a hd2 hp2 hp4 hp5
        (fun j hj => by
          rcases Nat.lt_or_ge j p with hlt | hge
          · exact ha1 j hlt
          · obtain rfl : j = p := Nat.le_antisymm (Nat.le_of_lt_succ hj) hge
            exact Int.not_lt.1 q)
        ha2
      have g6 := wrap_succ hp3
      have e1 : rd (rcl l N i) (p : Int) = restc l.length (rs l N) i p := rcl_rd hpn
      have e2 : rd (rcl l N i) (a : Int) = restc l.length (rs l N) i a := rcl_rd han
      simp only [cupelref34_Shares.l2, g1, g2, g3, g4, g5, g6, e1, e2, q, if_true, if_false]
      exact ihn

/-- the reference's second loop -/
theorem ref_l1 {l : List Int} (h : good l) {N : Int} (h0 : 0 ≤ N) (h1 : N ≤ 1000000) {c : Nat} (hc : c < l.length) (d : Nat) : ∀ i : Nat, c - i = d → i ≤ c →
    Ev (fun k => cupelref34_Shares.l1 k l (shl1 l N i) (rcl l N i) ((c : Int) - (i : Int))) (shl1 l N c, 0) := by
  have hn := h.1
  induction d with
  | zero =>
    intro i hd hi
    obtain rfl : i = c := by omega
    have g1 : ¬ (i : Int) - (i : Int) > 0 := by omega
    refine ev_step ?_
    simp only [cupelref34_Shares.l1, g1, if_false]
    exact Ev.now _
  | succ d ih =>
    intro i hd hi
    have hin : i < l.length := by omega
    obtain ⟨b, hb, hat⟩ := O_at (rest := rs l N) hin
    have ihn := ih (i + 1) (by omega) (by omega)
    have g1 : (c : Int) - (i : Int) > 0 := by omega
    have e1 : wrap64 ((c : Int) - (i : Int) - 1) = (c : Int) - ((i + 1 : Nat) : Int) := by rw [w64 (by omega) (by omega)]; omega
    have hl2 := ref_l2 h h0 h1 hin hb hat ((c : Int) - (i : Int)) _ (by rw [e1]; exact ihn) _ 1 0 rfl h.2.1 (Nat.le_refl _) Nat.zero_lt_one
      (fun j hj => by obtain rfl : j = 0 := Nat.lt_one_iff.1 hj
                      exact Int.le_refl _)
      (fun j hj => absurd hj (Nat.not_lt_zero _))
    refine ev_step ?_
    simp only [cupelref34_Shares.l1, g1, if_true]
    exact hl2

/-- the reference's first loop -/
theorem ref_l0 {l : List Int} (h : good l) {N : Int} (h0 : 0 ≤ N) (h1 : N ≤ 1000000) {c : Nat} (hc : c < l.length) (hl : N - sm (bs l N) l.length = (c : Int)) (d : Nat) : ∀ i : Nat, l.length - i = d → i ≤ l.length →
    Ev (fun k => cupelref34_Shares.l0 k l N (tot l) (part l (bs l N) i) (part l (rs l N) i) (N - sm (bs l N) i) (i : Int)) (shl1 l N c, 0) := by
  have hn := h.1
  induction d with
  | zero =>
    intro i hd hi
    obtain rfl : i = l.length := by omega
    have g1 : ¬ ((l.length : Nat) : Int) < (l.length : Int) := by omega
    have := ref_l1 h h0 h1 hc _ 0 rfl (by omega)
    rw [shl1_zero, rcl_zero, ← part_all, ← part_all, show (c : Int) - ((0 : Nat) : Int) = (c : Int) by omega, ← hl] at this
    refine ev_step ?_
    simp only [cupelref34_Shares.l0, g1, if_false]
    exact this
  | succ d ih =>
    intro i hd hi
    have hlt : i < l.length := by omega
    have hd2 : l.length - (i + 1) = d := by omega
    have hi2 : i + 1 ≤ l.length := by omega
    have g1 : (i : Int) < (l.length : Int) := by omega
    have g2 : 0 ≤ (i : Int) := by omega
    have g3 := wrap_succ (i := i) (by omega)
    have gt : ¬ tot l = 0 := by have := (tot_bound h).1; omega
    have gp : ((part l (bs l N) i).length : Int) = (l.length : Int) := by rw [part_length]
    have gq : ((part l (rs l N) i).length : Int) = (l.length : Int) := by rw [part_length]
    have e1 := bs_eq h h0 h1 hlt
    have e2 := rs_eq h h0 h1 hlt
    have e3 := part_set (bs l N) hlt
    have e4 := part_rd (bs l N) hlt
    have e5 := part_set (rs l N) hlt
    have e7 : wrap64 (N - sm (bs l N) i - bs l N i) = N - sm (bs l N) (i + 1) := by
      have b1 := sm_bs_bound h h0 h1 i (by omega)
      have b2 := bs_bound h h0 h1 hlt
      simp only [sm]
      generalize sm (bs l N) i = s at b1
      generalize bs l N i = t at b2
      rw [w64 (by omega) (by omega)]
      omega
    have ihn := ih (i + 1) hd2 hi2
    refine ev_step ?_
    simp only [cupelref34_Shares.l0, g1, g2, g3, gt, gp, gq, e1, e2, Int.toNat_natCast, e3, e4, e5, e7, if_true, if_false, Option.bind_some]
    exact ihn

theorem both_shares (l : List Int) (N : Int) : ∃ r, Ev (fun k => energy_Shares.f k l N) r ∧ Ev (fun k => cupelref34_Shares.f k l N) r ∧ r.1.length ≤ 1000 := by
  obtain ⟨r, hr, hcase⟩ := shares_f l N
  refine ⟨r, hr, ?_⟩
  have hck := check_f l
  rcases hcase with ⟨hg, rfl⟩ | ⟨hg, hN, rfl⟩ | ⟨hg, h0, h1, c, hc, hl, _, rfl⟩
  · have e0 : ¬ err l = 0 := by
      unfold err
      split
      · decide
      · simp [hg]
    refine ⟨?_, by simp⟩
    simp only [cupelref34_Shares.f]
    refine Ev.bind hck ?_
    simp only [e0, if_false]
    exact Ev.now _
  · have e0 : err l = 0 := by
      have := hg.1
      unfold err
      rw [if_neg (by omega), if_pos hg]
    rw [e0] at hck
    refine ⟨?_, by simp⟩
    simp only [cupelref34_Shares.f]
    refine Ev.bind hck ?_
    by_cases h0 : N < 0
    · simp only [h0, if_true]
      refine ev_step ?_
      simp only [cupelref34_Shares.j0, if_true]
      exact Ev.now _
    · have h1 : N > 1000000 := by omega
      simp only [h0, h1, if_true, if_false, decide_true]
      refine ev_step ?_
      simp only [cupelref34_Shares.j0, if_true]
      exact Ev.now _
  · have e0 : err l = 0 := by
      have := hg.1
      unfold err
      rw [if_neg (by omega), if_pos hg]
    rw [e0] at hck
    have hn := hg.1
    refine ⟨?_, by simp only [shl1_length]; exact hn⟩
    have hm := ref_l0 hg h0 h1 hc hl _ 0 rfl (by omega)
    rw [part_zero, part_zero, show N - sm (bs l N) 0 = N by simp [sm]] at hm
    have q1 : ¬ N < 0 := by omega
    have q2 : ¬ N > 1000000 := by omega
    have g3 : 0 ≤ (l.length : Int) := by omega
    have g4 : l.length ≤ 35184372088832 := Nat.le_trans hn (Nat.le_of_ble_eq_true rfl)
    simp only [cupelref34_Shares.f]
    refine Ev.bind hck ?_
    simp only [q1, q2, if_true, if_false, decide_false]
    refine ev_step ?_
    simp only [cupelref34_Shares.j0, Bool.false_eq_true, if_false]
    refine Ev.bind (sum_f hg) ?_
    simp only [g3, g4, Int.toNat_natCast, if_true]
    exact hm

/-- a list is the same as itself -/
theorem same_self (l : List Int) (hn : l.length ≤ 1000) : Ev (fun k => cupellaw34_same.f k l l) true := by
  have key : ∀ (d i : Nat), l.length - i = d → i ≤ l.length → Ev (fun k => cupellaw34_same.l0 k l l (i : Int)) true := by
    intro d
    induction d with
    | zero =>
      intro i hd hi
      have g1 : ¬ (i : Int) < (l.length : Int) := by omega
      refine ev_step ?_
      simp only [cupellaw34_same.l0, g1, if_false]
      exact Ev.now _
    | succ d ih =>
      intro i hd hi
      have g1 : (i : Int) < (l.length : Int) := by omega
      have g2 : 0 ≤ (i : Int) := by omega
      have ihn := ih (i + 1) (by omega) (by omega)
      have g3 := wrap_succ (i := i) (by omega)
      refine ev_step ?_
      simp only [cupellaw34_same.l0, g1, g2, g3, if_true]
      exact ihn
  simp only [cupellaw34_same.f, if_true]
  exact key _ 0 rfl (by omega)

theorem EnergyShares : cupellaw34_EnergyShares.Pure := by
  intro l N _ _ _ _
  refine Ev.rounds ?_
  simp only [cupellaw34_EnergyShares.f]
  refine Ev.bind shown_ev ?_
  by_cases h1 : (l.length : Int) > 2000
  · simp only [h1, if_true]
    exact Ev.now _
  · simp only [h1, if_true, if_false]
    obtain ⟨r, hr, hr', hlen⟩ := both_shares l N
    refine Ev.bind hr ?_
    refine Ev.bind hr' ?_
    refine Ev.bind (same_self r.1 hlen) ?_
    simp
    exact Ev.now _
end Go.Proofs.Ytpkdmhplmgbfaaa.A

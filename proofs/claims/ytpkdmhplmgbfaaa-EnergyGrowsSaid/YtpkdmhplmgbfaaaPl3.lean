/- Plain facts on energies: an entry divided into two keeps its numbers: the law EnergyParts. No memory and no Go in it: lists and numbers alone. -/
import Derived.Test.YtpkdmhplmgbfaaaPl2
import Derived.Test.YtpkdmhplmgbfaaaAx8
set_option linter.unusedVariables false
set_option linter.unusedSimpArgs false
set_option maxHeartbeats 400000
namespace Go.Proofs.Ytpkdmhplmgbfaaa.A
open Go.RowKit Go.Proofs.YtpkdmhplmgbfaaaW.PrintWords Go.Proofs.YtpkdmhplmgbfaaaW.PrintLast Go.Proofs.YtpkdmhplmgbfaaaW.PrintMore

theorem ev_step {α : Type} {g : Nat → Option α} {r : α} (h : Ev (fun k => g (k + 1)) r) : Ev g r := Ev.step (fun _ => rfl) h
/-- the two parts of entry p -/
def half1 (l : List Int) (p : Nat) : Int := rd l (p : Int) / 2
def half2 (l : List Int) (p : Nat) : Int := rd l (p : Int) - rd l (p : Int) / 2
theorem half1_eq {l : List Int} {p : Nat} (h : 1 ≤ rd l (p : Int) ∧ rd l (p : Int) ≤ 1000000000) : wrap64 (Int.tdiv (rd l (p : Int)) 2) = half1 l p := by
  unfold half1
  rw [Int.tdiv_eq_ediv_of_nonneg (by omega), w64 (by omega) (by omega)]
theorem half2_eq {l : List Int} {p : Nat} (h : 1 ≤ rd l (p : Int) ∧ rd l (p : Int) ≤ 1000000000) : wrap64 (rd l (p : Int) - half1 l p) = half2 l p := by
  unfold half1 half2
  rw [w64 (by omega) (by omega)]
theorem wrap_succ {i : Nat} (h : i < 1000000) : wrap64 ((i : Int) + 1) = ((i + 1 : Nat) : Int) := by rw [w64 (by omega) (by omega)]; omega
def accp (l : List Int) (p i : Nat) : List Int := if i ≤ p then l.take i else l.take p ++ [half1 l p, half2 l p] ++ (l.take i).drop (p + 1)
theorem take_snoc_rd {l : List Int} {i : Nat} (h : i < l.length) : l.take (i + 1) = l.take i ++ [rd l (i : Int)] := by
  rw [List.take_succ_eq_append_getElem h]
  simp [rd, List.getD_eq_getElem?_getD, h]
theorem accp_before {l : List Int} {p i : Nat} (h : i < p) (hp : p < l.length) : accp l p i ++ [rd l (i : Int)] = accp l p (i + 1) := by
  unfold accp
  rw [if_pos (by omega), if_pos (by omega), take_snoc_rd (by omega)]
theorem accp_at {l : List Int} {p : Nat} (hp : p < l.length) : accp l p p ++ [half1 l p, half2 l p] = accp l p (p + 1) := by
  unfold accp
  rw [if_pos (by omega), if_neg (by omega)]
  have : (l.take (p + 1)).drop (p + 1) = [] := List.drop_eq_nil_of_le (by simp; omega)
  rw [this, List.append_nil]
theorem accp_behind {l : List Int} {p i : Nat} (h : p < i) (hi : i < l.length) : accp l p i ++ [rd l (i : Int)] = accp l p (i + 1) := by
  unfold accp
  rw [if_neg (by omega), if_neg (by omega), take_snoc_rd hi, List.drop_append_of_le_length (by simp; omega)]
  simp
theorem accp_length {l : List Int} {p i : Nat} (hi : i ≤ l.length) : (accp l p i).length ≤ i + 1 := by
  unfold accp
  split
  · simp; omega
  · simp; omega

/-- the divided list -/
def div2 (l : List Int) (p : Nat) : List Int := accp l p l.length
theorem div2_eq {l : List Int} {p : Nat} (hp : p < l.length) : div2 l p = l.take p ++ [half1 l p, half2 l p] ++ l.drop (p + 1) := by
  unfold div2 accp
  rw [if_neg (by omega), List.take_length]
theorem div2_length {l : List Int} {p : Nat} (hp : p < l.length) : (div2 l p).length = l.length + 1 := by
  rw [div2_eq hp]
  simp
  omega
theorem ps_low {l : List Int} {p : Nat} (hp : p < l.length) (j : Nat) (hj : j ≤ p) : ps (div2 l p) j = ps l j := by
  unfold ps
  rw [div2_eq hp, List.append_assoc, List.take_append_of_le_length (by simp; omega), List.take_take, Nat.min_eq_left hj]
theorem ps_high {l : List Int} {p : Nat} (hp : p < l.length) (j : Nat) (hj : p < j) (hj2 : j ≤ l.length) : ps (div2 l p) (j + 1) = ps l j := by
  unfold ps
  have e1 : (div2 l p).take (j + 1) = l.take p ++ [half1 l p, half2 l p] ++ (l.take j).drop (p + 1) := by
    rw [div2_eq hp]
    rw [List.take_append]
    have hl : (l.take p ++ [half1 l p, half2 l p]).length = p + 2 := by simp; omega
    rw [List.take_of_length_le (by omega), hl, List.drop_take]
    congr 2
    omega
  have e2 : l.take j = l.take p ++ [rd l (p : Int)] ++ (l.take j).drop (p + 1) := by
    have := (List.take_append_drop (p + 1) (l.take j)).symm
    rw [List.take_take, Nat.min_eq_left (by omega), take_snoc_rd hp] at this
    exact this
  rw [e1]
  conv => rhs; rw [e2]
  simp only [List.sum_append, List.sum_cons, List.sum_nil, half1, half2]
  omega
theorem div2_good {l : List Int} {p : Nat} (h : good l) (h5 : l.length ≤ 500) (hp : p < l.length) (h2 : ¬ rd l (p : Int) < 2) : good (div2 l p) := by
  have hb := good_rd h p hp
  refine ⟨by rw [div2_length hp]; omega, by rw [div2_length hp]; omega, fun x hx => ?_⟩
  rw [div2_eq hp] at hx
  simp only [List.mem_append, List.mem_cons, List.not_mem_nil, or_false] at hx
  unfold half1 half2 at hx
  rcases hx with (hx | hx | hx) | hx
  · exact h.2.2 x (List.mem_of_mem_take hx)
  · omega
  · omega
  · exact h.2.2 x (List.mem_of_mem_drop hx)
theorem div2_tot {l : List Int} {p : Nat} (hp : p < l.length) : tot (div2 l p) = tot l := by
  unfold tot
  rw [div2_length hp]
  exact ps_high hp l.length hp (Nat.le_refl _)

/-- where a number falls in the divided list -/
theorem div2_falls {l : List Int} {p : Nat} (h : good l) (h' : good (div2 l p)) (hp : p < l.length) (x : Int) {m m' : Nat} (a : m < l.length) (b : ps l m ≤ x) (c : x < ps l (m + 1)) (a' : m' < (div2 l p).length) (b' : ps (div2 l p) m' ≤ x) (c' : x < ps (div2 l p) (m' + 1)) :
    (m < p → m' = m) ∧ (m = p → m' = p ∨ m' = p + 1) ∧ (p < m → m' = m + 1) := by
  have hl := div2_length hp
  refine ⟨fun h1 => ?_, fun h1 => ?_, fun h1 => ?_⟩
  · exact falls_one h' x a' b' c' (by omega) (by rw [ps_low hp m (by omega)]; exact b) (by rw [ps_low hp (m + 1) (by omega)]; exact c)
  · subst h1
    by_cases h2 : x < ps (div2 l m) (m + 1)
    · exact .inl (falls_one h' x a' b' c' (by omega) (by rw [ps_low hp m (by omega)]; exact b) h2)
    · exact .inr (falls_one h' x a' b' c' (by omega) (by omega) (by rw [ps_high hp (m + 1) (by omega) (by omega)]; exact c))
  · exact falls_one h' x a' b' c' (by omega) (by rw [ps_high hp m h1 (by omega)]; exact b) (by rw [ps_high hp (m + 1) (by omega) (by omega)]; exact c)

theorem parts_loop {l : List Int} {p : Nat} (h : good l) (h5 : l.length ≤ 500) (hp : p < l.length) (h2 : ¬ rd l (p : Int) < 2) (a : Int) {m x : _} (hx : gen_Draw.f (nxt a) (tot l) = some x) (hm : m < l.length) (hb : ps l m ≤ x) (hc : x < ps l (m + 1)) (d : Nat) :
    ∀ i : Nat, l.length - i = d → i ≤ l.length → Ev (fun k => cupellaw34_EnergyParts.l0 k l (p : Int) a (m : Int) (nxt a) (accp l p i) (i : Int)) true := by
  have hbp := good_rd h p hp
  induction d with
  | zero =>
    intro i hd hi
    obtain rfl : i = l.length := by omega
    refine ev_step ?_
    have g1 : ¬ ((l.length : Nat) : Int) < (l.length : Int) := by omega
    simp only [cupellaw34_EnergyParts.l0, g1, if_false]
    have hg := div2_good h h5 hp h2
    obtain ⟨m', x', hx', _, _, hm', hb', hc', hch⟩ := choose_good hg a
    rw [div2_tot hp, hx] at hx'
    obtain rfl := Option.some.inj hx'
    refine Ev.bind hch ?_
    simp only [if_true, bne_self_eq_false]
    refine ev_step ?_
    obtain ⟨f1, f2, f3⟩ := div2_falls h hg hp x hm hb hc hm' hb' hc'
    simp only [cupellaw34_EnergyParts.j3, Bool.false_eq_true, if_false]
    by_cases q1 : (m : Int) < (p : Int)
    · have := f1 (by omega)
      subst this
      simp only [q1, if_true, beq_self_eq_true]
      exact Ev.now _
    · by_cases q2 : (m : Int) = (p : Int)
      · have hmp : m = p := by omega
        subst hmp
        rcases f2 rfl with rfl | rfl
        · simp only [q1, if_true, if_false]
          exact Ev.now _
        · have q3 : ¬ ((m + 1 : Nat) : Int) = (m : Int) := by omega
          have q4 := wrap_succ (i := m) (by omega)
          simp only [q1, q3, q4, if_true, if_false, beq_self_eq_true]
          exact Ev.now _
      · have := f3 (by omega)
        subst this
        have q4 := wrap_succ (i := m) (by omega)
        simp only [q1, q2, q4, if_false, beq_self_eq_true]
        exact Ev.now _
  | succ d ih =>
    intro i hd hi
    have hlt : i < l.length := by omega
    have hd2 : l.length - (i + 1) = d := by omega
    have hi2 : i + 1 ≤ l.length := by omega
    have hi3 : i + 1 < 1000 := by omega
    have hi4 : i < 1000000 := by omega
    have g1 : (i : Int) < (l.length : Int) := by omega
    have g2 : 0 ≤ (i : Int) := by omega
    have g3 := wrap_succ hi4
    have hip : ¬ (i : Int) = (p : Int) → i < p ∨ p < i := fun hq => Nat.lt_or_gt_of_ne (fun he => hq (by rw [he]))
    have e1 := half1_eq hbp
    have e2 := half2_eq hbp
    have e9 : [half1 l p, half2 l p].length = 2 := rfl
    have ihn := ih (i + 1) hd2 hi2
    have hal : (accp l p i).length < 1000 := Nat.lt_of_le_of_lt (accp_length (l := l) (p := p) (i := i) hi) hi3
    have g5 : (accp l p i).length < 17592186044416 := Nat.lt_of_lt_of_le hal (Nat.le_of_ble_eq_true rfl)
    have g4 : (accp l p i).length + [half1 l p, half2 l p].length < 17592186044416 := by
      rw [e9]
      exact Nat.lt_of_lt_of_le (Nat.add_lt_add_right hal 2) (Nat.le_of_ble_eq_true rfl)
    refine ev_step ?_
    by_cases q : (i : Int) = (p : Int)
    · obtain rfl : i = p := Int.ofNat.inj q
      simp only [cupellaw34_EnergyParts.l0, g1, g2, g3, e1, e2, if_true, Option.bind_some, g4, accp_at hp]
      exact ihn
    · have e3 : accp l p i ++ [rd l (i : Int)] = accp l p (i + 1) := by
        rcases hip q with h3 | h3
        · exact accp_before h3 hp
        · exact accp_behind h3 hlt
      simp only [cupellaw34_EnergyParts.l0, g1, g2, g3, q, if_true, if_false, g5, e3]
      exact ihn

theorem parts_true (l : List Int) (a1 a2 : Int) : Ev (fun k => cupellaw34_EnergyParts.j0 k l a1 a2 true) true := by
  refine ev_step ?_
  simp only [cupellaw34_EnergyParts.j0, if_true]
  exact Ev.now _
theorem EnergyParts : cupellaw34_EnergyParts.Pure := by
  intro l a1 a2 _ _ _ _ _
  refine Ev.rounds ?_
  simp only [cupellaw34_EnergyParts.f]
  refine Ev.bind shown_ev ?_
  simp only [if_true]
  by_cases h1 : (l.length : Int) > 500
  · simp only [h1, if_true]
    exact parts_true l a1 a2
  · by_cases h2 : a1 < 0
    · simp only [h1, h2, if_true, if_false]
      exact parts_true l a1 a2
    · by_cases h3 : a1 ≥ (l.length : Int)
      · simp only [h1, h2, h3, if_false, decide_true]
        exact parts_true l a1 a2
      · simp only [h1, h2, h3, if_false, decide_false]
        refine ev_step ?_
        simp only [cupellaw34_EnergyParts.j0, Bool.false_eq_true, if_false]
        obtain ⟨p, rfl⟩ := Int.eq_ofNat_of_zero_le (show 0 ≤ a1 by omega)
        have hp : p < l.length := by omega
        by_cases hg : good l
        · obtain ⟨m, x, hx, _, _, hm, hb, hc, hch⟩ := choose_good hg a2
          refine Ev.bind hch ?_
          have q1 : ¬ (m : Int) < 0 := by omega
          have q2 : ¬ (m : Int) ≥ (l.length : Int) := by omega
          have q3 : 0 ≤ (p : Int) := by omega
          have q4 : (p : Int) < (l.length : Int) := by omega
          have q5 : nxt a2 = IntKind.u64.wrap (a2 + 11400714819323198485) := rfl
          simp only [if_true, q1, q2, q3, q4, if_false, ← q5]
          refine ev_step ?_
          by_cases h4 : rd l (p : Int) < 2
          · have q6 : (m : Int) ≥ 0 := by omega
            have q7 : (m : Int) < (l.length : Int) := by omega
            simp only [cupellaw34_EnergyParts.j1, h4, decide_true, if_true, q6, q7, ← q5, beq_self_eq_true]
            exact Ev.now _
          · simp only [cupellaw34_EnergyParts.j1, h4, decide_false, Bool.false_eq_true, if_false]
            have := parts_loop hg (by omega) hp h4 a2 hx hm hb hc _ 0 rfl (by omega)
            have e : accp l p 0 = [] := by unfold accp; rw [if_pos (by omega)]; simp
            rw [e] at this
            exact this
        · refine Ev.bind (choose_bad hg a2) ?_
          have e0 : ¬ err l = 0 := by
            unfold err
            split
            · decide
            · simp [hg]
          simp only [e0, if_false, if_true, beq_self_eq_true]
          exact Ev.now _
end Go.Proofs.Ytpkdmhplmgbfaaa.A

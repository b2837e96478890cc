/- Plain facts on the energies of a corpus: what both programs answer, entry by entry: the laws EnergyEntries and EnergyGrows. No memory and no Go in it: lists and numbers alone. -/
import Derived.Test.YtpkdmhplmgbfaaaPl6
import Derived.Test.YtpkdmhplmgbfaaaAx9
set_option linter.unusedVariables false
set_option linter.unusedSimpArgs false
set_option maxHeartbeats 400000
namespace Go.Proofs.Ytpkdmhplmgbfaaa.A
open Go.RowKit Go.Proofs.YtpkdmhplmgbfaaaW.PrintWords Go.Proofs.YtpkdmhplmgbfaaaW.PrintLast Go.Proofs.YtpkdmhplmgbfaaaW.PrintMore

def okN (a b c d : Int) : Bool := okB a && okB b && okB c && decide (1 ≤ d ∧ d ≤ 400)
theorem okN_iff {a b c d : Int} : okN a b c d = true ↔ (0 ≤ a ∧ a ≤ 1000000) ∧ (0 ≤ b ∧ b ≤ 1000000) ∧ (0 ≤ c ∧ c ≤ 1000000) ∧ (1 ≤ d ∧ d ≤ 400) := by
  simp [okN, okB]; omega
def rawv (a b c d : Int) : Int := 1000 * (b + 1) * (4 * c + 1) / (a + 1) / ((d - 1) / 50 + 1)
def clip (n : Int) : Int := mn (mx 1 n) 1000000000
theorem clip_le {m n : Int} (h : m ≤ n) : clip m ≤ clip n := by
  simp only [clip, mn, mx]
  repeat' split
  all_goals omega
theorem clip_bounds (n : Int) : 1 ≤ clip n ∧ clip n ≤ 1000000000 := by
  simp only [clip, mn, mx]
  split <;> split <;> omega
theorem clip_flip (n : Int) : mn (mx n 1) 1000000000 = clip n := by
  simp only [clip, mn, mx]
  repeat' split
  all_goals omega
theorem tdiv_pos {x y : Int} (h : 0 ≤ x) : Int.tdiv x y = x / y := Int.tdiv_eq_ediv_of_nonneg h
theorem div_bounds {x y X : Int} (h0 : 0 ≤ x) (h1 : x ≤ X) (hy : 1 ≤ y) : 0 ≤ x / y ∧ x / y ≤ X := by
  refine ⟨Int.ediv_nonneg h0 (by omega), ?_⟩
  exact Int.le_trans (Int.ediv_le_self _ h0) h1
/-- what both programs reckon -/
theorem reckon {a b c d : Int} (h : okN a b c d = true) :
    wrap64 (Int.tdiv (wrap64 (Int.tdiv (wrap64 ((wrap64 (1000 * (wrap64 (b + 1)))) * (wrap64 ((wrap64 (4 * c)) + 1)))) (wrap64 (a + 1)))) (wrap64 ((wrap64 (Int.tdiv (wrap64 (d - 1)) 50)) + 1))) = rawv a b c d := by
  obtain ⟨ha, hb, hc, hd⟩ := okN_iff.1 h
  have e1 : wrap64 (b + 1) = b + 1 := w64 (by omega) (by omega)
  have e2 : wrap64 (1000 * (b + 1)) = 1000 * (b + 1) := w64 (by omega) (by omega)
  have e3 : wrap64 (4 * c) = 4 * c := w64 (by omega) (by omega)
  have e4 : wrap64 (4 * c + 1) = 4 * c + 1 := w64 (by omega) (by omega)
  have hp : 0 ≤ (1000 * (b + 1)) * (4 * c + 1) ∧ (1000 * (b + 1)) * (4 * c + 1) ≤ 1000001000 * 4000001 := mul_bounds (by omega) (by omega) (by omega) (by omega)
  have e5 : wrap64 ((1000 * (b + 1)) * (4 * c + 1)) = (1000 * (b + 1)) * (4 * c + 1) := w64 (by omega) (by omega)
  have e6 : wrap64 (a + 1) = a + 1 := w64 (by omega) (by omega)
  have e7 : wrap64 (d - 1) = d - 1 := w64 (by omega) (by omega)
  have e8 : Int.tdiv (d - 1) 50 = (d - 1) / 50 := tdiv_pos (by omega)
  have e9 : wrap64 ((d - 1) / 50) = (d - 1) / 50 := w64 (by omega) (by omega)
  have e10 : wrap64 ((d - 1) / 50 + 1) = (d - 1) / 50 + 1 := w64 (by omega) (by omega)
  have g1 : 1 ≤ a + 1 := by omega
  have g2 : 1 ≤ (d - 1) / 50 + 1 := by omega
  have hq := div_bounds hp.1 hp.2 g1
  have e11 : Int.tdiv ((1000 * (b + 1)) * (4 * c + 1)) (a + 1) = (1000 * (b + 1)) * (4 * c + 1) / (a + 1) := tdiv_pos hp.1
  have e12 : wrap64 ((1000 * (b + 1)) * (4 * c + 1) / (a + 1)) = (1000 * (b + 1)) * (4 * c + 1) / (a + 1) := w64 (by omega) (by omega)
  have hr := div_bounds hq.1 hq.2 g2
  have e13 : Int.tdiv ((1000 * (b + 1)) * (4 * c + 1) / (a + 1)) ((d - 1) / 50 + 1) = (1000 * (b + 1)) * (4 * c + 1) / (a + 1) / ((d - 1) / 50 + 1) := tdiv_pos hq.1
  have e14 : wrap64 ((1000 * (b + 1)) * (4 * c + 1) / (a + 1) / ((d - 1) / 50 + 1)) = (1000 * (b + 1)) * (4 * c + 1) / (a + 1) / ((d - 1) / 50 + 1) := w64 (by omega) (by omega)
  rw [e1, e2, e3, e4, e5, e6, e11, e12, e7, e8, e9, e10, e13, e14]
  rfl
def okS (x : S40) : Bool := okN x.f0 x.f1 x.f2 x.f3
def sv (x : S40) : Int := clip (rawv x.f0 x.f1 x.f2 x.f3)
theorem ref_energy {a b c d : Int} (h : okN a b c d = true) : cupelref34_energy.f a b c d = some (clip (rawv a b c d)) := by
  obtain ⟨ha, hb, hc, hd⟩ := okN_iff.1 h
  have n1 : wrap64 (1 + a) = 1 + a := w64 (by omega) (by omega)
  have n2 : wrap64 (1 + (wrap64 (Int.tdiv (wrap64 (d - 1)) 50))) = 1 + (d - 1) / 50 := by
    have e7 : wrap64 (d - 1) = d - 1 := w64 (by omega) (by omega)
    have e8 : Int.tdiv (d - 1) 50 = (d - 1) / 50 := tdiv_pos (by omega)
    have e9 : wrap64 ((d - 1) / 50) = (d - 1) / 50 := w64 (by omega) (by omega)
    rw [e7, e8, e9]
    exact w64 (by omega) (by omega)
  have m1 : ¬ wrap64 (1 + a) = 0 := by rw [n1]; omega
  have m2 : ¬ wrap64 (1 + (wrap64 (Int.tdiv (wrap64 (d - 1)) 50))) = 0 := by rw [n2]; omega
  have hk := reckon h
  rw [Int.add_comm b 1, Int.add_comm (wrap64 (4 * c)) 1, Int.add_comm a 1, Int.add_comm (wrap64 (Int.tdiv (wrap64 (d - 1)) 50)) 1] at hk
  simp only [cupelref34_energy.f, m1, m2, if_false]
  rw [hk, clip_flip]

def en : List S40 → List Int → List Int × Int
  | [], acc => (acc, 0)
  | x :: xs, acc => if okS x = true then en xs (acc ++ [sv x]) else ([], 2)
theorem drop_cons40 {l : List S40} {i : Nat} (h : i < l.length) : l.drop i = rd_T40 l (i : Int) :: l.drop (i + 1) := by
  rw [List.drop_eq_getElem_cons h]
  simp [rd_T40, List.getD_eq_getElem?_getD, h]

theorem en_loop (l : List S40) (hn : l.length ≤ 1000) (d : Nat) : ∀ (i : Nat) (acc : List Int), l.length - i = d → i ≤ l.length → acc.length ≤ i →
    Ev (fun k => energy_Energies.l0 k acc l (l.length : Int) (i : Int)) (en (l.drop i) acc) := by
  induction d with
  | zero =>
    intro i acc hd hi ha
    have g1 : ¬ (i : Int) < (l.length : Int) := by omega
    rw [List.drop_eq_nil_of_le (by omega)]
    refine ev_step ?_
    simp only [energy_Energies.l0, g1, if_false]
    exact Ev.now _
  | succ d ih =>
    intro i acc hd hi ha
    have hlt : i < l.length := by omega
    have ihn := ih (i + 1) (acc ++ [sv (rd_T40 l (i : Int))]) (by omega) (by omega) (by simp; omega)
    have g1 : (i : Int) < (l.length : Int) := by omega
    have g2 : 0 ≤ (i : Int) := by omega
    have g3 : acc.length < 17592186044416 := by omega
    have hi6 : i < 1000000 := by omega
    rw [drop_cons40 hlt]
    refine ev_step ?_
    by_cases hok : okS (rd_T40 l (i : Int)) = true
    · have hk := reckon hok
      obtain ⟨ha', hb, hc, hd'⟩ := okN_iff.1 hok
      have b1 : ¬ mn (mn ((rd_T40 l (i : Int)).f0) ((rd_T40 l (i : Int)).f1)) ((rd_T40 l (i : Int)).f2) < 0 := by
        simp only [mn]; repeat' split
        all_goals omega
      have b2 : ¬ mx (mx ((rd_T40 l (i : Int)).f0) ((rd_T40 l (i : Int)).f1)) ((rd_T40 l (i : Int)).f2) > 1000000 := by
        simp only [mx]; repeat' split
        all_goals omega
      have b3 : ¬ (rd_T40 l (i : Int)).f3 < 1 := by omega
      have b4 : ¬ (rd_T40 l (i : Int)).f3 > 400 := by omega
      have b5 : ¬ wrap64 ((rd_T40 l (i : Int)).f0 + 1) = 0 := by rw [w64 (by omega) (by omega)]; omega
      have b6 : ¬ wrap64 ((wrap64 (Int.tdiv (wrap64 ((rd_T40 l (i : Int)).f3 - 1)) 50)) + 1) = 0 := by
        have e7 : wrap64 ((rd_T40 l (i : Int)).f3 - 1) = (rd_T40 l (i : Int)).f3 - 1 := w64 (by omega) (by omega)
        have e8 : Int.tdiv ((rd_T40 l (i : Int)).f3 - 1) 50 = ((rd_T40 l (i : Int)).f3 - 1) / 50 := tdiv_pos (by omega)
        have e9 : wrap64 (((rd_T40 l (i : Int)).f3 - 1) / 50) = ((rd_T40 l (i : Int)).f3 - 1) / 50 := w64 (by omega) (by omega)
        rw [e7, e8, e9, w64 (by omega) (by omega)]
        omega
      simp only [energy_Energies.l0, g1, g2, g3, b1, b2, b3, b4, b5, b6, if_true, if_false]
      rw [hk, wrap_succ hi6]
      simp only [en, hok, if_true]
      exact ihn
    · have hv := (not_congr okN_iff).1 hok
      simp only [en, hok, if_false]
      have key : (mn (mn ((rd_T40 l (i : Int)).f0) ((rd_T40 l (i : Int)).f1)) ((rd_T40 l (i : Int)).f2) < 0) ∨ (mx (mx ((rd_T40 l (i : Int)).f0) ((rd_T40 l (i : Int)).f1)) ((rd_T40 l (i : Int)).f2) > 1000000) ∨ (rd_T40 l (i : Int)).f3 < 1 ∨ (rd_T40 l (i : Int)).f3 > 400 := by
        simp only [mn, mx]; repeat' split
        all_goals omega
      simp only [energy_Energies.l0, g1, g2, if_true]
      by_cases c1 : mn (mn ((rd_T40 l (i : Int)).f0) ((rd_T40 l (i : Int)).f1)) ((rd_T40 l (i : Int)).f2) < 0
      · simp only [c1, if_true]; exact Ev.now _
      by_cases c2 : mx (mx ((rd_T40 l (i : Int)).f0) ((rd_T40 l (i : Int)).f1)) ((rd_T40 l (i : Int)).f2) > 1000000
      · simp only [c1, c2, if_true, if_false]; exact Ev.now _
      by_cases c3 : (rd_T40 l (i : Int)).f3 < 1
      · simp only [c1, c2, c3, if_true, if_false]; exact Ev.now _
      by_cases c4 : (rd_T40 l (i : Int)).f3 > 400
      · simp only [c1, c2, c3, c4, if_true, if_false]; exact Ev.now _
      exact absurd key (by simp only [not_or]; exact ⟨c1, c2, c3, c4⟩)

theorem ren_loop (l : List S40) (hn : l.length ≤ 1000) (d : Nat) : ∀ (i : Nat) (acc : List Int), l.length - i = d → i ≤ l.length → acc.length ≤ i →
    Ev (fun k => cupelref34_Energies.l0 k l acc (i : Int)) (en (l.drop i) acc) := by
  induction d with
  | zero =>
    intro i acc hd hi ha
    have g1 : ¬ (i : Int) < (l.length : Int) := by omega
    rw [List.drop_eq_nil_of_le (by omega)]
    refine ev_step ?_
    simp only [cupelref34_Energies.l0, g1, if_false]
    exact Ev.now _
  | succ d ih =>
    intro i acc hd hi ha
    have hlt : i < l.length := by omega
    have ihn := ih (i + 1) (acc ++ [sv (rd_T40 l (i : Int))]) (by omega) (by omega) (by simp; omega)
    have g1 : (i : Int) < (l.length : Int) := by omega
    have g2 : 0 ≤ (i : Int) := by omega
    have g3 : acc.length < 17592186044416 := by omega
    have hi6 : i < 1000000 := by omega
    rw [drop_cons40 hlt]
    refine ev_step ?_
    have hva : cupelref34_valid.f ((rd_T40 l (i : Int)).f0) ((rd_T40 l (i : Int)).f1) ((rd_T40 l (i : Int)).f2) ((rd_T40 l (i : Int)).f3) = some (okS (rd_T40 l (i : Int))) := rfl
    by_cases hok : okS (rd_T40 l (i : Int)) = true
    · have he := ref_energy hok
      simp only [cupelref34_Energies.l0, g1, g2, g3, hva, hok, he, if_true, if_false, Option.bind_some]
      rw [wrap_succ hi6]
      simp only [en, hok, if_true]
      exact ihn
    · simp only [cupelref34_Energies.l0, g1, g2, g3, hva, hok, if_true, if_false, Option.bind_some]
      simp only [en, hok, if_false]
      exact Ev.now _
theorem en_length (l : List S40) : ∀ acc, (en l acc).1.length ≤ acc.length + l.length := by
  induction l with
  | nil => intro acc; simp [en]
  | cons x xs ih =>
    intro acc
    simp only [en]
    split
    · have := ih (acc ++ [sv x]); simp at this ⊢; omega
    · simp
def enf (l : List S40) : List Int × Int := if l.length > 1000 then ([], 3) else en l []
theorem enf_length (l : List S40) : (enf l).1.length ≤ 1000 := by
  simp only [enf]; split
  · simp
  · have := en_length l []; simp at this; omega
theorem en_f (l : List S40) : Ev (fun k => energy_Energies.f k l) (enf l) := by
  by_cases h : l.length > 1000
  · have g : (l.length : Int) > 1000 := by omega
    simp only [energy_Energies.f, enf, h, g, if_true]
    exact Ev.now _
  · have g : ¬ (l.length : Int) > 1000 := by omega
    have k := en_loop l (by omega) _ 0 [] rfl (by omega) (by simp)
    simp only [energy_Energies.f, enf, h, g, if_false]
    simpa using k
theorem ren_f (l : List S40) : Ev (fun k => cupelref34_Energies.f k l) (enf l) := by
  by_cases h : l.length > 1000
  · have g : (l.length : Int) > 1000 := by omega
    simp only [cupelref34_Energies.f, enf, h, g, if_true]
    exact Ev.now _
  · have g : ¬ (l.length : Int) > 1000 := by omega
    have k := ren_loop l (by omega) _ 0 [] rfl (by omega) (by simp)
    simp only [cupelref34_Energies.f, enf, h, g, if_false]
    simpa using k
theorem entries_loop (l : List Int) (hn : l.length ≤ 1000) (d : Nat) : ∀ (i : Nat), l.length - i = d → i ≤ l.length → Ev (fun k => cupellaw34_EnergyEntries.l0 k l l (i : Int)) true := by
  induction d with
  | zero =>
    intro i hd hi
    have g1 : ¬ (i : Int) < (l.length : Int) := by omega
    refine ev_step ?_
    simp only [cupellaw34_EnergyEntries.l0, g1, if_false]
    exact Ev.now _
  | succ d ih =>
    intro i hd hi
    have ihn := ih (i + 1) (by omega) (by omega)
    have g1 : (i : Int) < (l.length : Int) := by omega
    have g2 : 0 ≤ (i : Int) := by omega
    have hi6 : i < 1000000 := by omega
    refine ev_step ?_
    simp only [cupellaw34_EnergyEntries.l0, g1, g2, if_true]
    rw [wrap_succ hi6]
    exact ihn
theorem EnergyEntries (l : List S40) : ∃ k, cupellaw34_EnergyEntries.f k l = some true := by
  refine Ev.rounds ?_
  simp only [cupellaw34_EnergyEntries.f]
  refine Ev.bind shown_ev ?_
  by_cases h1 : (l.length : Int) > 2000
  · simp only [h1, if_true]
    exact Ev.now _
  · simp only [h1, if_true, if_false]
    refine Ev.bind (en_f l) ?_
    refine Ev.bind (ren_f l) ?_
    simp only [if_true]
    refine ev_step ?_
    simp only [cupellaw34_EnergyEntries.j0, bne_self_eq_false, Bool.false_eq_true, if_false]
    exact entries_loop _ (enf_length l) _ 0 rfl (by omega)

theorem mul_le {a b c d : Int} (h0 : 0 ≤ a) (h1 : a ≤ b) (h2 : 0 ≤ c) (h3 : c ≤ d) : a * c ≤ b * d :=
  Int.le_trans (Int.mul_le_mul_of_nonneg_right h1 h2) (Int.mul_le_mul_of_nonneg_left h3 (by omega))
theorem div_anti {x y z : Int} (h0 : 0 ≤ x) (hy : 1 ≤ y) (hz : y ≤ z) : x / z ≤ x / y := by
  refine Int.le_ediv_of_mul_le (by omega) ?_
  have h1 : 0 ≤ x / z := Int.ediv_nonneg h0 (by omega)
  have h2 : x / z * y ≤ x / z * z := Int.mul_le_mul_of_nonneg_left hz h1
  have h3 := Int.ediv_mul_le x (show z ≠ 0 by omega)
  omega
theorem rawv_mono {a b c d a' b' c' d' : Int} (h : okN a b c d = true) (h' : okN a' b' c' d' = true) (ha : a' ≤ a) (hb : b ≤ b') (hc : c ≤ c') (hd : d' ≤ d) : rawv a b c d ≤ rawv a' b' c' d' := by
  obtain ⟨pa, pb, pc, pd⟩ := okN_iff.1 h
  obtain ⟨qa, qb, qc, qd⟩ := okN_iff.1 h'
  have m : 1000 * (b + 1) * (4 * c + 1) ≤ 1000 * (b' + 1) * (4 * c' + 1) := mul_le (by omega) (by omega) (by omega) (by omega)
  have m0 : 0 ≤ 1000 * (b + 1) * (4 * c + 1) := Int.mul_nonneg (by omega) (by omega)
  have n1 : 1000 * (b + 1) * (4 * c + 1) / (a + 1) ≤ 1000 * (b + 1) * (4 * c + 1) / (a' + 1) := div_anti m0 (by omega) (by omega)
  have n2 : 1000 * (b + 1) * (4 * c + 1) / (a' + 1) ≤ 1000 * (b' + 1) * (4 * c' + 1) / (a' + 1) := Int.ediv_le_ediv (by omega) m
  have k0 : 0 ≤ 1000 * (b + 1) * (4 * c + 1) / (a + 1) := Int.ediv_nonneg m0 (by omega)
  have n3 := div_anti (z := (d - 1) / 50 + 1) (y := (d' - 1) / 50 + 1) k0 (by omega) (by omega)
  have n4 : 1000 * (b + 1) * (4 * c + 1) / (a + 1) / ((d' - 1) / 50 + 1) ≤ 1000 * (b' + 1) * (4 * c' + 1) / (a' + 1) / ((d' - 1) / 50 + 1) := Int.ediv_le_ediv (by omega) (Int.le_trans n1 n2)
  exact Int.le_trans n3 n4
theorem mn_le (a b : Int) : mn a b ≤ b := by simp only [mn]; split <;> omega
theorem EnergyGrows (a b c d a' b' c' d' : Int) (ha : 0 ≤ a' ∧ a' ≤ 65535) (hb : 0 ≤ b' ∧ b' ≤ 65535) (hc : 0 ≤ c' ∧ c' ≤ 65535) (hd : 0 ≤ d' ∧ d' ≤ 65535) :
    ∃ k, cupellaw34_EnergyGrows.f k a b c d a' b' c' d' = some true := by
  refine Ev.rounds ?_
  simp only [cupellaw34_EnergyGrows.f]
  refine Ev.bind shown_ev ?_
  simp only [if_true]
  refine Ev.bind (en_f _) ?_
  by_cases h : okN a b c d = true
  · obtain ⟨pa, pb, pc, pd⟩ := okN_iff.1 h
    have k1 : wrap64 (b + wrap64 b') = b + b' := by rw [w64 (x := b') (by omega) (by omega), w64 (by omega) (by omega)]
    have k2 : wrap64 (c + wrap64 c') = c + c' := by rw [w64 (x := c') (by omega) (by omega), w64 (by omega) (by omega)]
    have k3 : wrap64 (a + wrap64 a') = a + a' := by rw [w64 (x := a') (by omega) (by omega), w64 (by omega) (by omega)]
    have k4 : wrap64 (d + wrap64 d') = d + d' := by rw [w64 (x := d') (by omega) (by omega), w64 (by omega) (by omega)]
    rw [k1, k2, k3, k4]
    have q1 : b ≤ mn (b + b') 1000000 ∧ mn (b + b') 1000000 ≤ 1000000 := by simp only [mn]; split <;> omega
    have q2 : c ≤ mn (c + c') 1000000 ∧ mn (c + c') 1000000 ≤ 1000000 := by simp only [mn]; split <;> omega
    have q3 : a ≤ mn (a + a') 1000000 ∧ mn (a + a') 1000000 ≤ 1000000 := by simp only [mn]; split <;> omega
    have q4 : d ≤ mn (d + d') 400 ∧ mn (d + d') 400 ≤ 400 := by simp only [mn]; split <;> omega
    generalize mn (b + b') 1000000 = B at *
    generalize mn (c + c') 1000000 = C at *
    generalize mn (a + a') 1000000 = A at *
    generalize mn (d + d') 400 = D at *
    have ok1 : okN a B C d = true := okN_iff.2 ⟨by omega, by omega, by omega, by omega⟩
    have ok2 : okN A b c D = true := okN_iff.2 ⟨by omega, by omega, by omega, by omega⟩
    have f1 : enf [(⟨a, b, c, d⟩ : S40)] = ([clip (rawv a b c d)], 0) := by simp [enf, en, okS, sv, h]
    have f2 : enf [(⟨a, B, C, d⟩ : S40), (⟨A, b, c, D⟩ : S40)] = ([clip (rawv a B C d), clip (rawv A b c D)], 0) := by simp [enf, en, okS, sv, ok1, ok2]
    have r1 := clip_le (rawv_mono h ok1 (by omega) (by omega) (by omega) (by omega))
    have r2 := clip_le (rawv_mono ok2 h (by omega) (by omega) (by omega) (by omega))
    have s1 := clip_bounds (rawv a B C d)
    have s2 := clip_bounds (rawv A b c D)
    rw [f1]
    simp only [if_true]
    refine Ev.bind (en_f _) ?_
    rw [f2]
    generalize clip (rawv a b c d) = x at *
    generalize clip (rawv a B C d) = y at *
    generalize clip (rawv A b c D) = z at *
    have t1 : rd [x] 0 = x := rfl
    have t2 : rd [y, z] 0 = y := rfl
    have t3 : rd [y, z] 1 = z := rfl
    have u1 : y ≥ x := r1
    have u2 : z ≥ 1 := s2.1
    simp only [t1, t2, t3, u1, u2, r2, s1, List.length_cons, List.length_nil]
    exact Ev.now _
  · have f1 : enf [(⟨a, b, c, d⟩ : S40)] = ([], 2) := by simp [enf, en, okS, h]
    rw [f1]
    simp
    exact Ev.now _
end Go.Proofs.Ytpkdmhplmgbfaaa.A

/- Plain facts on shares: what the largest rests are, in what order, and how many of each. No memory and no Go in it: lists and numbers alone. -/
import Derived.Test.YtpkdmhplmgbfaaaPl2
set_option linter.unusedVariables false
set_option linter.unusedSimpArgs false
namespace Go.Proofs.Ytpkdmhplmgbfaaa.A
open Go.RowKit Go.Proofs.YtpkdmhplmgbfaaaW.PrintWords Go.Proofs.YtpkdmhplmgbfaaaW.PrintLast Go.Proofs.YtpkdmhplmgbfaaaW.PrintMore

/-! sums of the first n values -/
def sm (f : Nat → Int) : Nat → Int
  | 0 => 0
  | n + 1 => sm f n + f n
theorem sm_add (f g : Nat → Int) (n : Nat) : sm (fun j => f j + g j) n = sm f n + sm g n := by
  induction n with
  | zero => rfl
  | succ n ih => simp only [sm, ih]; omega
theorem sm_mul (f : Nat → Int) (c : Int) (n : Nat) : sm (fun j => f j * c) n = sm f n * c := by
  induction n with
  | zero => simp [sm]
  | succ n ih => simp only [sm, ih, Int.add_mul]
theorem sm_congr (f g : Nat → Int) (n : Nat) (h : ∀ j, j < n → f j = g j) : sm f n = sm g n := by
  induction n with
  | zero => rfl
  | succ n ih => simp only [sm, ih (fun j hj => h j (by omega)), h n (by omega)]
theorem sm_le (f : Nat → Int) (c : Int) (n : Nat) (h : ∀ j, j < n → f j ≤ c) : sm f n ≤ (n : Int) * c := by
  induction n with
  | zero => simp [sm]
  | succ n ih =>
    have h1 := ih (fun j hj => h j (by omega))
    have h2 := h n (by omega)
    have e : ((n + 1 : Nat) : Int) * c = (n : Int) * c + c := by rw [Int.natCast_add, Int.add_mul]; simp
    simp only [sm]
    omega
theorem sm_nonneg (f : Nat → Int) (n : Nat) (h : ∀ j, j < n → 0 ≤ f j) : 0 ≤ sm f n := by
  induction n with
  | zero => simp [sm]
  | succ n ih =>
    have h1 := ih (fun j hj => h j (by omega))
    have h2 := h n (by omega)
    simp only [sm]
    omega
theorem sm_tab (f : Nat → Int) (n : Nat) : (tab n f).sum = sm f n := by
  induction n with
  | zero => simp [tab, sm]
  | succ n ih =>
    have : tab (n + 1) f = tab n f ++ [f n] := by simp [tab, List.range_succ]
    rw [this, List.sum_append, ih]
    simp [sm]
theorem ps_sm (l : List Int) (i : Nat) (h : i ≤ l.length) : ps l i = sm (fun j => rd l (j : Int)) i := by
  induction i with
  | zero => rw [ps_zero]; rfl
  | succ i ih => rw [ps_succ l i (by omega), ih (by omega)]; rfl

/-! the order of the rests -/
def ordl (n : Nat) (rest : Nat → Int) : List S56 := (List.range n).map (fun (j : Nat) => (⟨(j : Int), rest j⟩ : S56))
def O (n : Nat) (rest : Nat → Int) : List S56 := sort56 (ordl n rest)
theorem O_length (n : Nat) (rest : Nat → Int) : (O n rest).length = n := by unfold O; rw [sort56_length]; simp [ordl]
theorem O_mem (n : Nat) (rest : Nat → Int) (s : S56) : s ∈ O n rest ↔ ∃ j, j < n ∧ s = ⟨(j : Int), rest j⟩ := by
  unfold O
  rw [(sort56_perm _).mem_iff]
  unfold ordl
  simp only [List.mem_map, List.mem_range]
  constructor
  · rintro ⟨j, hj, rfl⟩; exact ⟨j, hj, rfl⟩
  · rintro ⟨j, hj, rfl⟩; exact ⟨j, hj, rfl⟩
theorem O_nodup (n : Nat) (rest : Nat → Int) : ((O n rest).map (·.f0)).Nodup := by
  unfold O
  rw [((sort56_perm _).map _).nodup_iff]
  unfold ordl
  rw [List.map_map]
  rw [List.Nodup, List.pairwise_map]
  refine List.Pairwise.imp ?_ (List.nodup_range (n := n))
  intro a b h e
  simp only [Function.comp_apply] at e
  omega
theorem O_sorted (n : Nat) (rest : Nat → Int) : (O n rest).Pairwise (fun a b => le56 a b = true) := sort56_sorted _

/-- is j among the first c? -/
def sel (n : Nat) (rest : Nat → Int) (c j : Nat) : Bool := ((O n rest).take c).any (fun s => s.f0 == (j : Int))
def restc (n : Nat) (rest : Nat → Int) (c j : Nat) : Int := if sel n rest c j = true then -1 else rest j
def cnt (n : Nat) (rest : Nat → Int) (c j : Nat) : Int := (((O n rest).take c).countP (fun s => s.f0 == (j : Int)) : Nat)

theorem sel_mem {n : Nat} {rest : Nat → Int} {c j : Nat} : sel n rest c j = true ↔ ∃ s ∈ (O n rest).take c, s.f0 = (j : Int) := by
  unfold sel
  simp [List.any_eq_true]
theorem cnt_sel (n : Nat) (rest : Nat → Int) (c j : Nat) : cnt n rest c j = if sel n rest c j = true then 1 else 0 := by
  unfold cnt
  have hnd : (((O n rest).take c).map (·.f0)).Nodup := by
    rw [List.map_take]
    exact (O_nodup n rest).sublist (List.take_sublist _ _)
  have e : ((O n rest).take c).countP (fun s => s.f0 == (j : Int)) = (((O n rest).take c).map (·.f0)).count (j : Int) := by
    rw [List.count, List.countP_map]
    rfl
  rw [e]
  by_cases h : sel n rest c j = true
  · rw [if_pos h]
    obtain ⟨s, hs, hj⟩ := sel_mem.1 h
    have hm : (j : Int) ∈ ((O n rest).take c).map (·.f0) := List.mem_map.2 ⟨s, hs, hj⟩
    have h1 : List.count (j : Int) (((O n rest).take c).map (·.f0)) ≤ 1 := List.nodup_iff_count.1 hnd _
    have h2 : 0 < List.count (j : Int) (((O n rest).take c).map (·.f0)) := List.count_pos_iff.2 hm
    omega
  · rw [if_neg h]
    have hm : ¬ (j : Int) ∈ ((O n rest).take c).map (·.f0) := fun hm => by
      obtain ⟨s, hs, hj⟩ := List.mem_map.1 hm
      exact h (sel_mem.2 ⟨s, hs, hj⟩)
    rw [List.count_eq_zero.2 hm]
    rfl
/-- who stands at place c -/
theorem O_at {n : Nat} {rest : Nat → Int} {c : Nat} (hc : c < n) : ∃ b, b < n ∧ (O n rest)[c]'(by rw [O_length]; exact hc) = ⟨(b : Int), rest b⟩ := by
  have hm : (O n rest)[c]'(by rw [O_length]; exact hc) ∈ O n rest := List.getElem_mem _
  obtain ⟨b, hb, he⟩ := (O_mem n rest _).1 hm
  exact ⟨b, hb, he⟩
theorem take_at {n : Nat} {rest : Nat → Int} {c b : Nat} (hc : c < n) (h : (O n rest)[c]'(by rw [O_length]; exact hc) = ⟨(b : Int), rest b⟩) : (O n rest).take (c + 1) = (O n rest).take c ++ [⟨(b : Int), rest b⟩] := by
  rw [List.take_succ_eq_append_getElem (by rw [O_length]; exact hc), h]
theorem sel_not {n : Nat} {rest : Nat → Int} {c b : Nat} (hc : c < n) (h : (O n rest)[c]'(by rw [O_length]; exact hc) = ⟨(b : Int), rest b⟩) : ¬ sel n rest c b = true := by
  intro hs
  obtain ⟨s, hs, hj⟩ := sel_mem.1 hs
  have h1 := O_nodup n rest
  have h2 : (((O n rest).take (c + 1)).map (·.f0)).Nodup := by
    rw [List.map_take]
    exact h1.sublist (List.take_sublist _ _)
  rw [take_at hc h, List.map_append, List.nodup_append] at h2
  exact h2.2.2 _ (List.mem_map.2 ⟨s, hs, hj⟩) _ (by simp) rfl
/-- those that come behind place c are not larger -/
theorem O_behind {n : Nat} {rest : Nat → Int} {c b j : Nat} (hc : c < n) (h : (O n rest)[c]'(by rw [O_length]; exact hc) = ⟨(b : Int), rest b⟩) (hj : j < n) (hs : ¬ sel n rest c j = true) : le56 ⟨(b : Int), rest b⟩ ⟨(j : Int), rest j⟩ = true := by
  have hm : (⟨(j : Int), rest j⟩ : S56) ∈ O n rest := (O_mem n rest _).2 ⟨j, hj, rfl⟩
  obtain ⟨i, hi, he⟩ := List.mem_iff_getElem.1 hm
  rw [O_length] at hi
  rcases Nat.lt_trichotomy i c with h1 | h1 | h1
  · exfalso
    refine hs (sel_mem.2 ⟨⟨(j : Int), rest j⟩, ?_, rfl⟩)
    rw [← he]
    exact List.mem_take_iff_getElem.2 ⟨i, by rw [O_length]; omega, rfl⟩
  · subst h1
    rw [h] at he
    rw [he]
    simp [le56]
  · have := List.pairwise_iff_getElem.1 (O_sorted n rest) c i (by rw [O_length]; exact hc) (by rw [O_length]; exact hi) h1
    rw [h, he] at this
    exact this
theorem pick_max {n : Nat} {rest : Nat → Int} {c b : Nat} (hr : ∀ j, j < n → 0 ≤ rest j) (hc : c < n) (hb : b < n) (h : (O n rest)[c]'(by rw [O_length]; exact hc) = ⟨(b : Int), rest b⟩) :
    restc n rest c b = rest b ∧ ∀ j, j < n → restc n rest c j ≤ rest b ∧ (j < b → restc n rest c j < rest b) := by
  have hn := sel_not hc h
  have h0 := hr b hb
  refine ⟨by unfold restc; rw [if_neg hn], fun j hj => ?_⟩
  unfold restc
  by_cases hs : sel n rest c j = true
  · rw [if_pos hs]
    omega
  · rw [if_neg hs]
    have := O_behind hc h hj hs
    simp [le56] at this
    omega
theorem first_max {v : Nat → Int} {n a b : Nat} (ha : a < n) (hb : b < n) (h1 : ∀ j, j < n → v j ≤ v a) (h2 : ∀ j, j < a → v j < v a) (h3 : ∀ j, j < n → v j ≤ v b) (h4 : ∀ j, j < b → v j < v b) : a = b := by
  rcases Nat.lt_trichotomy a b with h | h | h
  · have := h4 a h
    have := h1 b hb
    omega
  · exact h
  · have := h2 b h
    have := h3 a ha
    omega
theorem cnt_succ {n : Nat} {rest : Nat → Int} {c b : Nat} (hc : c < n) (h : (O n rest)[c]'(by rw [O_length]; exact hc) = ⟨(b : Int), rest b⟩) (j : Nat) : cnt n rest (c + 1) j = if j = b then cnt n rest c j + 1 else cnt n rest c j := by
  unfold cnt
  rw [take_at hc h, List.countP_append]
  by_cases hj : j = b
  · subst hj; simp
  · have : ¬ (b : Int) = (j : Int) := by omega
    simp [hj, this]
theorem restc_succ {n : Nat} {rest : Nat → Int} {c b : Nat} (hc : c < n) (h : (O n rest)[c]'(by rw [O_length]; exact hc) = ⟨(b : Int), rest b⟩) (j : Nat) : restc n rest (c + 1) j = if j = b then -1 else restc n rest c j := by
  have e : sel n rest (c + 1) j = (sel n rest c j || decide (j = b)) := by
    unfold sel
    rw [take_at hc h, List.any_append]
    congr 1
    simp only [List.any_cons, List.any_nil, Bool.or_false]
    by_cases hj : j = b
    · subst hj; simp
    · have : ¬ (b : Int) = (j : Int) := by omega
      simp [hj, this]
  unfold restc
  rw [e]
  by_cases hj : j = b <;> simp [hj]
theorem cnt_zero (n : Nat) (rest : Nat → Int) (j : Nat) : cnt n rest 0 j = 0 := by simp [cnt]
theorem restc_zero (n : Nat) (rest : Nat → Int) (j : Nat) : restc n rest 0 j = rest j := by simp [restc, sel]
theorem cnt_sum (n : Nat) (rest : Nat → Int) (c : Nat) (hc : c ≤ n) : sm (cnt n rest c) n = (c : Int) := by
  induction c with
  | zero =>
    rw [sm_congr _ (fun _ => 0) n (fun j _ => cnt_zero n rest j)]
    have : ∀ m, sm (fun _ => 0) m = 0 := fun m => by induction m with
      | zero => rfl
      | succ m ih => simp [sm, ih]
    rw [this]; rfl
  | succ c ih =>
    obtain ⟨b, hb, h⟩ := O_at (rest := rest) (show c < n by omega)
    have h1 := ih (by omega)
    have e : sm (cnt n rest (c + 1)) n = sm (fun j => cnt n rest c j + (if j = b then 1 else 0)) n := sm_congr _ _ n (fun j _ => by rw [cnt_succ (by omega) h]; split <;> omega)
    have e2 : ∀ m, sm (fun j => if j = b then (1 : Int) else 0) m = if b < m then 1 else 0 := fun m => by
      induction m with
      | zero => simp [sm]
      | succ m ih =>
        simp only [sm, ih]
        by_cases h1 : b < m
        · rw [if_pos h1, if_neg (by omega), if_pos (by omega)]; rfl
        · by_cases h2 : m = b
          · rw [if_neg h1, if_pos h2, if_pos (by omega)]; rfl
          · rw [if_neg h1, if_neg h2, if_neg (by omega)]; rfl
    rw [e, sm_add, h1, e2, if_pos hb]
    omega
/-- a larger rest is taken sooner -/
theorem sel_mono {n : Nat} {rest : Nat → Int} {c i j : Nat} (hi : i < n) (hj : j < n) (hr : rest j < rest i) (hs : sel n rest c j = true) : sel n rest c i = true := by
  by_cases h : sel n rest c i = true
  · exact h
  · exfalso
    obtain ⟨s, hs, hsj⟩ := sel_mem.1 hs
    obtain ⟨p, hp, he⟩ := List.mem_take_iff_getElem.1 hs
    rw [O_length] at hp
    have hpn : p < n := by omega
    obtain ⟨b, hb, hat⟩ := O_at (rest := rest) hpn
    have hbj : b = j := by
      rw [← he, hat] at hsj
      simp at hsj
      omega
    subst hbj
    have hnot : ¬ sel n rest p i = true := fun hq => by
      refine h ?_
      obtain ⟨s2, hs2, h2⟩ := sel_mem.1 hq
      exact sel_mem.2 ⟨s2, List.take_subset_take_left _ (by omega) hs2, h2⟩
    have := O_behind hpn hat hi hnot
    simp [le56] at this
    omega
/-- of those that are taken none has the rest 0, if there are enough -/
theorem sel_pos {n : Nat} {rest : Nat → Int} {S : Int} {c : Nat} (hc : c ≤ n) (hS : 1 ≤ S) (hr : ∀ j, j < n → 0 ≤ rest j ∧ rest j < S) (hsum : sm rest n = (c : Int) * S) {j : Nat} (hj : j < n) (hs : sel n rest c j = true) : 0 < rest j := by
  rcases Int.lt_or_le 0 (rest j) with h | h
  · exact h
  · exfalso
    have h0 : rest j = 0 := by have := (hr j hj).1; omega
    have hle : ∀ i, i < n → rest i ≤ (cnt n rest (c - 1) i) * (S - 1) + 0 := by
      intro i hi
      have hb := hr i hi
      rw [cnt_sel]
      by_cases h1 : sel n rest (c - 1) i = true
      · rw [if_pos h1]; omega
      · rw [if_neg h1]
        obtain ⟨s, hs, hsj⟩ := sel_mem.1 hs
        obtain ⟨p, hp, he⟩ := List.mem_take_iff_getElem.1 hs
        rw [O_length] at hp
        have hpn : p < n := by omega
        obtain ⟨b, hb2, hat⟩ := O_at (rest := rest) hpn
        have hbj : b = j := by
          rw [← he, hat] at hsj
          simp at hsj
          omega
        subst hbj
        have hnot : ¬ sel n rest p i = true := fun hq => by
          refine h1 ?_
          obtain ⟨s2, hs2, h2⟩ := sel_mem.1 hq
          exact sel_mem.2 ⟨s2, List.take_subset_take_left _ (by omega) hs2, h2⟩
        have := O_behind hpn hat hi hnot
        simp [le56] at this
        omega
    have h2 : 0 ≤ sm (fun i => cnt n rest (c - 1) i * (S - 1) + 0 + (-1) * rest i) n := sm_nonneg _ _ (fun i hi => by have := hle i hi; omega)
    have h3 : sm (fun i => cnt n rest (c - 1) i * (S - 1) + 0 + (-1) * rest i) n = sm (cnt n rest (c - 1)) n * (S - 1) + sm (fun i => (-1) * rest i) n := by
      rw [← sm_mul, ← sm_add]
      exact sm_congr _ _ n (fun i _ => by omega)
    have h4 : sm (fun i => (-1) * rest i) n = sm rest n * (-1) := by
      rw [← sm_mul]
      exact sm_congr _ _ n (fun i _ => by omega)
    rw [h3, h4, cnt_sum n rest (c - 1) (by omega), hsum] at h2
    have hcpos : 0 < c := by
      rcases Nat.eq_zero_or_pos c with h5 | h5
      · subst h5
        simp [sel] at hs
      · exact h5
    have e : ((c - 1 : Nat) : Int) = (c : Int) - 1 := by omega
    rw [e] at h2
    have e2 : ((c : Int) - 1) * (S - 1) = (c : Int) * S - (c : Int) - S + 1 := by
      rw [Int.sub_mul, Int.mul_sub]; omega
    rw [e2] at h2
    omega
end Go.Proofs.Ytpkdmhplmgbfaaa.A

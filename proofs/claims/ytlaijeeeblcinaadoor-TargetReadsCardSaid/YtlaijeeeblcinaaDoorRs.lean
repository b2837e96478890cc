/- The reference's numerals: what its integer returns at digits, and which numerals are canonical. -/
import Derived.Test.YtlaijeeeblcinaaDoorRd
import Derived.Test.YtlaijeeeblcinaaDoorNx
import Derived.Test.YtlaijeeeblcinaaDoorAx5
import Derived.Lib.ParseIntBCases
import Derived.Test.YtlaijeeeblcinaaDoorAx6
set_option linter.all false
set_option maxRecDepth 100000
namespace Go.Proofs.YtlaijeeeblcinaaDoor.A
open Go.RowKit Go.Lib Go.Proofs.YtlaijeeeblcinaaDoorW.PrintWords
def valA (acc : Nat) : List UInt8 → Nat
 | [] => acc
 | c :: r => valA (acc * 10 + (c.toNat - 48)) r
def AllDig (l : List UInt8) : Prop := ∀ c ∈ l, 48 ≤ c.toNat ∧ c.toNat ≤ 57
theorem AllDig.tail {c : UInt8} {l : List UInt8} (h : AllDig (c :: l)) : AllDig l := fun x hx => h x (List.mem_cons_of_mem _ hx)
theorem valA_ge : ∀ (l : List UInt8) (acc : Nat), acc ≤ valA acc l
 | [], acc => Nat.le_refl _
 | c :: r, acc => by
  have := valA_ge r (acc * 10 + (c.toNat - 48))
  unfold valA; omega
theorem valA_append (c : UInt8) : ∀ (l : List UInt8) (acc : Nat), valA acc (l ++ [c]) = valA acc l * 10 + (c.toNat - 48)
 | [], acc => rfl
 | x :: r, acc => valA_append c r _
theorem parseM : ∀ (l : List UInt8) (acc : Nat), AllDig l → acc ≤ 18446744073709551615 → parseUintM 18446744073709551615 acc l = if valA acc l ≤ 18446744073709551615 then .ok (valA acc l) else .range
 | [], acc, _, ha => by unfold parseUintM valA; rw [if_pos ha]
 | c :: r, acc, hd, ha => by
  have hc := hd c (List.mem_cons_self)
  have hg := valA_ge r (acc * 10 + (c.toNat - 48))
  unfold parseUintM valA
  rw [if_pos hc]
  by_cases h1 : 1844674407370955162 ≤ acc
  ·rw [if_pos h1, if_neg (by omega)]
  ·rw [if_neg h1]
   by_cases h2 : 18446744073709551615 < acc * 10 + (c.toNat - 48)
   ·rw [if_pos h2, if_neg (by omega)]
   ·rw [if_neg h2]; exact parseM r _ hd.tail (by omega)
theorem parseB (l : List UInt8) (hd : AllDig l) (hl : l ≠ []) : parseUintB 64 l = if valA 0 l ≤ 18446744073709551615 then .ok (valA 0 l) else .range := by
 unfold parseUintB
 rw [if_neg hl]
 exact parseM l 0 hd (by decide)
theorem dec_ne (u : Nat) : decDigits u ≠ [] := by
 intro h
 have := decDigits_length u
 rw [h] at this
 have := nDigits_pos u
 simp at *; omega
theorem dec_head : ∀ (n u : Nat), u ≤ n → 1 ≤ u → (decDigits u).head? ≠ some 48 := by
 intro n
 induction n with
 | zero => intro u h h1; omega
 | succ n ih =>
  intro u h h1
  rw [decDigits]
  by_cases c : u < 10
  ·rw [dif_pos c]
   intro e
   have e2 : (UInt8.ofNat (48 + u)).toNat = 48 := by rw [Option.some.inj e]; rfl
   rw [UInt8.toNat_ofNat'] at e2
   omega
  ·rw [dif_neg c, List.head?_append]
   have := ih (u / 10) (by omega) (by omega)
   have hn := dec_ne (u / 10)
   cases hh : (decDigits (u / 10)).head? with
   | none => exact absurd (List.head?_eq_none_iff.1 hh) hn
   | some x => rw [hh] at this; simpa using this
theorem dec_canon : ∀ (n : Nat) (l : List UInt8), l.length = n → AllDig l → l ≠ [] → (l.length = 1 ∨ l.head? ≠ some 48) → decDigits (valA 0 l) = l := by
 intro n
 induction n with
 | zero => intro l h _ hn; exact absurd (List.length_eq_zero_iff.1 h) hn
 | succ n ih =>
  intro l h hd hn hc
  obtain ⟨l', c, rfl⟩ : ∃ l' c, l = l' ++ [c] := ⟨l.dropLast, l.getLast hn, (List.dropLast_concat_getLast hn).symm⟩
  have hcd := hd c (by simp)
  have hd' : AllDig l' := fun x hx => hd x (by simp [hx])
  rw [valA_append]
  by_cases e : l' = []
  ·subst e
   show decDigits (0 * 10 + (c.toNat - 48)) = [c]
   rw [decDigits, dif_pos (by omega)]
   congr 1
   apply UInt8.toNat_inj.1
   rw [UInt8.toNat_ofNat']; omega
  ·have hh : l'.head? ≠ some 48 := by
    rcases hc with hc | hc
    ·simp at hc; exact absurd hc e
    ·rw [List.head?_append] at hc
     cases h' : l'.head? with
     | none => exact absurd (List.head?_eq_none_iff.1 h') e
     | some x => rw [h'] at hc; simpa using hc
   have ihl := ih l' (by simp at h; exact h) hd' e (.inr hh)
   have hpos : 1 ≤ valA 0 l' := by
    cases l' with
    | nil => exact absurd rfl e
    | cons x r =>
     have hx := hd' x (List.mem_cons_self)
     have hx2 : x.toNat ≠ 48 := fun e2 => hh (by simp; apply UInt8.toNat_inj.1; rw [e2]; rfl)
     have := valA_ge r (0 * 10 + (x.toNat - 48))
     show 1 ≤ valA _ r
     omega
   rw [decDigits, dif_neg (by omega), show (valA 0 l' * 10 + (c.toNat - 48)) / 10 = valA 0 l' by omega, ihl]
   congr 2
   apply UInt8.toNat_inj.1
   rw [UInt8.toNat_ofNat']; omega
theorem dec_not (l : List UInt8) (hd : AllDig l) (h1 : l.length ≠ 1) (h2 : l.head? = some 48) : decDigits (valA 0 l) ≠ l := by
 intro e
 by_cases c : 1 ≤ valA 0 l
 ·exact dec_head _ _ (Nat.le_refl _) c (by rw [e]; exact h2)
 ·rw [show valA 0 l = 0 by omega, decDigits, dif_pos (by omega)] at e
  exact h1 (by rw [← e]; rfl)
theorem numP_digits (l : List UInt8) (hd : AllDig l) (hl : l ≠ []) : numP l = if valA 0 l < 9223372036854775808 ∧ (l.length = 1 ∨ l.head? ≠ some 48) then some ((valA 0 l : Nat) : Int) else none := by
 obtain ⟨c, r, rfl⟩ : ∃ c r, l = c :: r := by cases l with
  | nil => exact absurd rfl hl
  | cons c r => exact ⟨c, r, rfl⟩
 have hc := hd c (List.mem_cons_self)
 have hp := parseB _ hd hl
 have hI := parseIntB_plain 64 c r (by omega) (by omega)
 rw [hp] at hI
 unfold numP
 by_cases c1 : valA 0 (c :: r) < 9223372036854775808
 ·rw [if_pos (by omega)] at hI
  have hI' : parseIntB 64 (c :: r) = .ok ((valA 0 (c :: r) : Nat) : Int) := by rw [hI]; unfold signlessC; simp only; rw [if_neg (by omega)]
  rw [hI']
  have hit : itoa ((valA 0 (c :: r) : Nat) : Int) = decDigits (valA 0 (c :: r)) := by unfold itoa; rw [if_neg (by omega), Int.toNat_natCast]
  simp only [hit]
  by_cases c2 : (c :: r).length = 1 ∨ (c :: r).head? ≠ some 48
  ·rw [if_pos (dec_canon _ _ rfl hd hl c2), if_pos ⟨c1, c2⟩]
  ·rw [if_neg (dec_not _ hd (fun e => c2 (.inl e)) (Decidable.byContradiction fun e => c2 (.inr e))), if_neg (fun e => c2 e.2)]
 ·rw [if_neg (fun e => c1 e.1)]
  have hI' : parseIntB 64 (c :: r) = .range := by
   rw [hI]; unfold signlessC
   by_cases c3 : valA 0 (c :: r) ≤ 18446744073709551615
   ·rw [if_pos c3]; simp only; rw [if_pos (by omega)]
   ·rw [if_neg c3]
  rw [hI']
theorem numP_minus (l : List UInt8) (hd : AllDig l) (hl : l ≠ []) : numP (45 :: l) = if valA 0 l ≤ 9223372036854775808 ∧ l.head? ≠ some 48 then some (-((valA 0 l : Nat) : Int)) else none := by
 have hp := parseB _ hd hl
 have hI := parseIntB_minus 64 l
 rw [hp] at hI
 unfold numP
 by_cases c1 : valA 0 l ≤ 9223372036854775808
 ·rw [if_pos (by omega)] at hI
  have hI' : parseIntB 64 (45 :: l) = .ok (-((valA 0 l : Nat) : Int)) := by rw [hI]; unfold signedC; simp only; rw [if_neg (by omega)]
  rw [hI']
  by_cases c2 : l.head? = some 48
  ·rw [if_neg (fun e => e.2 c2)]
   by_cases c3 : valA 0 l = 0
   ·rw [c3]
    have h0 : itoa (-((0 : Nat) : Int)) = [48] := by
     unfold itoa
     rw [if_neg (by decide)]
     show decDigits 0 = _
     rw [decDigits, dif_pos (by omega)]; rfl
    simp only [h0]
    rw [if_neg]
    intro e
    exact absurd (List.cons.inj e).1 (by decide)
   ·have hit : itoa (-((valA 0 l : Nat) : Int)) = 45 :: decDigits (valA 0 l) := by unfold itoa; rw [if_pos (by omega), Int.natAbs_neg, Int.natAbs_natCast]
    simp only [hit]
    rw [if_neg]
    intro e
    have e2 := List.cons.inj e
    exact dec_head _ _ (Nat.le_refl _) (by omega) (e2.2 ▸ c2)
  ·rw [if_pos ⟨c1, c2⟩]
   have h3 := dec_canon _ _ rfl hd hl (.inr c2)
   have hpos : 1 ≤ valA 0 l := by
    apply Decidable.byContradiction
    intro hz
    rw [show valA 0 l = 0 by omega] at h3
    apply c2
    rw [← h3, decDigits, dif_pos (by omega)]; rfl
   have hit : itoa (-((valA 0 l : Nat) : Int)) = 45 :: decDigits (valA 0 l) := by unfold itoa; rw [if_pos (by omega), Int.natAbs_neg, Int.natAbs_natCast]
   simp only [hit]
   rw [if_pos (by rw [h3])]
 ·rw [if_neg (fun e => c1 e.1)]
  have hI' : parseIntB 64 (45 :: l) = .range := by
   rw [hI]; unfold signedC
   by_cases c3 : valA 0 l ≤ 18446744073709551615
   ·rw [if_pos c3]; simp only; rw [if_pos (by omega)]
   ·rw [if_neg c3]
  rw [hI']
/-- what the reference's integer returns at digits -/
def intR (u : Nat) (neg : Bool) : Int × Bool := if u ≤ 9223372036854775808 then (if neg = true then (-(u : Int), true) else (wrap64 (u : Int), (-(u : Int)) != -9223372036854775808)) else (0, false)
theorem tdiv10 (acc d : Nat) (hd : d ≤ 9) : (-(acc : Int) < Int.tdiv (-9223372036854775808 + (d : Int)) 10) ↔ 9223372036854775808 < acc * 10 + d := by
 rw [show (-9223372036854775808 + (d : Int)) = -(9223372036854775808 - (d : Int)) by omega, Int.neg_tdiv, Int.tdiv_eq_ediv_of_nonneg (by omega)]
 omega
theorem int_l0 (s : ByteArray) (neg : Bool) (hd : AllDig s.data.toList) (hs : s.size < 4611686018427387904) : ∀ (n i acc k : Nat), i + n = s.size → n < k → acc ≤ 9223372036854775808 →
  cupelref20_integer.l0 k s neg (-(acc : Int)) (i : Int) = some (intR (valA acc (s.data.toList.drop i)) neg) := by
 have hsz : s.data.toList.length = s.size := by rw [Array.length_toList]; rfl
 intro n
 induction n with
 | zero =>
  intro i acc k h hk ha
  obtain ⟨k, rfl⟩ : ∃ q, k = q + 1 := ⟨k - 1, by omega⟩
  simp only [cupelref20_integer.l0]
  rw [if_neg (by omega), List.drop_of_length_le (by omega)]
  unfold intR valA
  rw [if_pos ha]
  cases neg with
  | true => rfl
  | false => simp
 | succ n ih =>
  intro i acc k h hk ha
  obtain ⟨k, rfl⟩ : ∃ q, k = q + 1 := ⟨k - 1, by omega⟩
  have hi : i < s.data.toList.length := by omega
  have hb : bt s (i : Int) = ((s.data.toList[i]).toNat : Int) := by
   unfold bt; rw [dif_pos (by simpa using (by omega : i < s.size))]; rfl
  have hdi := hd _ (List.getElem_mem hi)
  simp only [cupelref20_integer.l0]
  rw [if_pos (by omega), if_pos (by omega), hb, List.drop_eq_getElem_cons hi]
  generalize s.data.toList[i] = c at *
  rw [show ((c.toNat : Int) - 48) % 256 = ((c.toNat - 48 : Nat) : Int) by omega]
  have ht := tdiv10 acc (c.toNat - 48) (by omega)
  have hg := valA_ge (s.data.toList.drop (i + 1)) (acc * 10 + (c.toNat - 48))
  by_cases c1 : 9223372036854775808 < acc * 10 + (c.toNat - 48)
  ·rw [if_pos (ht.2 c1)]
   unfold intR valA
   rw [if_neg (by omega)]
  ·rw [if_neg (fun e => c1 (ht.1 e))]
   rw [show wrap64 (wrap64 (10 * -(acc : Int)) - ((c.toNat - 48 : Nat) : Int)) = -((acc * 10 + (c.toNat - 48) : Nat) : Int) by unfold wrap64; omega, show wrap64 ((i : Int) + 1) = ((i + 1 : Nat) : Int) by unfold wrap64; omega]
   exact ih (i + 1) _ k (by omega) (by omega) (by omega)
theorem int_f (s : ByteArray) (neg : Bool) (hd : AllDig s.data.toList) (hs : s.size < 4611686018427387904) (k : Nat) (hk : s.size < k) : cupelref20_integer.f k s neg = some (intR (valA 0 s.data.toList) neg) :=
 int_l0 s neg hd hs s.size 0 0 k (by omega) hk (by decide)
end Go.Proofs.YtlaijeeeblcinaaDoor.A
set_option linter.all false
set_option maxRecDepth 100000
namespace Go.Proofs.YtlaijeeeblcinaaDoor.A
open Go.RowKit Go.Lib Go.Proofs.YtlaijeeeblcinaaDoorW.PrintWords
theorem wr1 {i n : Nat} (h : i ≤ n) (hn : n ≤ 600000) : wrap64 ((i : Int) + 1) = ((i + 1 : Nat) : Int) := by unfold wrap64; omega
theorem lower_f (b : Int) : cupelref20_lower.f b = some (isLow b) := by
 unfold cupelref20_lower.f isLow
 by_cases h : b ≥ 97
 ·rw [if_pos h, decide_eq_true (show (97 : Int) ≤ b from h)]; rfl
 ·rw [if_neg h, decide_eq_false (show ¬ (97 : Int) ≤ b from h)]; rfl
theorem digit_f (b : Int) : cupelref20_digit.f b = some (isDig b) := by
 unfold cupelref20_digit.f isDig
 by_cases h : b ≥ 48
 ·rw [if_pos h, decide_eq_true (show (48 : Int) ≤ b from h)]; rfl
 ·rw [if_neg h, decide_eq_false (show ¬ (48 : Int) ≤ b from h)]; rfl
theorem skip_l1 (s : ByteArray) (hs : s.size ≤ 600000) (N : Nat) (H : ∀ j, j ≤ s.size → s.size - j ≤ N → ∀ k, 4 * (s.size - j) + 4 ≤ k → cupelref20_skip.l0 k s (j : Int) = some ((skipP s j : Nat) : Int)) :
  ∀ m j, s.size - j ≤ m → m ≤ N → j ≤ s.size → ∀ k, 4 * (s.size - j) + 5 ≤ k → cupelref20_skip.l1 k s (j : Int) = some ((skipP s (lineEnd s j) : Nat) : Int) := by
 intro m
 induction m with
 | zero =>
  intro j h hm hj k hk
  obtain ⟨k, rfl⟩ : ∃ q, k = q + 1 := ⟨k - 1, by omega⟩
  simp only [cupelref20_skip.l1]
  unfold lineEnd
  rw [if_neg (by omega), endOf_end (by omega)]
  exact H j hj (by omega) k (by omega)
 | succ m ih =>
  intro j h hm hj k hk
  obtain ⟨k, rfl⟩ : ∃ q, k = q + 1 := ⟨k - 1, by omega⟩
  simp only [cupelref20_skip.l1]
  by_cases c : j < s.size
  ·rw [if_pos (by omega), if_pos (by omega)]
   by_cases c1 : bt s j = 10
   ·rw [if_pos c1]
    unfold lineEnd
    rw [endOf_stop (by rw [c1]; rfl)]
    exact H j hj (by omega) k (by omega)
   ·rw [if_neg c1, wr1 hj hs]
    have he : lineEnd s j = lineEnd s (j + 1) := endOf_step c (by simpa using c1)
    rw [he]
    exact ih (j + 1) (by omega) (by omega) (by omega) k (by omega)
  ·unfold lineEnd
   rw [if_neg (by omega), endOf_end (by omega)]
   exact H j hj (by omega) k (by omega)
theorem skip_l0 (s : ByteArray) (hs : s.size ≤ 600000) : ∀ (n i : Nat), i ≤ s.size → s.size - i ≤ n → ∀ k, 4 * (s.size - i) + 4 ≤ k → cupelref20_skip.l0 k s (i : Int) = some ((skipP s i : Nat) : Int) := by
 intro n
 induction n with
 | zero =>
  intro i hi h k hk
  obtain ⟨k, rfl⟩ : ∃ q, k = q + 1 := ⟨k - 1, by omega⟩
  simp only [cupelref20_skip.l0]
  rw [if_neg (by omega), skip_end (by omega)]
 | succ n ih =>
  intro i hi h k hk
  obtain ⟨k, rfl⟩ : ∃ q, k = q + 1 := ⟨k - 1, by omega⟩
  simp only [cupelref20_skip.l0]
  by_cases c : i < s.size
  ·rw [if_pos (by omega), if_pos (by omega)]
   obtain ⟨k, rfl⟩ : ∃ q, k = q + 1 := ⟨k - 1, by omega⟩
   by_cases c1 : isBlk (bt s i) = true
   ·have hj : cupelref20_skip.j1 (k + 1) s (i : Int) true = some ((skipP s i : Nat) : Int) := by
     simp only [cupelref20_skip.j1, if_true]
     rw [wr1 hi hs, skip_blank c c1]
     exact ih (i + 1) (by omega) (by omega) k (by omega)
    have c2 : bt s i = 32 ∨ bt s i = 9 ∨ bt s i = 13 ∨ bt s i = 10 := by
     unfold isBlk at c1; simp only [Bool.or_eq_true, beq_iff_eq] at c1
     rcases c1 with ((c1 | c1) | c1) | c1
     ·exact .inl c1
     ·exact .inr (.inl c1)
     ·exact .inr (.inr (.inl c1))
     ·exact .inr (.inr (.inr c1))
    rcases c2 with c2 | c2 | c2 | c2
    ·rw [if_pos c2]; exact hj
    ·rw [if_neg (by omega), if_pos c2]; exact hj
    ·rw [if_neg (by omega), if_neg (by omega), if_pos c2]; exact hj
    ·rw [if_neg (by omega), if_neg (by omega), if_neg (by omega), c2]; exact hj
   ·have c2 : ¬ bt s i = 32 ∧ ¬ bt s i = 9 ∧ ¬ bt s i = 13 ∧ ¬ bt s i = 10 := by
     unfold isBlk at c1; simp only [Bool.or_eq_true, beq_iff_eq, not_or] at c1
     exact ⟨c1.1.1.1, c1.1.1.2, c1.1.2, c1.2⟩
    rw [if_neg c2.1, if_neg c2.2.1, if_neg c2.2.2.1, show (bt s i == 10) = false by simpa using c2.2.2.2]
    simp only [cupelref20_skip.j1]
    rw [if_neg (by decide), if_pos (by omega), if_pos (by omega)]
    by_cases c3 : bt s i = 35
    ·rw [if_pos c3, skip_hash c c3]
     obtain ⟨k, rfl⟩ : ∃ q, k = q + 1 := ⟨k - 1, by omega⟩
     simp only [cupelref20_skip.l1]
     rw [if_pos (by omega), if_pos (by omega), if_neg (by omega), wr1 hi hs]
     have he : lineEnd s i = lineEnd s (i + 1) := endOf_step c (by rw [c3]; rfl)
     rw [he]
     exact skip_l1 s hs n (fun j h1 h2 k h3 => ih j h1 h2 k h3) n (i + 1) (by omega) (by omega) (by omega) k (by omega)
    ·rw [if_neg c3, skip_stop (by simpa using c1) c3]
  ·rw [if_neg (by omega), skip_end (by omega)]
theorem skip_f (s : ByteArray) (hs : s.size ≤ 600000) (i : Nat) (hi : i ≤ s.size) (k : Nat) (hk : 4 * s.size + 4 ≤ k) : cupelref20_skip.f k s (i : Int) = some ((skipP s i : Nat) : Int) :=
 skip_l0 s hs _ i hi (Nat.le_refl _) k (by omega)
theorem endOf_all {p : Int → Bool} {s : ByteArray} {i : Nat} : ∀ j, i ≤ j → j < endOf_ p s i → p (bt s j) = true := by
 have : ∀ n i j, i ≤ j → j < runTo p s n i → p (bt s j) = true := by
  intro n
  induction n with
  | zero => intro i j h h2; have h3 : j < i := h2; omega
  | succ n ih =>
   intro i j h h2
   unfold runTo at h2
   by_cases c : p (bt s i) = true
   ·rw [if_pos c] at h2
    by_cases e : i = j
    ·exact e ▸ c
    ·exact ih (i + 1) j (by omega) h2
   ·rw [if_neg c] at h2; omega
 exact this _ i
theorem word_l0 (s : ByteArray) (hs : s.size ≤ 600000) (a : Nat) : ∀ (n i k : Nat), i + n = s.size → n < k → a ≤ i →
  cupelref20_read.l0 k s (a : Int) (i : Int) = some ((a : Int), ((wordEnd s i : Nat) : Int), 97, s.extract a (wordEnd s i), 0) := by
 intro n
 induction n with
 | zero =>
  intro i k h hk ha
  obtain ⟨k, rfl⟩ : ∃ q, k = q + 1 := ⟨k - 1, by omega⟩
  simp only [cupelref20_read.l0]
  unfold wordEnd
  rw [if_neg (by omega), if_pos (by omega), if_pos (by omega), if_pos (by omega), endOf_end (by omega), Int.toNat_natCast, Int.toNat_natCast]
 | succ n ih =>
  intro i k h hk ha
  obtain ⟨k, rfl⟩ : ∃ q, k = q + 1 := ⟨k - 1, by omega⟩
  simp only [cupelref20_read.l0]
  rw [if_pos (by omega), if_pos (by omega), lower_f, Option.bind_some, digit_f, Option.bind_some, wr1 (n := s.size) (by omega) hs]
  have hI := ih (i + 1) k (by omega) (by omega) (by omega)
  by_cases c : (isLow (bt s i) || isDig (bt s i)) = true
  ·have he : wordEnd s i = wordEnd s (i + 1) := endOf_step (by omega) c
   rw [he]
   by_cases c1 : isLow (bt s i) = true
   ·rw [if_pos c1]; exact hI
   ·rw [if_neg c1, if_pos (by simp only [Bool.or_eq_true] at c; exact c.resolve_left c1)]; exact hI
  ·have he : wordEnd s i = i := endOf_stop (by simpa using c)
   simp only [Bool.or_eq_true, not_or] at c
   rw [he, if_neg c.1, if_neg c.2, if_pos (by omega), if_pos (by omega), if_pos (by omega), Int.toNat_natCast, Int.toNat_natCast]
theorem dig_l1 (s : ByteArray) (hs : s.size ≤ 600000) (a : Nat) (b : Int) (f : Nat) : ∀ (n i k : Nat), i + n = s.size → n < k → ∃ q, k ≤ q + n + 1 ∧
  cupelref20_read.l1 k s (a : Int) b (i : Int) (f : Int) = cupelref20_read.j4 q s (a : Int) b ((digEnd s i : Nat) : Int) (f : Int) := by
 intro n
 induction n with
 | zero =>
  intro i k h hk
  obtain ⟨k, rfl⟩ : ∃ q, k = q + 1 := ⟨k - 1, by omega⟩
  refine ⟨k, by omega, ?_⟩
  simp only [cupelref20_read.l1]
  unfold digEnd
  rw [if_neg (by omega), endOf_end (by omega)]
 | succ n ih =>
  intro i k h hk
  obtain ⟨k, rfl⟩ : ∃ q, k = q + 1 := ⟨k - 1, by omega⟩
  simp only [cupelref20_read.l1]
  rw [if_pos (by omega), if_pos (by omega), digit_f, Option.bind_some, wr1 (n := s.size) (by omega) hs]
  by_cases c : isDig (bt s i) = true
  ·have he : digEnd s i = digEnd s (i + 1) := endOf_step (by omega) c
   rw [he, if_pos c]
   obtain ⟨q, h1, h2⟩ := ih (i + 1) k (by omega) (by omega)
   exact ⟨q, by omega, h2⟩
  ·have he : digEnd s i = i := endOf_stop (by simpa using c)
   rw [he, if_neg c]
   exact ⟨k, by omega, rfl⟩
theorem ex_list (s : ByteArray) (f e : Nat) : (s.extract f e).data.toList = (s.data.toList.drop f).take (e - f) := by
 rw [ByteArray.data_extract, Array.toList_extract]
theorem bt_list (s : ByteArray) (j : Nat) (h : j < s.data.toList.length) : bt s (j : Int) = ((s.data.toList[j]).toNat : Int) := by
 have : j < s.size := by rw [Array.length_toList] at h; exact h
 unfold bt; rw [dif_pos (by simpa using this)]; rfl
theorem ex_dig (s : ByteArray) (f e : Nat) (h : ∀ j, f ≤ j → j < e → isDig (bt s (j : Int)) = true) : AllDig (s.extract f e).data.toList := by
 rw [ex_list]
 intro c hc
 obtain ⟨j, hj, rfl⟩ := List.mem_iff_getElem.1 hc
 have hj2 := hj
 rw [List.length_take, List.length_drop] at hj2
 rw [List.getElem_take, List.getElem_drop]
 have := h (f + j) (by omega) (by omega)
 rw [bt_list s (f + j) (by omega)] at this
 unfold isDig at this
 simp only [Bool.and_eq_true, decide_eq_true_eq] at this
 omega
theorem ex_head (s : ByteArray) (f e : Nat) (h1 : f < e) (h2 : e ≤ s.size) : ((s.extract f e).data.toList.head? = some 48) ↔ bt s (f : Int) = 48 := by
 have hl : f < s.data.toList.length := by rw [Array.length_toList]; exact Nat.lt_of_lt_of_le h1 h2
 rw [ex_list, bt_list s f hl, List.drop_eq_getElem_cons hl, show e - f = (e - f - 1) + 1 by omega, List.take_succ_cons]
 simp only [List.head?_cons, Option.some.injEq]
 constructor
 ·intro h; rw [h]; rfl
 ·intro h; apply UInt8.toNat_inj.1; show _ = 48; omega
theorem ex_len (s : ByteArray) (f e : Nat) (h2 : e ≤ s.size) : (s.extract f e).data.toList.length = e - f := by
 have : s.data.toList.length = s.size := by rw [Array.length_toList]; rfl
 rw [ex_list, List.length_take, List.length_drop]; omega
theorem ex_cons (s : ByteArray) (a e : Nat) (h1 : a < e) (h2 : e ≤ s.size) (hb : bt s (a : Int) = 45) : (s.extract a e).data.toList = 45 :: (s.extract (a + 1) e).data.toList := by
 have hl : a < s.data.toList.length := by rw [Array.length_toList]; exact Nat.lt_of_lt_of_le h1 h2
 rw [ex_list, ex_list, List.drop_eq_getElem_cons hl, show e - a = (e - (a + 1)) + 1 by omega, List.take_succ_cons]
 congr 1
 rw [bt_list s a hl] at hb
 apply UInt8.toNat_inj.1; show _ = 45; omega
/-- the reference's token -/
def rt (t : Tok) : Int × Int × Int × ByteArray × Int :=
 if t.sort = 0 then ((t.at_ : Int), (t.end_ : Int), 46, ⟨#[]⟩, 0) else if t.sort = 97 then ((t.at_ : Int), (t.end_ : Int), 97, t.text, 0) else if t.sort = 48 then ((t.at_ : Int), (t.end_ : Int), 48, ⟨#[]⟩, t.val) else ((t.at_ : Int), (t.end_ : Int), 115, t.text, 0)
def rtO (s : ByteArray) (i : Nat) : Int × Int × Int × ByteArray × Int := match tokP s i with
 | some t => rt t
 | none => ((skipP s i : Int), (skipP s i : Int), 33, ⟨#[]⟩, 0)
theorem j5_t (k : Nat) (a e v : Int) : cupelref20_read.j5 (k + 1) a e v true = some (a, a, 33, ⟨#[]⟩, 0) := by simp [cupelref20_read.j5]
theorem j5_f (k : Nat) (a e v : Int) : cupelref20_read.j5 (k + 1) a e v false = some (a, e, 48, ⟨#[]⟩, v) := by simp [cupelref20_read.j5]
theorem j4_f (s : ByteArray) (hs : s.size ≤ 600000) (a f e : Nat) (b : Int) (hf : f < e) (he : e ≤ s.size) (hd : ∀ j, f ≤ j → j < e → isDig (bt s (j : Int)) = true) (k : Nat) (hk : s.size + 3 ≤ k)
  (hb : (b = 45 ∧ bt s (a : Int) = 45 ∧ f = a + 1) ∨ (b ≠ 45 ∧ f = a)) :
  cupelref20_read.j4 k s (a : Int) b (e : Int) (f : Int) = some (match numP (s.extract a e).data.toList with
   | some v => ((a : Int), (e : Int), 48, ⟨#[]⟩, v)
   | none => ((a : Int), (a : Int), 33, ⟨#[]⟩, 0)) := by
 obtain ⟨k, rfl⟩ : ∃ q, k = q + 2 := ⟨k - 2, by omega⟩
 have hA := ex_dig s f e hd
 have hlen := ex_len s f e he
 have hsz : (s.extract f e).size = e - f := by rw [← hlen, Array.length_toList]; rfl
 have hne : (s.extract f e).data.toList ≠ [] := by intro h; rw [h] at hlen; simp at hlen; omega
 have hhead := ex_head s f e hf he
 have hi := int_f (s.extract f e) (b == 45) hA (by omega) (k + 1) (by omega)
 simp only [cupelref20_read.j4]
 rw [if_pos (by omega), if_pos (by omega), if_pos (by omega), Int.toNat_natCast, Int.toNat_natCast, hi, Option.bind_some, wr1 (n := s.size) (by omega) hs]
 rcases hb with ⟨hb1, hb2, hb3⟩ | ⟨hb1, hb2⟩
 ·subst hb1 hb3
  have hN := numP_minus _ hA hne
  rw [← ex_cons s a e (by omega) he hb2] at hN
  rw [show ((45 : Int) == 45) = true from rfl]
  generalize valA 0 (s.extract (a + 1) e).data.toList = u at *
  by_cases c : u ≤ 9223372036854775808
  ·have hv : intR u true = (-(u : Int), true) := by unfold intR; rw [if_pos c, if_pos rfl]
   rw [hv]
   dsimp only
   rw [if_pos rfl, if_pos (by omega)]
   by_cases c1 : bt s ((a + 1 : Nat) : Int) = 48
   ·rw [if_neg (fun h => h.2 (hhead.2 c1))] at hN
    rw [if_pos c1, hN]
    by_cases c2 : (e : Int) > ((a + 1 + 1 : Nat) : Int)
    ·rw [if_pos c2]; exact j5_t _ _ _ _
    ·rw [if_neg c2]; exact j5_t _ _ _ _
   ·rw [if_pos ⟨c, fun h => c1 (hhead.1 h)⟩] at hN
    rw [if_neg c1, hN]; exact j5_f _ _ _ _
  ·have hv : intR u true = (0, false) := by unfold intR; rw [if_neg c]
   rw [if_neg (fun h => c h.1)] at hN
   rw [hv, hN]
   dsimp only
   rw [if_neg (by decide)]; exact j5_t _ _ _ _
 ·subst hb2
  have hN := numP_digits _ hA hne
  rw [show (b == 45) = false by simpa using hb1]
  generalize valA 0 (s.extract f e).data.toList = u at *
  by_cases c : u ≤ 9223372036854775808
  ·have hv : intR u false = (wrap64 (u : Int), (-(u : Int)) != -9223372036854775808) := by unfold intR; rw [if_pos c]; rfl
   rw [hv]
   dsimp only
   by_cases c0 : u = 9223372036854775808
   ·subst c0
    rw [if_neg (fun h => absurd h.1 (by omega))] at hN
    rw [hN, if_neg (by decide)]; exact j5_t _ _ _ _
   ·rw [if_pos (show ((-(u : Int)) != -9223372036854775808) = true by simp; omega), if_pos (by omega)]
    by_cases c1 : bt s (f : Int) = 48
    ·rw [if_pos c1]
     by_cases c2 : (e : Int) > ((f + 1 : Nat) : Int)
     ·rw [if_neg (fun h => h.2.elim (fun h => by omega) (fun h => h (hhead.2 c1)))] at hN
      rw [if_pos c2, hN]; exact j5_t _ _ _ _
     ·rw [if_pos ⟨by omega, .inl (by omega)⟩] at hN
      rw [if_neg c2, hN, show wrap64 (u : Int) = (u : Int) by unfold wrap64; omega]; exact j5_f _ _ _ _
    ·rw [if_pos ⟨by omega, .inr (fun h => c1 (hhead.1 h))⟩] at hN
     rw [if_neg c1, hN, show wrap64 (u : Int) = (u : Int) by unfold wrap64; omega]; exact j5_f _ _ _ _
  ·have hv : intR u false = (0, false) := by unfold intR; rw [if_neg c]
   rw [if_neg (fun h => absurd h.1 (by omega))] at hN
   rw [hv, hN]
   dsimp only
   rw [if_neg (by decide)]; exact j5_t _ _ _ _
theorem signs (s : ByteArray) (hs : s.size ≤ 600000) (a : Nat) (ha : a < s.size) (k : Nat) (f : Int) : cupelref20_read.j2 (k + 1) s (a : Int) (bt s (a : Int)) ((a + 1 : Nat) : Int) f false =
  some (if (bt s (a : Int) == 44 || bt s (a : Int) == 59 || bt s (a : Int) == 40 || bt s (a : Int) == 41) = true then ((a : Int), ((a + 1 : Nat) : Int), 115, s.extract a (a + 1), 0) else ((a : Int), (a : Int), 33, ⟨#[]⟩, 0)) := by
 simp only [cupelref20_read.j2]
 rw [if_neg (by decide)]
 generalize bt s (a : Int) = b
 simp only [if_pos (show (0 : Int) ≤ (a : Int) by omega), if_pos (show (a : Int) ≤ ((a + 1 : Nat) : Int) by omega), if_pos (show ((a + 1 : Nat) : Int) ≤ (s.size : Int) by omega), Int.toNat_natCast]
 by_cases c1 : b = 44
 ·subst c1; rfl
 by_cases c2 : b = 59
 ·subst c2; rfl
 by_cases c3 : b = 40
 ·subst c3; rfl
 by_cases c4 : b = 41
 ·subst c4; rfl
 rw [if_neg c1, if_neg c2, if_neg c3, if_neg c4, if_neg (by simp; exact ⟨⟨⟨c1, c2⟩, c3⟩, c4⟩)]
theorem read_f (s : ByteArray) (hs : s.size ≤ 600000) (i : Nat) (hi : i ≤ s.size) (k : Nat) (hk : 4 * s.size + 10 ≤ k) : cupelref20_read.f k s (i : Int) = some (rtO s i) := by
 unfold cupelref20_read.f rtO tokP
 rw [skip_f s hs i hi k (by omega), Option.bind_some]
 have hle := skip_le s i hi
 generalize skipP s i = a at *
 by_cases c0 : a = s.size
 ·simp only [if_pos c0, if_pos (show (a : Int) = (s.size : Int) by omega)]
  rfl
 have ha : a < s.size := by omega
 simp only [if_neg c0, if_neg (show ¬ (a : Int) = (s.size : Int) by omega), if_pos (show (0 : Int) ≤ (a : Int) by omega), if_pos (show (a : Int) < (s.size : Int) by omega)]
 rw [lower_f, Option.bind_some, wr1 hle hs]
 by_cases c1 : isLow (bt s a) = true
 ·rw [if_pos c1, if_pos c1, word_l0 s hs a (s.size - (a + 1)) (a + 1) k (by omega) (by omega) (by omega)]
  rfl
 rw [if_neg c1, if_neg c1]
 obtain ⟨k, rfl⟩ : ∃ q, k = q + 2 := ⟨k - 2, by omega⟩
 by_cases c2 : bt s a = 45
 ·rw [if_pos c2, if_pos (show (isDig (bt s a) || bt s a == 45) = true by rw [c2]; rfl)]
  have hbad : numP (s.extract a (a + 1)).data.toList = none := by
   rw [ex_cons s a (a + 1) (by omega) (by omega) c2, show (s.extract (a + 1) (a + 1)).data.toList = [] from List.length_eq_zero_iff.1 (by rw [ex_len s _ _ (by omega)]; omega)]
   decide +kernel
  have hfalse : ∀ f, cupelref20_read.j2 (k + 1) s (a : Int) (bt s (a : Int)) ((a + 1 : Nat) : Int) f false = some ((a : Int), (a : Int), 33, ⟨#[]⟩, 0) := by
   intro f
   rw [signs s hs a ha k f, c2]; rfl
  simp only [cupelref20_read.j1]
  by_cases c3 : a + 1 < s.size
  ·rw [if_pos (by omega), if_pos (by omega), digit_f, Option.bind_some]
   by_cases c4 : isDig (bt s ((a + 1 : Nat) : Int)) = true
   ·rw [c4]
    simp only [cupelref20_read.j2, if_true]
    obtain ⟨q, h1, h2⟩ := dig_l1 s hs a (bt s a) (a + 1) (s.size - (a + 1)) (a + 1) k (by omega) (by omega)
    have hgt : a + 1 + 1 ≤ digEnd s (a + 1) := by unfold digEnd; rw [endOf_step c3 c4]; exact endOf_ge _ _ _
    rw [h2, j4_f s hs a (a + 1) (digEnd s (a + 1)) (bt s a) (by omega) (endOf_le _ _ _ (by omega)) (fun j h3 h4 => endOf_all j h3 h4) q (by omega) (.inl ⟨c2, c2, rfl⟩)]
    cases numP (s.extract a (digEnd s (a + 1))).data.toList with
    | none => rfl
    | some v => rfl
   ·have he : digEnd s (a + 1) = a + 1 := endOf_stop (by simpa using c4)
    rw [show isDig (bt s ((a + 1 : Nat) : Int)) = false by simpa using c4, hfalse, he, hbad]
  ·have he : digEnd s (a + 1) = a + 1 := endOf_end (by omega)
   rw [if_neg (by omega), hfalse, he, hbad]
 rw [if_neg c2]
 simp only [cupelref20_read.j1]
 rw [if_pos (by omega), if_pos (by omega), digit_f, Option.bind_some]
 by_cases c4 : isDig (bt s (a : Int)) = true
 ·rw [c4]
  simp only [cupelref20_read.j2, if_true]
  rw [if_pos (show (true || bt s a == 45) = true from rfl)]
  obtain ⟨q, h1, h2⟩ := dig_l1 s hs a (bt s a) a (s.size - a) a k (by omega) (by omega)
  have hst : digEnd s a = digEnd s (a + 1) := endOf_step ha c4
  have hgt : a + 1 ≤ digEnd s (a + 1) := endOf_ge _ _ _
  rw [h2, hst, j4_f s hs a a (digEnd s (a + 1)) (bt s a) (by omega) (endOf_le _ _ _ (by omega)) (fun j h3 h4 => endOf_all j h3 (by rw [← hst] at h4; exact h4)) q (by omega) (.inr ⟨c2, rfl⟩)]
  cases numP (s.extract a (digEnd s (a + 1))).data.toList with
  | none => rfl
  | some v => rfl
 rw [show isDig (bt s (a : Int)) = false by simpa using c4, signs s hs a ha k _, if_neg (show ¬ (false || bt s a == 45) = true by simpa using c2)]
 generalize bt s (a : Int) = b at *
 by_cases c5 : (b == 44 || b == 59 || b == 40 || b == 41) = true
 ·rw [if_pos c5, if_pos c5]
  have hb : ¬ b = 0 ∧ ¬ b = 97 ∧ ¬ b = 48 := by
   simp only [Bool.or_eq_true, beq_iff_eq] at c5
   omega
  show some _ = some (rt ⟨a, a + 1, b, s.extract a (a + 1), 0⟩)
  unfold rt
  rw [if_neg hb.1, if_neg hb.2.1, if_neg hb.2.2]
 ·rw [if_neg c5, if_neg c5]
end Go.Proofs.YtlaijeeeblcinaaDoor.A

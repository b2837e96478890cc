/- The reference's numerals: what its integer returns at digits, and which numerals are canonical. -/
import Derived.Test.YtlaijeeeblcinaaDoorRd
import Derived.Test.YtlaijeeeblcinaaDoorNx
import Derived.Test.YtlaijeeeblcinaaDoorAx5
import Derived.Lib.ParseIntBCases
import Derived.Test.YtlaijeeeblcinaaDoorAx6
set_option linter.all false
set_option maxRecDepth 100000
namespace Go.Proofs.YtlaijeeeblcinaaDoor.A
open Go.RowKit Go.Lib Go.Proofs.YtlaijeeeblcinaaDoorW.PrintWords
def valA (acc : Nat) : List UInt8 → Nat
 | [] => acc
 | c :: r => valA (acc * 10 + (c.toNat - 48)) r
def AllDig (l : List UInt8) : Prop := ∀ c ∈ l, 48 ≤ c.toNat ∧ c.toNat ≤ 57
theorem AllDig.tail {c : UInt8} {l : List UInt8} (h : AllDig (c :: l)) : AllDig l := fun x hx => h x (List.mem_cons_of_mem _ hx)
theorem valA_ge : ∀ (l : List UInt8) (acc : Nat), acc ≤ valA acc l
 | [], acc => Nat.le_refl _
 | c :: r, acc => by
  have := valA_ge r (acc * 10 + (c.toNat - 48))
  unfold valA; omega
theorem valA_append (c : UInt8) : ∀ (l : List UInt8) (acc : Nat), valA acc (l ++ [c]) = valA acc l * 10 + (c.toNat - 48)
 | [], acc => rfl
 | x :: r, acc => valA_append c r _
theorem parseM : ∀ (l : List UInt8) (acc : Nat), AllDig l → acc ≤ 18446744073709551615 → parseUintM 18446744073709551615 acc l = if valA acc l ≤ 18446744073709551615 then .ok (valA acc l) else .range
 | [], acc, _, ha => by unfold parseUintM valA; rw [if_pos ha]
 | c :: r, acc, hd, ha => by
  have hc := hd c (List.mem_cons_self)
  have hg := valA_ge r (acc * 10 + (c.toNat - 48))
  unfold parseUintM valA
  rw [if_pos hc]
  by_cases h1 : 1844674407370955162 ≤ acc
  ·rw [if_pos h1, if_neg (by omega)]
  ·rw [if_neg h1]
   by_cases h2 : 18446744073709551615 < acc * 10 + (c.toNat - 48)
   ·rw [if_pos h2, if_neg (by omega)]
   ·rw [if_neg h2]; exact parseM r _ hd.tail (by omega)
theorem parseB (l : List UInt8) (hd : AllDig l) (hl : l ≠ []) : parseUintB 64 l = if valA 0 l ≤ 18446744073709551615 then .ok (valA 0 l) else .range := by
 unfold parseUintB
 rw [if_neg hl]
 exact parseM l 0 hd (by decide)
theorem dec_ne (u : Nat) : decDigits u ≠ [] := by
 intro h
 have := decDigits_length u
 rw [h] at this
 have := nDigits_pos u
 simp at *; omega
theorem dec_head : ∀ (n u : Nat), u ≤ n → 1 ≤ u → (decDigits u).head? ≠ some 48 := by
 intro n
 induction n with
 | zero => intro u h h1; omega
 | succ n ih =>
  intro u h h1
  rw [decDigits]
  by_cases c : u < 10
  ·rw [dif_pos c]
   intro e
   have e2 : (UInt8.ofNat (48 + u)).toNat = 48 := by rw [Option.some.inj e]; rfl
   rw [UInt8.toNat_ofNat'] at e2
   omega
  ·rw [dif_neg c, List.head?_append]
   have := ih (u / 10) (by omega) (by omega)
   have hn := dec_ne (u / 10)
   cases hh : (decDigits (u / 10)).head? with
   | none => exact absurd (List.head?_eq_none_iff.1 hh) hn
   | some x => rw [hh] at this; simpa using this
theorem dec_canon : ∀ (n : Nat) (l : List UInt8), l.length = n → AllDig l → l ≠ [] → (l.length = 1 ∨ l.head? ≠ some 48) → decDigits (valA 0 l) = l := by
 intro n
 induction n with
 | zero => intro l h _ hn; exact absurd (List.length_eq_zero_iff.1 h) hn
 | succ n ih =>
  intro l h hd hn hc
  obtain ⟨l', c, rfl⟩ : ∃ l' c, l = l' ++ [c] := ⟨l.dropLast, l.getLast hn, (List.dropLast_concat_getLast hn).symm⟩
  have hcd := hd c (by simp)
  have hd' : AllDig l' := fun x hx => hd x (by simp [hx])
  rw [valA_append]
  by_cases e : l' = []
  ·subst e
   show decDigits (0 * 10 + (c.toNat - 48)) = [c]
   rw [decDigits, dif_pos (by omega)]
   congr 1
   apply UInt8.toNat_inj.1
   rw [UInt8.toNat_ofNat']; omega
  ·have hh : l'.head? ≠ some 48 := by
    rcases hc with hc | hc
    ·simp at hc; exact absurd hc e
    ·rw [List.head?_append] at hc
     cases h' : l'.head? with
     | none => exact absurd (List.head?_eq_none_iff.1 h') e
     | some x => rw [h'] at hc; simpa using hc
   have ihl := ih l' (by simp at h; exact h) hd' e (.inr hh)
   have hpos : 1 ≤ valA 0 l' := by
    cases l' with
    | nil => exact absurd rfl e
    | cons x r =>
     have hx := hd' x (List.mem_cons_self)
     have hx2 : x.toNat ≠ 48 := fun e2 => hh (by simp; apply UInt8.toNat_inj.1; rw [e2]; rfl)
     have := valA_ge r (0 * 10 + (x.toNat - 48))
     show 1 ≤ valA _ r
     omega
   rw [decDigits, dif_neg (by omega), show (valA 0 l' * 10 + (c.toNat - 48)) / 10 = valA 0 l' by omega, ihl]
   congr 2
   apply UInt8.toNat_inj.1
   rw [UInt8.toNat_ofNat']; omega
theorem dec_not (l : List UInt8) (hd : AllDig l) (h1 : l.length ≠ 1) (h2 : l.head? = some 48) : decDigits (valA 0 l) ≠ l := by
 intro e
 by_cases c : 1 ≤ valA 0 l
 ·exact dec_head _ _ (Nat.le_refl _) c (by rw [e]; exact h2)
 ·rw [show valA 0 l = 0 by omega, decDigits, dif_pos (by omega)] at e
  exact h1 (by rw [← e]; rfl)
theorem numP_digits (l : List UInt8) (hd : AllDig l) (hl : l ≠ []) : numP l = if valA 0 l < 9223372036854775808 ∧ (l.length = 1 ∨ l.head? ≠ some 48) then some ((valA 0 l : Nat) : Int) else none := by
 obtain ⟨c, r, rfl⟩ : ∃ c r, l = c :: r := by cases l with
  | nil => exact absurd rfl hl
  | cons c r => exact ⟨c, r, rfl⟩
 have hc := hd c (List.mem_cons_self)
 have hp := parseB _ hd hl
 have hI := parseIntB_plain 64 c r (by omega) (by omega)
 rw [hp] at hI
 unfold numP
 by_cases c1 : valA 0 (c :: r) < 9223372036854775808
 ·rw [if_pos (by omega)] at hI
  have hI' : parseIntB 64 (c :: r) = .ok ((valA 0 (c :: r) : Nat) : Int) := by rw [hI]; unfold signlessC; simp only; rw [if_neg (by omega)]
  rw [hI']
  have hit : itoa ((valA 0 (c :: r) : Nat) : Int) = decDigits (valA 0 (c :: r)) := by unfold itoa; rw [if_neg (by omega), Int.toNat_natCast]
  simp only [hit]
  by_cases c2 : (c :: r).length = 1 ∨ (c :: r).head? ≠ some 48
  ·rw [if_pos (dec_canon _ _ rfl hd hl c2), if_pos ⟨c1, c2⟩]
  ·rw [if_neg (dec_not _ hd (fun e => c2 (.inl e)) (Decidable.byContradiction fun e => c2 (.inr e))), if_neg (fun e => c2 e.2)]
 ·rw [if_neg (fun e => c1 e.1)]
  have hI' : parseIntB 64 (c :: r) = .range := by
   rw [hI]; unfold signlessC
   by_cases c3 : valA 0 (c :: r) ≤ 18446744073709551615
   ·rw [if_pos c3]; simp only; rw [if_pos (by omega)]
   ·rw [if_neg c3]
  rw [hI']
theorem numP_minus (l : List UInt8) (hd : AllDig l) (hl : l ≠ []) : numP (45 :: l) = if valA 0 l ≤ 9223372036854775808 ∧ l.head? ≠ some 48 then some (-((valA 0 l : Nat) : Int)) else none := by
 have hp := parseB _ hd hl
 have hI := parseIntB_minus 64 l
 rw [hp] at hI
 unfold numP
 by_cases c1 : valA 0 l ≤ 9223372036854775808
 ·rw [if_pos (by omega)] at hI
  have hI' : parseIntB 64 (45 :: l) = .ok (-((valA 0 l : Nat) : Int)) := by rw [hI]; unfold signedC; simp only; rw [if_neg (by omega)]
  rw [hI']
  by_cases c2 : l.head? = some 48
  ·rw [if_neg (fun e => e.2 c2)]
   by_cases c3 : valA 0 l = 0
   ·rw [c3]
    have h0 : itoa (-((0 : Nat) : Int)) = [48] := by
     unfold itoa
     rw [if_neg (by decide)]
     show decDigits 0 = _
     rw [decDigits, dif_pos (by omega)]; rfl
    simp only [h0]
    rw [if_neg]
    intro e
    exact absurd (List.cons.inj e).1 (by decide)
   ·have hit : itoa (-((valA 0 l : Nat) : Int)) = 45 :: decDigits (valA 0 l) := by unfold itoa; rw [if_pos (by omega), Int.natAbs_neg, Int.natAbs_natCast]
    simp only [hit]
    rw [if_neg]
    intro e
    have e2 := List.cons.inj e
    exact dec_head _ _ (Nat.le_refl _) (by omega) (e2.2 ▸ c2)
  ·rw [if_pos ⟨c1, c2⟩]
   have h3 := dec_canon _ _ rfl hd hl (.inr c2)
   have hpos : 1 ≤ valA 0 l := by
    apply Decidable.byContradiction
    intro hz
    rw [show valA 0 l = 0 by omega] at h3
    apply c2
    rw [← h3, decDigits, dif_pos (by omega)]; rfl
   have hit : itoa (-((valA 0 l : Nat) : Int)) = 45 :: decDigits (valA 0 l) := by unfold itoa; rw [if_pos (by omega), Int.natAbs_neg, Int.natAbs_natCast]
   simp only [hit]
   rw [if_pos (by rw [h3])]
 ·rw [if_neg (fun e => c1 e.1)]
  have hI' : parseIntB 64 (45 :: l) = .range := by
   rw [hI]; unfold signedC
   by_cases c3 : valA 0 l ≤ 18446744073709551615
   ·rw [if_pos c3]; simp only; rw [if_pos (by omega)]
   ·rw [if_neg c3]
  rw [hI']
end Go.Proofs.YtlaijeeeblcinaaDoor.A
set_option linter.all false
set_option maxRecDepth 100000
namespace Go.Proofs.YtlaijeeeblcinaaDoor.A
open Go.RowKit Go.Lib Go.Proofs.YtlaijeeeblcinaaDoorW.PrintWords
theorem ex_list (s : ByteArray) (f e : Nat) : (s.extract f e).data.toList = (s.data.toList.drop f).take (e - f) := by
 rw [ByteArray.data_extract, Array.toList_extract]
theorem bt_list (s : ByteArray) (j : Nat) (h : j < s.data.toList.length) : bt s (j : Int) = ((s.data.toList[j]).toNat : Int) := by
 have : j < s.size := by rw [Array.length_toList] at h; exact h
 unfold bt; rw [dif_pos (by simpa using this)]; rfl
end Go.Proofs.YtlaijeeeblcinaaDoor.A

/- The plain functions of target are total where the laws ask. -/
import Derived.Test.YtlaijeeeblcinaaDoorEv2
set_option linter.all false
set_option linter.unusedVariables false
set_option maxRecDepth 100000
namespace Go.Proofs.YtlaijeeeblcinaaDoor.A
open Go.RowKit Go.Proofs.YtlaijeeeblcinaaDoorW.PrintWords
theorem b_true {b : Bool} (h : ¬ b = false) : b = true := by cases b <;> simp_all
theorem wrap_id {x : Int} (h1 : -9223372036854775808 ≤ x) (h2 : x ≤ 9223372036854775807) : wrap64 x = x := by unfold wrap64; omega
theorem eqw_some (x y : List Int) (hl : x.length = y.length) (hx : x.length ≤ 1000) : ∀ (n i k : Nat), i + n = x.length → n < k → ∃ b, slices_Equal_uint64_uint64.l0 k x y (x.length : Int) (i : Int) = some b := by
 intro n
 induction n with
 | zero =>
  intro i k hi hk
  obtain ⟨k, rfl⟩ : ∃ j, k = j + 1 := ⟨k - 1, by omega⟩
  exact ⟨true, by unfold slices_Equal_uint64_uint64.l0; rw [if_neg (by omega)]⟩
 | succ n ih =>
  intro i k hi hk
  obtain ⟨k, rfl⟩ : ∃ j, k = j + 1 := ⟨k - 1, by omega⟩
  unfold slices_Equal_uint64_uint64.l0
  rw [if_pos (by omega), if_pos (by omega), if_pos (by omega), if_pos (by omega)]
  by_cases c : rd x (i : Int) = rd y (i : Int)
  ·rw [if_pos c, show wrap64 ((i : Int) + 1) = ((i + 1 : Nat) : Int) by rw [wrap_id (by omega) (by omega)]; omega]
   exact ih (i + 1) k (by omega) (by omega)
  ·rw [if_neg c]; exact ⟨false, rfl⟩
theorem eqw_total (k : Nat) (x y : List Int) (hx : x.length ≤ 1000) (hk : x.length < k) : ∃ b, slices_Equal_uint64_uint64.f k x y = some b := by
 unfold slices_Equal_uint64_uint64.f
 by_cases c : (x.length : Int) = (y.length : Int)
 ·rw [if_pos c]; exact eqw_some x y (by omega) hx x.length 0 k (by omega) hk
 ·rw [if_neg c]; exact ⟨false, rfl⟩
theorem words_total (a b c d e : Int) : ∃ l, target_words.f ([] : List Int) a b c d e = some l ∧ l.length ≤ 2 := by
 unfold target_words.f
 by_cases h : a = 3
 ·rw [if_pos h]
  simp only [Option.bind_some, List.length_nil, List.length_cons, List.nil_append]
  rw [if_pos (by omega)]
  exact ⟨_, rfl, by simp⟩
 ·rw [if_neg h]
  simp only [List.length_nil, List.nil_append]
  rw [if_pos (by omega)]
  exact ⟨_, rfl, by simp⟩
theorem fits_total (a b : Int) : ∃ r, target_fits.f a b = some r := by
 unfold target_fits.f
 repeat (first | split | exact ⟨_, rfl⟩)
theorem find_total (a : Int) : ∃ t, cupelref20_find.f a = some t ∧ (t.2.2.2.2.2.2 = true → 1 ≤ a ∧ a ≤ 14 ∨ 16 ≤ a ∧ a ≤ 29 ∨ 36 ≤ a ∧ a ≤ 49) := by
 by_cases h1 : 1 ≤ a ∧ a ≤ 14
 ·have := find_tab (a - 1).toNat (by omega)
  rw [show (((a - 1).toNat : Nat) : Int) + 1 = a by omega] at this
  exact ⟨_, this, fun _ => .inl h1⟩
 ·by_cases h2 : 16 ≤ a ∧ a ≤ 29
  ·have := find_bin (a - 16).toNat (by omega)
   rw [show 16 + (((a - 16).toNat : Nat) : Int) = a by omega] at this
   exact ⟨_, this, fun _ => .inr (.inl h2)⟩
  ·by_cases h3 : 36 ≤ a ∧ a ≤ 49
   ·have := find_bini (a - 36).toNat (by omega)
    rw [show 36 + (((a - 36).toNat : Nat) : Int) = a by omega] at this
    exact ⟨_, this, fun _ => .inr (.inr h3)⟩
   ·exact ⟨_, find_no a (fun i hi e => by omega) (fun i hi => ⟨fun e => by omega, fun e => by omega⟩), fun h => by simp at h⟩
theorem regOk_range {u : Bool} {r : Int} (h : regOk u r = true) : 0 ≤ r ∧ r < 10 := by
 unfold regOk at h
 by_cases c : r = 0
 ·omega
 ·rw [if_neg c] at h
  by_cases cu : u = false
  ·rw [if_pos cu] at h; cases h
  ·rw [if_neg cu] at h
   by_cases c2 : r > 0
   ·rw [if_pos c2] at h; have := of_decide_eq_true h; omega
   ·rw [if_neg c2] at h; cases h
/-- what a valid instruction's parts are -/
def Parts (op d a b : Int) : Prop := (1 ≤ op ∧ op ≤ 14 ∨ 16 ≤ op ∧ op ≤ 29 ∨ 36 ≤ op ∧ op ≤ 49) ∧ 0 ≤ d ∧ d < 10 ∧ 0 ≤ a ∧ a < 10 ∧ 0 ≤ b ∧ b < 10
theorem valid_total (op d a b i : Int) : ∃ r, target_Valid.f op d a b i = some r ∧ (r = true → Parts op d a b) := by
 obtain ⟨t, ht, hr⟩ := find_total op
 unfold target_Valid.f
 rw [ht, Option.bind_some]
 by_cases c0 : t.2.2.2.2.2.2 = false
 ·rw [if_pos c0]; exact ⟨false, rfl, fun h => by cases h⟩
 ·rw [if_neg c0]
  by_cases c1 : regOk t.2.2.1 d = false
  ·rw [if_pos c1]; exact ⟨false, rfl, fun h => by cases h⟩
  ·rw [if_neg c1]
   by_cases c2 : regOk t.2.2.2.1 a = false
   ·rw [if_pos c2]; exact ⟨false, rfl, fun h => by cases h⟩
   ·rw [if_neg c2]
    by_cases c3 : regOk t.2.2.2.2.1 b = false
    ·rw [if_pos c3]; exact ⟨false, rfl, fun h => by cases h⟩
    ·rw [if_neg c3]
     obtain ⟨r, hf⟩ := fits_total t.2.2.2.2.2.1 i
     have g1 := regOk_range (b_true c1)
     have g2 := regOk_range (b_true c2)
     have g3 := regOk_range (b_true c3)
     exact ⟨r, hf, fun _ => ⟨hr (b_true c0), g1.1, g1.2, g2.1, g2.2, g3.1, g3.2⟩⟩
/-- an answer of Decode: at a word of the code; what it says is valid, and the next place lies behind it -/
def Dec (l : List Int) (at_ : Int) (t : Int × Int × Int × Int × Int × Int × Int) : Prop :=
 t.2.2.2.2.2.2 = 0 → Parts t.1 t.2.1 t.2.2.1 t.2.2.2.1 ∧ 0 ≤ at_ ∧ at_ < t.2.2.2.2.2.1 ∧ t.2.2.2.2.2.1 ≤ (l.length : Int)
theorem j1_total (k : Nat) (l : List Int) (hl : l.length ≤ 20000) (x1 x8 a b c d e : Int) (h1 : 0 ≤ x1) (h2 : 1 ≤ x8) (h3 : x8 ≤ 2) (h4 : x1 + x8 ≤ (l.length : Int)) (hk : 5 ≤ k) :
  ∃ t, target_Decode.j1 k l x1 x8 a b c d e = some t ∧ Dec l x1 t := by
 obtain ⟨k, rfl⟩ : ∃ j, k = j + 1 := ⟨k - 1, by omega⟩
 rw [target_Decode.j1]
 obtain ⟨r, hr, hp⟩ := valid_total a b c d e
 rw [hr, Option.bind_some]
 by_cases cr : r = true
 ·rw [if_pos cr]
  obtain ⟨ws, hw, hwl⟩ := words_total a b c d e
  rw [hw, Option.bind_some, if_pos h1, wrap_id (by omega) (by omega), if_pos (by omega), if_pos h4]
  obtain ⟨q, hq⟩ := eqw_total k ws ((l.take (x1 + x8).toNat).drop x1.toNat) (by omega) (by omega)
  rw [hq, Option.bind_some]
  by_cases cq : q = true
  ·rw [if_pos cq]; exact ⟨_, rfl, fun _ => ⟨hp cr, h1, by simp only; omega, h4⟩⟩
  ·rw [if_neg cq]; exact ⟨_, rfl, fun h => by simp at h⟩
 ·rw [if_neg cr]; exact ⟨_, rfl, fun h => by simp at h⟩
theorem decode_total (k : Nat) (l : List Int) (hl : l.length ≤ 20000) (a : Int) (hk : 8 ≤ k) : ∃ t, target_Decode.f k l a = some t ∧ Dec l a t := by
 obtain ⟨k, rfl⟩ : ∃ j, k = j + 1 := ⟨k - 1, by omega⟩
 unfold target_Decode.f
 by_cases c : a < 0
 ·rw [if_pos c]; rw [target_Decode.j0]; rw [if_pos rfl]; exact ⟨_, rfl, fun h => by simp at h⟩
 ·rw [if_neg c]
  rw [target_Decode.j0]
  by_cases c2 : a ≥ (l.length : Int)
  ·rw [if_pos (decide_eq_true c2)]; exact ⟨_, rfl, fun h => by simp at h⟩
  ·rw [if_neg (by simpa using c2), if_pos (by omega), if_pos (by omega)]
   by_cases c3 : wrap64 (Go.bits .and .u64 (rd l a) 255) = 3
   ·rw [if_pos c3, wrap_id (x := a + 1) (by omega) (by omega)]
    by_cases c4 : a + 1 = (l.length : Int)
    ·rw [if_pos c4]; exact ⟨_, rfl, fun h => by simp at h⟩
    ·rw [if_neg c4, if_pos (by omega), if_pos (by omega)]
     exact j1_total k l hl a 2 _ _ _ _ _ (by omega) (by omega) (by omega) (by omega) (by omega)
   ·rw [if_neg c3]
    exact j1_total k l hl a 1 _ _ _ _ _ (by omega) (by omega) (by omega) (by omega) (by omega)
theorem items_total (l : List Int) (hl : l.length ≤ 20000) : ∀ (n k : Nat) (a : Int), (l.length : Int) - a ≤ n → n + 10 ≤ k → ∃ xs, itemsF k l a = some xs := by
 intro n
 induction n with
 | zero =>
  intro k a hn hk
  obtain ⟨k, rfl⟩ : ∃ j, k = j + 1 := ⟨k - 1, by omega⟩
  unfold itemsF
  rw [if_neg (by omega)]
  exact ⟨_, rfl⟩
 | succ n ih =>
  intro k a hn hk
  obtain ⟨k, rfl⟩ : ∃ j, k = j + 1 := ⟨k - 1, by omega⟩
  unfold itemsF
  by_cases c : a < (l.length : Int)
  ·rw [if_pos c]
   obtain ⟨t, ht, hd⟩ := decode_total k l hl a (by omega)
   rw [ht, Option.bind_some]
   by_cases ct : t.2.2.2.2.2.2 = 0
   ·rw [if_pos ct]
    have hd := hd ct
    obtain ⟨xs, hx⟩ := ih k t.2.2.2.2.2.1 (by have := hd.2.2.1; omega) (by omega)
    rw [hx, Option.bind_some]
    exact ⟨_, rfl⟩
   ·rw [if_neg ct]; exact ⟨_, rfl⟩
  ·rw [if_neg c]; exact ⟨_, rfl⟩
end Go.Proofs.YtlaijeeeblcinaaDoor.A

/- What is encoded is decoded as the same. -/
import Derived.Test.YtlaijeeeblcinaaDoorLc
import Derived.Test.YtlaijeeeblcinaaDoorLe
import Derived.Test.YtlaijeeeblcinaaDoorDx3
set_option linter.all false
set_option maxRecDepth 100000
set_option maxHeartbeats 1000000
namespace Go.Proofs.YtlaijeeeblcinaaDoor.A
open Go.RowKit Go.Lib Go.Proofs.YtlaijeeeblcinaaDoorW.PrintWords
theorem and_mod (n : Nat) (hn : n ≤ 8) (y : Int) (h0 : 0 ≤ y) (h1 : y < 18446744073709551616) : Go.bits .and .u64 y ((2 ^ n - 1 : Nat) : Int) = y % ((2 ^ n : Nat) : Int) := by
 obtain ⟨x, rfl⟩ := Int.eq_ofNat_of_zero_le h0
 have e64 : (2 : Nat) ^ 64 = 18446744073709551616 := rfl
 have hx : x < 2 ^ 64 := by omega
 have hp : (2 : Nat) ^ n ≤ 2 ^ 8 := Nat.pow_le_pow_right (by decide) hn
 have e8 : (2 : Nat) ^ 8 = 256 := rfl
 have hm : 2 ^ n - 1 < 2 ^ 64 := by omega
 show IntKind.u64.wrap (((BitVec.ofInt 64 (x : Int) &&& BitVec.ofInt 64 ((2 ^ n - 1 : Nat) : Int) : BitVec 64).toNat : Nat) : Int) = _
 have ex : (BitVec.ofInt 64 (x : Int)).toNat = x := by rw [BitVec.ofInt_natCast, BitVec.toNat_ofNat]; exact Nat.mod_eq_of_lt hx
 have ey : (BitVec.ofInt 64 ((2 ^ n - 1 : Nat) : Int)).toNat = 2 ^ n - 1 := by rw [BitVec.ofInt_natCast, BitVec.toNat_ofNat]; exact Nat.mod_eq_of_lt hm
 rw [BitVec.toNat_and, ex, ey, Nat.and_two_pow_sub_one_eq_mod]
 have hlt : x % 2 ^ n < 2 ^ n := Nat.mod_lt _ (Nat.two_pow_pos n)
 rw [u64_id (by omega) (by omega)]
 exact Int.natCast_emod x (2 ^ n)
theorem and255 (y : Int) (h0 : 0 ≤ y) (h1 : y < 18446744073709551616) : wrap64 (Go.bits .and .u64 y 255) = y % 256 := by
 have := and_mod 8 (by omega) y h0 h1
 rw [show ((2 ^ 8 - 1 : Nat) : Int) = 255 by decide, show ((2 ^ 8 : Nat) : Int) = 256 by decide] at this
 rw [this, wrap_id (by omega) (by omega)]
theorem and15 (y : Int) (h0 : 0 ≤ y) (h1 : y < 18446744073709551616) : wrap64 (Go.bits .and .u64 y 15) = y % 16 := by
 have := and_mod 4 (by omega) y h0 h1
 rw [show ((2 ^ 4 - 1 : Nat) : Int) = 15 by decide, show ((2 ^ 4 : Nat) : Int) = 16 by decide] at this
 rw [this, wrap_id (by omega) (by omega)]
/-- which operations have which immediates -/
def okKind (n : Nat) : Bool := match cupelref20_find.f (n : Int) with
 | none => true
 | some t => decide (n = 3) || decide (t.2.2.2.2.2.1 = 0) || decide (t.2.2.2.2.2.1 = 1) || decide (t.2.2.2.2.2.1 = 3)
theorem kinds_ok : (List.range 50).all okKind = true := by decide +kernel
def toI (x : S26) : Item := (x.f0, x.f1, x.f2, x.f3, x.f4, 0)
theorem good_S {x : S26} (h : okS x = true) (hi : I64 x.f4) : GoodI (toI x) := ⟨⟨okS_parts h, hi⟩, by show target_Valid.f x.f0 x.f1 x.f2 x.f3 x.f4 = some true; rw [okS_some, h]⟩
theorem imm_small {x : S26} (h : okS x = true) (hi : I64 x.f4) (h3 : x.f0 ≠ 3) : -2147483648 ≤ x.f4 ∧ x.f4 ≤ 2147483647 := by
 obtain ⟨t, ht, hr, h1, h2, hf, u1, u2, u3, hfit⟩ := good_parts (good_S h hi)
 obtain ⟨ho, _⟩ := okS_parts h
 have := List.all_eq_true.1 kinds_ok x.f0.toNat (List.mem_range.2 (by omega))
 unfold okKind at this
 have ht' : cupelref20_find.f x.f0 = some t := ht
 rw [show ((x.f0.toNat : Nat) : Int) = x.f0 by omega, ht'] at this
 dsimp only at this
 simp only [Bool.or_eq_true, decide_eq_true_eq] at this
 have hfit' : fitsP t.2.2.2.2.2.1 x.f4 = true := hfit
 unfold fitsP at hfit'
 rcases this with ((e | e) | e) | e
 ·omega
 ·rw [if_pos e] at hfit'; have := beq_iff_eq.1 hfit'; omega
 ·rw [if_neg (by omega), if_pos e] at hfit'; simp only [Bool.and_eq_true, decide_eq_true_eq] at hfit'; exact hfit'
 ·rw [if_neg (by omega), if_neg (by omega), if_pos e] at hfit'; simp only [Bool.and_eq_true, decide_eq_true_eq] at hfit'; omega
def W0 (x : S26) : Int := x.f0 + x.f1 * 256 + x.f2 * 4096 + x.f3 * 65536 + (if x.f0 = 3 then 0 else x.f4 % 4294967296) * 4294967296
theorem words_val {x : S26} (h : okS x = true) : wordsS x = if x.f0 = 3 then [W0 x, x.f4 % 18446744073709551616] else [W0 x] := by
 obtain ⟨ho, d0, d1, a0, a1, b0, b1⟩ := okS_parts h
 unfold wordsS cupelref20_words.f W0
 have e1 : IntKind.u64.wrap x.f0 = x.f0 := u64_id (by omega) (by omega)
 have e2 : IntKind.u64.wrap ((IntKind.u64.wrap x.f1) * 256) = x.f1 * 256 := by rw [u64_id (x := x.f1) d0 (by omega), u64_id (by omega) (by omega)]
 have e3 : IntKind.u64.wrap ((IntKind.u64.wrap x.f2) * 4096) = x.f2 * 4096 := by rw [u64_id (x := x.f2) a0 (by omega), u64_id (by omega) (by omega)]
 have e4 : IntKind.u64.wrap ((IntKind.u64.wrap x.f3) * 65536) = x.f3 * 65536 := by rw [u64_id (x := x.f3) b0 (by omega), u64_id (by omega) (by omega)]
 have w1 : IntKind.u64.wrap (x.f0 + x.f1 * 256) = x.f0 + x.f1 * 256 := u64_id (by omega) (by omega)
 have w2 : IntKind.u64.wrap (x.f0 + x.f1 * 256 + x.f2 * 4096) = x.f0 + x.f1 * 256 + x.f2 * 4096 := u64_id (by omega) (by omega)
 have w3 : IntKind.u64.wrap (x.f0 + x.f1 * 256 + x.f2 * 4096 + x.f3 * 65536) = x.f0 + x.f1 * 256 + x.f2 * 4096 + x.f3 * 65536 := u64_id (by omega) (by omega)
 rw [e1, e2, e3, e4, w1, w2, w3]
 by_cases c : x.f0 = 3
 ·rw [if_pos c, if_pos c, if_pos c, u64_val, Option.getD_some]
  congr 1; omega
 ·rw [if_neg c, if_neg c, if_neg c, Option.getD_some]
  have e5 : IntKind.u64.wrap ((IntKind.u64.wrap x.f4) * 4294967296) = x.f4 % 4294967296 * 4294967296 := by
   rw [u64_val, u64_val]; omega
  rw [e5]
  congr 1
  exact u64_id (by omega) (by omega)
theorem eqw_refl {x : List Int} : ∀ (n i k : Nat), i + n = x.length → n < k → x.length ≤ 1000000 → slices_Equal_uint64_uint64.l0 k x x (x.length : Int) (i : Int) = some true := by
 intro n
 induction n with
 | zero =>
  intro i k h hk hx
  obtain ⟨k, rfl⟩ : ∃ z, k = z + 1 := ⟨k - 1, by omega⟩
  rw [slices_Equal_uint64_uint64.l0, if_neg (by omega)]
 | succ n ih =>
  intro i k h hk hx
  obtain ⟨k, rfl⟩ : ∃ z, k = z + 1 := ⟨k - 1, by omega⟩
  rw [slices_Equal_uint64_uint64.l0, if_pos (by omega), if_pos (by omega), if_pos (by omega), if_pos (by omega), if_pos rfl, wrap_succ i (by omega)]
  exact ih (i + 1) k (by omega) (by omega) hx
theorem tgt_wordsS {x : S26} (h : okS x = true) : target_words.f ([] : List Int) x.f0 x.f1 x.f2 x.f3 x.f4 = some (wordsS x) := words_valid h [] (by simp)
theorem rd_mid (pre w post : List Int) (j : Nat) (hj : j < w.length) : rd (pre ++ w ++ post) ((pre.length + j : Nat) : Int) = w[j] := by
 unfold rd
 rw [Int.toNat_natCast, List.getD_eq_getElem?_getD]
 have : (pre ++ w ++ post)[pre.length + j]? = some w[j] := by
  rw [List.append_assoc, List.getElem?_append_right (by omega), Nat.add_sub_cancel_left, List.getElem?_append_left hj, List.getElem?_eq_getElem hj]
 rw [this]; rfl
theorem dec_enc {x : S26} (h : okS x = true) (hi : I64 x.f4) (pre post : List Int) (hl : (pre ++ wordsS x ++ post).length ≤ 20000) (k : Nat) :
  target_Decode.f (k + 10) (pre ++ wordsS x ++ post) (pre.length : Int) = some (x.f0, x.f1, x.f2, x.f3, x.f4, ((pre.length + (wordsS x).length : Nat) : Int), 0) := by
 obtain ⟨ho, d0, d1, a0, a1, b0, b1⟩ := okS_parts h
 have hv : target_Valid.f x.f0 x.f1 x.f2 x.f3 x.f4 = some true := by rw [okS_some, h]
 have hw := words_val h
 have hwl : (wordsS x).length = if x.f0 = 3 then 2 else 1 := wordsS_len x
 have hlen : (pre ++ wordsS x ++ post).length = pre.length + (wordsS x).length + post.length := by simp only [List.length_append]
 have h0 : rd (pre ++ wordsS x ++ post) (pre.length : Int) = W0 x := by
  have hj : 0 < (wordsS x).length := by rw [hwl]; split <;> omega
  have := rd_mid pre (wordsS x) post 0 hj
  rw [Nat.add_zero] at this
  rw [this]
  have e : (wordsS x)[0]? = some (W0 x) := by rw [hw]; split <;> rfl
  exact Option.some.inj ((List.getElem?_eq_getElem hj).symm.trans e)
 have hsl : ((pre ++ wordsS x ++ post).take (pre.length + (wordsS x).length)).drop pre.length = wordsS x := by
  rw [List.take_append_of_le_length (by rw [List.length_append]; omega), List.take_of_length_le (by rw [List.length_append]; omega), List.drop_left']
  rfl
 have he : slices_Equal_uint64_uint64.f (k + 8) (wordsS x) (wordsS x) = some true := by
  unfold slices_Equal_uint64_uint64.f
  rw [if_pos rfl]
  exact eqw_refl (wordsS x).length 0 (k + 8) (by omega) (by rw [hwl]; split <;> omega) (by rw [hwl]; split <;> omega)
 have hpos : 1 ≤ (wordsS x).length := by rw [hwl]; split <;> omega
 have hn1 : pre.length + (wordsS x).length ≤ 1000000 := by clear hw h0; omega
 have htw := tgt_wordsS h
 have hj1 : ∀ (x8 : Nat), x8 = (wordsS x).length → target_Decode.j1 (k + 9) (pre ++ wordsS x ++ post) (pre.length : Int) (x8 : Int) x.f0 x.f1 x.f2 x.f3 x.f4 = some (x.f0, x.f1, x.f2, x.f3, x.f4, ((pre.length + (wordsS x).length : Nat) : Int), 0) := by
  rintro x8 rfl
  have hwr : wrap64 ((pre.length : Int) + ((wordsS x).length : Int)) = ((pre.length + (wordsS x).length : Nat) : Int) := wrap_add _ _ hn1
  clear hw hwl h0
  have c1 : (0 : Int) ≤ (pre.length : Int) := by omega
  have c2 : (pre.length : Int) ≤ ((pre.length + (wordsS x).length : Nat) : Int) := by omega
  have c3 : ((pre.length + (wordsS x).length : Nat) : Int) ≤ ((pre ++ wordsS x ++ post).length : Int) := by omega
  have t1 : ((pre.length : Int)).toNat = pre.length := Int.toNat_natCast _
  have t2 : (((pre.length + (wordsS x).length : Nat) : Int)).toNat = pre.length + (wordsS x).length := Int.toNat_natCast _
  clear hlen hl
  generalize pre ++ wordsS x ++ post = L at *
  generalize wordsS x = ws at *
  rw [target_Decode.j1]
  simp only [hv, Option.bind_some, if_true, htw, hwr, c1, c2, c3, t1, t2, hsl, he]
 have nums : ¬ (pre.length : Int) < 0 ∧ ¬ (pre.length : Int) ≥ ((pre ++ wordsS x ++ post).length : Int) ∧ (pre.length : Int) < ((pre ++ wordsS x ++ post).length : Int) ∧ (0 : Int) ≤ (pre.length : Int) ∧ (x.f0 = 3 → ¬ ((pre.length + 1 : Nat) : Int) = ((pre ++ wordsS x ++ post).length : Int) ∧ (0 : Int) ≤ ((pre.length + 1 : Nat) : Int) ∧ ((pre.length + 1 : Nat) : Int) < ((pre ++ wordsS x ++ post).length : Int)) := by
  clear hw h0 htw hsl he hj1
  refine ⟨by omega, by omega, by omega, by omega, fun c => ?_⟩
  rw [if_pos c] at hwl
  refine ⟨by omega, by omega, by omega⟩
 obtain ⟨c0, cL, cL2, cn, c3⟩ := nums
 have q0 : 0 ≤ W0 x ∧ W0 x < 18446744073709551616 := by
  clear hw h0 htw hsl he hj1
  unfold W0; split <;> omega
 have f0 : wrap64 (Go.bits .and .u64 (W0 x) 255) = x.f0 := by
  rw [and255 _ q0.1 q0.2]; clear hw h0 htw hsl he hj1; unfold W0; split <;> omega
 have f1 : wrap64 (Go.bits .and .u64 (W0 x / 256) 15) = x.f1 := by
  clear hw h0 htw hsl he hj1 f0; rw [and15 _ (by omega) (by omega)]; unfold W0; split <;> omega
 have f2 : wrap64 (Go.bits .and .u64 (W0 x / 4096) 15) = x.f2 := by
  clear hw h0 htw hsl he hj1 f0 f1; rw [and15 _ (by omega) (by omega)]; unfold W0; split <;> omega
 have f3 : wrap64 (Go.bits .and .u64 (W0 x / 65536) 15) = x.f3 := by
  clear hw h0 htw hsl he hj1 f0 f1 f2; rw [and15 _ (by omega) (by omega)]; unfold W0; split <;> omega
 by_cases c : x.f0 = 3
 ·have hl2 : (wordsS x).length = 2 := by rw [hwl, if_pos c]
  have hwr : wrap64 ((pre.length : Int) + 1) = ((pre.length + 1 : Nat) : Int) := wrap_succ _ (Nat.le_trans (Nat.le_add_right _ _) hn1)
  have h1 : rd (pre ++ wordsS x ++ post) ((pre.length + 1 : Nat) : Int) = x.f4 % 18446744073709551616 := by
   rw [rd_mid pre (wordsS x) post 1 (by rw [hl2]; decide)]
   have e : (wordsS x)[1]? = some (x.f4 % 18446744073709551616) := by rw [hw, if_pos c]; rfl
   exact Option.some.inj ((List.getElem?_eq_getElem (by rw [hl2]; decide)).symm.trans e)
  have hi2 : wrap64 (x.f4 % 18446744073709551616) = x.f4 := by
   clear f0 f1 f2 f3 hw h0 h1 hwr
   unfold I64 at hi; unfold wrap64; omega
  obtain ⟨d1, d2, d3⟩ := c3 c
  have hj := hj1 2 hl2.symm
  clear hj1 hl hlen hw hwl hsl he htw
  have hj' : target_Decode.j1 (k + 9) (pre ++ wordsS x ++ post) (pre.length : Int) 2 x.f0 x.f1 x.f2 x.f3 x.f4 = some (x.f0, x.f1, x.f2, x.f3, x.f4, ((pre.length + (wordsS x).length : Nat) : Int), 0) := hj
  generalize pre ++ wordsS x ++ post = L at *
  have dL : decide ((pre.length : Int) ≥ (L.length : Int)) = false := decide_eq_false cL
  unfold target_Decode.f
  rw [if_neg c0, dL, target_Decode.j0]
  simp only [Bool.false_eq_true, if_false, cn, cL2, if_true, h0, f0, f1, f2, f3, c, hwr, d1, d2, d3, h1, hi2]
  rw [c] at hj'
  exact hj'
 ·have hl1 : (wordsS x).length = 1 := by rw [hwl, if_neg c]
  have hs := imm_small h hi c
  have hi2 : wrap64 (W0 x) / 4294967296 = x.f4 := by
   clear f0 f1 f2 f3 hw h0 hj1
   unfold W0; rw [if_neg c]; unfold wrap64; omega
  have hj := hj1 1 hl1.symm
  clear hj1 hl hlen hw hwl hsl he htw
  have hj' : target_Decode.j1 (k + 9) (pre ++ wordsS x ++ post) (pre.length : Int) 1 x.f0 x.f1 x.f2 x.f3 x.f4 = some (x.f0, x.f1, x.f2, x.f3, x.f4, ((pre.length + (wordsS x).length : Nat) : Int), 0) := hj
  generalize pre ++ wordsS x ++ post = L at *
  have dL : decide ((pre.length : Int) ≥ (L.length : Int)) = false := decide_eq_false cL
  unfold target_Decode.f
  rw [if_neg c0, dL, target_Decode.j0]
  simp only [Bool.false_eq_true, if_false, cn, cL2, if_true, h0, f0, f1, f2, f3, c, hi2]
  exact hj'
end Go.Proofs.YtlaijeeeblcinaaDoor.A
set_option linter.all false
set_option maxRecDepth 100000
set_option maxHeartbeats 1000000
namespace Go.Proofs.YtlaijeeeblcinaaDoor.A
open Go.RowKit Go.Lib Go.Proofs.YtlaijeeeblcinaaDoorW.PrintWords
theorem same_ne {a b : List Int} (ha : a.length ≤ 10000) (hab : a ≠ b) : ∀ (n i k : Nat), i + n = a.length → i ≤ b.length → a.take i = b.take i → 2 * n + 2 ≤ k → cupellaw20_sameWords.l0 k a b (i : Int) = some false := by
 intro n
 induction n with
 | zero =>
  intro i k h hi ht hk
  obtain ⟨k, rfl⟩ : ∃ z, k = z + 2 := ⟨k - 2, by omega⟩
  rw [cupellaw20_sameWords.l0, if_neg (by omega), cupellaw20_sameWords.j1, if_neg (by decide)]
  have : a.length ≠ b.length := by
   intro e
   rw [List.take_of_length_le (by omega), List.take_of_length_le (by omega)] at ht
   exact hab ht
  congr 1
  rw [beq_eq_false_iff_ne]; omega
 | succ n ih =>
  intro i k h hi ht hk
  obtain ⟨k, rfl⟩ : ∃ z, k = z + 2 := ⟨k - 2, by omega⟩
  rw [cupellaw20_sameWords.l0, if_pos (by omega)]
  by_cases c : i < b.length
  ·rw [decide_eq_true (show (i : Int) < (b.length : Int) by omega), cupellaw20_sameWords.j1, if_pos rfl, if_pos (by omega), if_pos (by omega), if_pos (by omega)]
   have hia : i < a.length := by omega
   have r1 : rd a (i : Int) = a[i] := by unfold rd; rw [Int.toNat_natCast, List.getD_eq_getElem?_getD, List.getElem?_eq_getElem hia]; rfl
   have r2 : rd b (i : Int) = b[i] := by unfold rd; rw [Int.toNat_natCast, List.getD_eq_getElem?_getD, List.getElem?_eq_getElem c]; rfl
   by_cases e : rd a (i : Int) = rd b (i : Int)
   ·rw [if_pos e, wrap_succ i (by omega)]
    refine ih (i + 1) k (by omega) (by omega) ?_ (by omega)
    rw [List.take_succ_eq_append_getElem hia, List.take_succ_eq_append_getElem c, ht, ← r1, ← r2, e]
   ·rw [if_neg e]
  ·rw [decide_eq_false (show ¬ (i : Int) < (b.length : Int) by omega), cupellaw20_sameWords.j1, if_neg (by decide)]
   congr 1
   rw [beq_eq_false_iff_ne]; omega
def code (l : List S26) : List Int := l.flatMap wordsS
theorem code_le (l : List S26) : (code l).length ≤ 2 * l.length := by
 unfold code
 induction l with
 | nil => exact Nat.le_refl _
 | cons x l ih => have := wordsS_le x; simp only [List.flatMap_cons, List.length_append, List.length_cons]; omega
theorem code_split (l : List S26) (i : Nat) (h : i < l.length) : code l = code (l.take i) ++ wordsS l[i] ++ code (l.drop (i + 1)) := by
 unfold code
 conv => lhs; rw [← List.take_append_drop i l, List.drop_eq_getElem_cons h]
 rw [List.flatMap_append, List.flatMap_cons, List.append_assoc]
theorem code_next (l : List S26) (i : Nat) (h : i < l.length) : code (l.take (i + 1)) = code (l.take i) ++ wordsS l[i] := by
 unfold code
 rw [List.take_succ_eq_append_getElem h, List.flatMap_append]
 simp
structure Fit (l : List S26) : Prop where
 ok : ∀ x ∈ l, okS x = true
 imm : ∀ x ∈ l, I64 x.f4
 len : l.length ≤ 100
theorem dec_at {l : List S26} (h : Fit l) (i : Nat) (hi : i < l.length) (k : Nat) : target_Decode.f (k + 10) (code l) ((code (l.take i)).length : Int) = some (l[i].f0, l[i].f1, l[i].f2, l[i].f3, l[i].f4, ((code (l.take (i + 1))).length : Int), 0) := by
 have hm := List.getElem_mem hi
 have hc := code_le l
 have hl := h.len
 have hs := code_split l i hi
 rw [code_next l i hi, List.length_append]
 rw [hs] at hc ⊢
 exact dec_enc (h.ok _ hm) (h.imm _ hm) _ _ (by omega) k
theorem items_enc {l : List S26} (h : Fit l) : ∀ (m i k : Nat), i + m = l.length → m + 12 ≤ k → itemsF k (code l) ((code (l.take i)).length : Int) = some ((l.drop i).map toI) := by
 intro m
 induction m with
 | zero =>
  intro i k hm hk
  obtain ⟨k, rfl⟩ : ∃ z, k = z + 1 := ⟨k - 1, by omega⟩
  rw [itemsF, List.take_of_length_le (by omega), if_neg (by omega), List.drop_of_length_le (by omega)]; rfl
 | succ m ih =>
  intro i k hm hk
  obtain ⟨k, rfl⟩ : ∃ z, k = z + 11 := ⟨k - 11, by omega⟩
  have hi : i < l.length := by omega
  have hs := congrArg List.length (code_split l i hi)
  simp only [List.length_append] at hs
  have hp : 1 ≤ (wordsS l[i]).length := by rw [wordsS_len]; split <;> omega
  rw [itemsF, if_pos (by omega), dec_at h i hi k, Option.bind_some, if_pos rfl]
  dsimp only
  rw [ih (i + 1) (k + 10) (by omega) (by omega), Option.bind_some, List.drop_eq_getElem_cons hi, List.map_cons]
  rfl
theorem check_enc {l : List S26} (h : Fit l) (data : List Int) (hd : data.length ≤ 20000) (k : Nat) (hk : 200 ≤ k) : target_Check.f k (code l) data ((code l).length : Int) = some 0 := by
 have hc := code_le l
 have hl := h.len
 unfold target_Check.f target_Check.l
 rw [if_neg (by omega), if_neg (by omega), if_neg (by omega), if_neg (by omega)]
 have := items_enc h l.length 0 k (by omega) (by omega)
 rw [List.take_zero, List.drop_zero] at this
 have e : (((code []).length : Nat) : Int) = 0 := rfl
 rw [e] at this
 rw [this, Option.bind_some]
 have hn : (l.map toI).find? (fun x => x.2.2.2.2.2 != 0) = none := by
  refine List.find?_eq_none.2 fun x hx => ?_
  obtain ⟨y, _, rfl⟩ := List.mem_map.1 hx
  simp [toI]
 rw [hn]
theorem enc_inj {x y : S26} (hx : okS x = true) (ix : I64 x.f4) (hy : okS y = true) (iy : I64 y.f4) (h : wordsS x = wordsS y) : x = y := by
 have lx := wordsS_le x
 have ly := wordsS_le y
 have d1 := dec_enc hx ix [] [] (by simp; omega) 0
 have d2 := dec_enc hy iy [] [] (by simp; omega) 0
 rw [h] at d1
 have e := Option.some.inj (d1.symm.trans d2)
 simp only [Prod.mk.injEq] at e
 obtain ⟨e0, e1, e2, e3, e4, _⟩ := e
 cases x; cases y
 dsimp only at e0 e1 e2 e3 e4
 subst e0 e1 e2 e3 e4
 rfl
theorem enc_one {x : S26} (h : okS x = true) (k : Nat) (hk : 700 ≤ k) : target_Encode.f k [x] = some (wordsS x, 0) := by
 rw [enc_target [x] (by simp) k hk, encP_eq]
 have := wordsS_le x
 simp only [List.all_cons, List.all_nil, h, Bool.and_true, if_true, List.flatMap_cons, List.flatMap_nil, List.append_nil, fin]
 rw [if_neg (by omega)]
theorem enc_bad {x : S26} (h : ¬ okS x = true) (k : Nat) (hk : 700 ≤ k) : target_Encode.f k [x] = some ([], 2) := by
 rw [enc_target [x] (by simp) k hk, encP_eq]
 simp only [List.all_cons, List.all_nil, Bool.and_true]
 rw [if_neg h]
def eqS (x y : S26) : Bool := x.f0 == y.f0 && (x.f1 == y.f1 && (x.f2 == y.f2 && (x.f3 == y.f3 && (x.f4 == y.f4))))
theorem eqS_iff (x y : S26) : eqS x y = true ↔ x = y := by
 unfold eqS
 simp only [Bool.and_eq_true, beq_iff_eq]
 constructor
 ·rintro ⟨a, b, c, d, e⟩
  cases x; cases y
  dsimp only at a b c d e
  subst a b c d e; rfl
 ·rintro rfl; exact ⟨rfl, rfl, rfl, rfl, rfl⟩
theorem slice_mid (pre w post : List Int) : ((pre ++ w ++ post).take (pre.length + w.length)).drop pre.length = w := by
 rw [List.take_append_of_le_length (by rw [List.length_append]; omega), List.take_of_length_le (by rw [List.length_append]; omega), List.drop_left']
 rfl
theorem back_end {l : List S26} (h : Fit l) (k : Nat) (hk : 60000 ≤ k) (x : S26) : cupellaw20_TargetBack.l0 (k + 1) l (code l) ((code l).length : Int) (l.length : Int) x.f0 x.f1 x.f2 x.f3 x.f4 = some true := by
 have A := awake_ge k (by omega)
 have hv : ∀ v ∈ [(-1 : Int), 4611686018427387904], I64 v := by
  intro v hm
  simp only [List.mem_cons, List.not_mem_nil, or_false] at hm
  unfold I64
  omega
 have hc := code_le l
 have hl := h.len
 have hch := check_enc h [-1, 4611686018427387904] (by simp) k (by omega)
 obtain ⟨xs, hx, hok, hp, _⟩ := print_good hch hv (by omega) 50000 (Nat.le_refl _)
 have hts := text_size hch hv hx hok
 have hb := parse_text hch hv hx hok (by simp only [List.length_cons, List.length_nil] at hts; omega) k (by omega)
 rw [cupellaw20_TargetBack.l0, if_neg (by omega), Option.bind_some, hp, Option.bind_some]
 dsimp only
 unfold et_Parse.f
 rw [hb, Option.bind_some]
 dsimp only
 rw [if_pos rfl, if_pos rfl, if_pos rfl, sameC _ _ _ (by omega) (by simp) k (by omega), Option.bind_some, if_pos rfl, A]
 rfl
theorem back_l0 {l : List S26} (h : Fit l) (x : S26) (ix : I64 x.f4) : ∀ (m i k : Nat), i + m = l.length → 60001 + 3 * m ≤ k → cupellaw20_TargetBack.l0 k l (code l) ((code (l.take i)).length : Int) (i : Int) x.f0 x.f1 x.f2 x.f3 x.f4 = some true := by
 intro m
 induction m with
 | zero =>
  intro i k hm hk
  obtain ⟨k, rfl⟩ : ∃ z, k = z + 1 := ⟨k - 1, by omega⟩
  obtain rfl : i = l.length := by omega
  rw [List.take_length]
  exact back_end h k (by omega) x
 | succ m ih =>
  intro i k hm hk
  obtain ⟨k, rfl⟩ : ∃ z, k = z + 3 := ⟨k - 3, by omega⟩
  have hi : i < l.length := by omega
  have hmem := List.getElem_mem hi
  have hok := h.ok _ hmem
  have hl := h.len
  have hcl := code_le l
  have hs := code_split l i hi
  have hsl := congrArg List.length hs
  simp only [List.length_append] at hsl
  have hnx := congrArg List.length (code_next l i hi)
  rw [List.length_append] at hnx
  have hp : 1 ≤ (wordsS l[i]).length := by rw [wordsS_len]; split <;> omega
  have hd := dec_at h i hi (k - 8)
  rw [show k - 8 + 10 = k + 2 by omega] at hd
  have hdE : et_Decode.f (k + 2) (code l) ((code (l.take i)).length : Int) = some (l[i].f0, l[i].f1, l[i].f2, l[i].f3, l[i].f4, ((code (l.take (i + 1))).length : Int), 0) := hd
  have hrd := rdS l i hi
  have hslice : ((code l).take (code (l.take (i + 1))).length).drop (code (l.take i)).length = wordsS l[i] := by
   have := slice_mid (code (l.take i)) (wordsS l[i]) (code (l.drop (i + 1)))
   rw [← hs, ← hnx] at this
   exact this
  have hrec := ih (i + 1) k (by omega) (by omega)
  have n1 : (i : Int) < (l.length : Int) := by omega
  have n2 : (0 : Int) ≤ (i : Int) := by omega
  have n3 : ¬ ((code (l.take (i + 1))).length : Int) ≤ ((code (l.take i)).length : Int) := by omega
  have n4 : decide (((code (l.take (i + 1))).length : Int) > ((code l).length : Int)) = false := decide_eq_false (by omega)
  have n5 : (0 : Int) ≤ ((code (l.take i)).length : Int) := by omega
  have n6 : ((code (l.take i)).length : Int) ≤ ((code (l.take (i + 1))).length : Int) := by omega
  have n7 : ((code (l.take (i + 1))).length : Int) ≤ ((code l).length : Int) := by omega
  have hE := enc_one hok (k + 1) (by omega)
  have hwl := wordsS_le l[i]
  have hsame := same_f (wordsS l[i]) (by omega) (k + 1) (by omega)
  have hw1 : wrap64 ((i : Int) + 1) = ((i + 1 : Nat) : Int) := wrap_succ i (by omega)
  have hj2 : cupellaw20_TargetBack.j2 (k + 1) l (code l) (i : Int) ((code (l.take (i + 1))).length : Int) (wordsS l[i]) false x.f0 x.f1 x.f2 x.f3 x.f4 l[i].f0 l[i].f1 l[i].f2 l[i].f3 l[i].f4 = some true := by
   rw [cupellaw20_TargetBack.j2, if_neg (by decide)]
   have hxx : ([(⟨x.f0, x.f1, x.f2, x.f3, x.f4⟩ : S26)] : List S26) = [x] := rfl
   rw [hxx]
   by_cases hx : okS x = true
   ·rw [enc_one hx k (by omega), Option.bind_some]
    dsimp only
    rw [if_pos rfl]
    have hxl := wordsS_le x
    by_cases e : x = l[i]
    ·have hq : (x.f0 == l[i].f0 && (x.f1 == l[i].f1 && (x.f2 == l[i].f2 && (x.f3 == l[i].f3 && (x.f4 == l[i].f4))))) = true := (eqS_iff x l[i]).2 e
     have hsm : cupellaw20_sameWords.f k (wordsS l[i]) (wordsS x) = some true := by rw [e]; exact same_f _ (by omega) k (by omega)
     rw [hsm, Option.bind_some, hq, if_neg (by decide), hw1]
     exact hrec
    ·have hq : (x.f0 == l[i].f0 && (x.f1 == l[i].f1 && (x.f2 == l[i].f2 && (x.f3 == l[i].f3 && (x.f4 == l[i].f4))))) = false := by
      cases hb : eqS x l[i] with
      | true => exact absurd ((eqS_iff x l[i]).1 hb) e
      | false => exact hb
     have hsm : cupellaw20_sameWords.f k (wordsS l[i]) (wordsS x) = some false :=
      same_ne (by omega) (fun e2 => e (enc_inj hx ix hok (h.imm _ hmem) e2.symm)) (wordsS l[i]).length 0 k (by omega) (Nat.zero_le _) rfl (by omega)
     rw [hsm, Option.bind_some, hq, if_neg (by decide), hw1]
     exact hrec
   ·rw [enc_bad hx k (by omega), Option.bind_some]
    dsimp only
    rw [if_neg (by decide), hw1]
    exact hrec
  have hj1 : cupellaw20_TargetBack.j1 (k + 2) l (code l) ((code (l.take i)).length : Int) (i : Int) ((code (l.take (i + 1))).length : Int) false x.f0 x.f1 x.f2 x.f3 x.f4 l[i].f0 l[i].f1 l[i].f2 l[i].f3 l[i].f4 = some true := by
   rw [cupellaw20_TargetBack.j1, if_neg (by decide)]
   have hxx : ([(⟨l[i].f0, l[i].f1, l[i].f2, l[i].f3, l[i].f4⟩ : S26)] : List S26) = [l[i]] := rfl
   rw [hxx, hE, Option.bind_some]
   dsimp only
   rw [if_pos rfl, if_pos n5, if_pos n6, if_pos n7, Int.toNat_natCast, Int.toNat_natCast, hslice, hsame, Option.bind_some]
   exact hj2
  rw [cupellaw20_TargetBack.l0, if_pos n1, hdE, Option.bind_some]
  dsimp only
  rw [if_pos rfl, if_pos n2, hrd]
  simp only [beq_self_eq_true, Bool.not_true, Bool.or_self, Bool.false_eq_true, if_false]
  rw [if_neg n3, n4]
  exact hj1
theorem back_k (l : List S26) (x : S26) (hl : ∀ y ∈ l, I64 y.f4) (ix : I64 x.f4) (k : Nat) (hk : 61000 ≤ k) : cupellaw20_TargetBack.f k l x.f0 x.f1 x.f2 x.f3 x.f4 = some true := by
 have A := awake_ge k (by omega)
 unfold cupellaw20_TargetBack.f
 by_cases c : (l.length : Int) > 100
 ·rw [if_pos c, A]; rfl
 rw [if_neg c, enc_target l (by omega) k (by omega), Option.bind_some, encP_eq]
 by_cases ho : l.all okS = true
 ·have hf : Fit l := ⟨fun y hy => List.all_eq_true.1 ho y hy, hl, by omega⟩
  have hc := code_le l
  have e : fin (l.flatMap wordsS) = (code l, 0) := by
   show fin (code l) = _
   unfold fin
   rw [if_neg (show ¬ 20000 < (code l).length by omega)]
  rw [if_pos ho, e]
  dsimp only
  rw [if_pos rfl]
  have := back_l0 hf x ix l.length 0 k (by omega) (by omega)
  exact this
 ·rw [if_neg ho]
  dsimp only
  rw [if_neg (by decide), if_pos (by simp), A]; rfl
end Go.Proofs.YtlaijeeeblcinaaDoor.A

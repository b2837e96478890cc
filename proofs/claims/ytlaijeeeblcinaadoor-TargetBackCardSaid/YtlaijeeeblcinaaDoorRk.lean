/- The reference's Valid, words, Decode, Check answer as target's. -/
import Derived.Test.YtlaijeeeblcinaaDoorTot
import Derived.Test.YtlaijeeeblcinaaDoorAx4
set_option linter.all false
set_option linter.unusedVariables false
set_option maxRecDepth 100000
namespace Go.Proofs.YtlaijeeeblcinaaDoor.A
open Go Go.RowKit Go.Proofs.YtlaijeeeblcinaaDoorW.PrintWords
theorem reg_eq (u : Bool) (r : Int) : cupelref20_register.f u r = some (regOk u r) := by
 unfold cupelref20_register.f regOk
 cases u
 ·by_cases h : r = 0
  ·subst h; rfl
  ·simp [h]
 ·by_cases h : r = 0
  ·subst h; rfl
  ·by_cases h2 : r > 0
   ·simp [h, h2, show r ≥ 0 by omega]
   ·simp [h, h2, show ¬ r ≥ 0 by omega]
theorem imm_eq (a v : Int) : cupelref20_immediate.f a v = target_fits.f a v := by
 unfold cupelref20_immediate.f target_fits.f
 by_cases h0 : a = 0
 ·simp [h0]
 ·by_cases h1 : a = 1
  ·subst h1
   simp only [if_neg (show ¬ (1 : Int) = 0 by decide), if_true]
   by_cases h2 : v ≥ -2147483648
   ·rw [if_pos h2]
    by_cases h3 : v < 2147483648
    ·have : wrap64 (wrap32 v) = v := by unfold wrap64 wrap32; omega
     simp [h3, this]
    ·have : v ≠ wrap64 (wrap32 v) := by unfold wrap64 wrap32; omega
     simp [h3, this]
   ·rw [if_neg h2]
    have : v ≠ wrap64 (wrap32 v) := by unfold wrap64 wrap32; omega
    simp [this]
  ·simp [h0, h1]
theorem valid_eq (a b c d i : Int) : cupelref20_Valid.f a b c d i = target_Valid.f a b c d i := by
 unfold cupelref20_Valid.f target_Valid.f
 obtain ⟨t, ht, _⟩ := find_total a
 rw [ht, Option.bind_some, Option.bind_some]
 simp only [reg_eq, imm_eq, Option.bind_some]
 cases h0 : t.2.2.2.2.2.2
 ·simp
 ·simp only [if_true, Bool.true_eq_false, if_false]
  cases h1 : regOk t.2.2.1 b
  ·simp
  ·cases h2 : regOk t.2.2.2.1 c
   ·simp
   ·cases h3 : regOk t.2.2.2.2.1 d
    ·simp
    ·simp only [if_true, Bool.true_eq_false, if_false]
     cases target_fits.f t.2.2.2.2.2.1 i <;> rfl
theorem u64_id {x : Int} (h0 : 0 ≤ x) (h1 : x < 18446744073709551616) : IntKind.u64.wrap x = x := by
 simp only [IntKind.wrap, IntKind.bits, IntKind.signed]
 simp
 omega
theorem u64_val (x : Int) : IntKind.u64.wrap x = x % 18446744073709551616 := by
 simp only [IntKind.wrap, IntKind.bits, IntKind.signed]
 simp
theorem or_u64 (k : Nat) (a b : Int) (h0 : 0 ≤ a) (h1 : a < 2 ^ k) (g0 : 0 ≤ b) (g1 : b < 18446744073709551616) (gd : (2 ^ k : Int) ∣ b) (hk : k ≤ 64) : bits .or .u64 a b = a + b ∧ a + b < 18446744073709551616 := by
 obtain ⟨x, rfl⟩ := Int.eq_ofNat_of_zero_le h0
 obtain ⟨y, rfl⟩ := Int.eq_ofNat_of_zero_le g0
 obtain ⟨q, hq⟩ := gd
 have hx : x < 2 ^ k := by exact_mod_cast h1
 have hp : (2 : Nat) ^ k ≤ 2 ^ 64 := Nat.pow_le_pow_right (by decide) hk
 have hq0 : 0 ≤ q := by
  rcases Int.lt_or_le q 0 with h | h
  ·have : (2 ^ k : Int) * q < 0 := Int.mul_neg_of_pos_of_neg (Int.pow_pos (by decide)) h
   omega
  ·exact h
 obtain ⟨z, rfl⟩ := Int.eq_ofNat_of_zero_le hq0
 have hy : y = 2 ^ k * z := by exact_mod_cast hq
 have hor : x ||| y = x + y := by
  rw [Nat.or_comm, hy, ← Nat.two_pow_add_eq_or_of_lt hx z, Nat.add_comm]
 have hx64 : x < 2 ^ 64 := Nat.lt_of_lt_of_le hx hp
 have hy64 : y < 2 ^ 64 := by have : (2 : Nat) ^ 64 = 18446744073709551616 := rfl; omega
 have hlt : x + y < 2 ^ 64 := by rw [← hor]; exact Nat.or_lt_two_pow hx64 hy64
 have e : (2 : Nat) ^ 64 = 18446744073709551616 := rfl
 refine ⟨?_, by omega⟩
 show IntKind.u64.wrap (((BitVec.ofInt 64 (x : Int) ||| BitVec.ofInt 64 (y : Int) : BitVec 64).toNat : Nat) : Int) = _
 have ex : (BitVec.ofInt 64 (x : Int)).toNat = x := by rw [BitVec.ofInt_natCast, BitVec.toNat_ofNat]; exact Nat.mod_eq_of_lt hx64
 have ey : (BitVec.ofInt 64 (y : Int)).toNat = y := by rw [BitVec.ofInt_natCast, BitVec.toNat_ofNat]; exact Nat.mod_eq_of_lt hy64
 rw [BitVec.toNat_or, ex, ey, hor, u64_id (by omega) (by omega)]
 omega
theorem words_eq (op d a b i : Int) (h1 : 0 ≤ op ∧ op < 256) (h2 : 0 ≤ d ∧ d < 10) (h3 : 0 ≤ a ∧ a < 10) (h4 : 0 ≤ b ∧ b < 10) : target_words.f ([] : List Int) op d a b i = cupelref20_words.f op d a b i := by
 have e1 : IntKind.u64.wrap op = op := u64_id h1.1 (by omega)
 have e2 : IntKind.u64.wrap ((IntKind.u64.wrap d) * 256) = d * 256 := by rw [u64_id (x := d) h2.1 (by omega), u64_id (by omega) (by omega)]
 have e3 : IntKind.u64.wrap ((IntKind.u64.wrap a) * 4096) = a * 4096 := by rw [u64_id (x := a) h3.1 (by omega), u64_id (by omega) (by omega)]
 have e4 : IntKind.u64.wrap ((IntKind.u64.wrap b) * 65536) = b * 65536 := by rw [u64_id (x := b) h4.1 (by omega), u64_id (by omega) (by omega)]
 have o1 := or_u64 8 op (d * 256) h1.1 (by omega) (by omega) (by omega) ⟨d, by omega⟩ (by omega)
 have o2 := or_u64 12 (op + d * 256) (a * 4096) (by omega) (by omega) (by omega) (by omega) ⟨a, by omega⟩ (by omega)
 have o3 := or_u64 16 (op + d * 256 + a * 4096) (b * 65536) (by omega) (by omega) (by omega) (by omega) ⟨b, by omega⟩ (by omega)
 have w1 : IntKind.u64.wrap (op + d * 256) = op + d * 256 := u64_id (by omega) (by omega)
 have w2 : IntKind.u64.wrap (op + d * 256 + a * 4096) = op + d * 256 + a * 4096 := u64_id (by omega) (by omega)
 have w3 : IntKind.u64.wrap (op + d * 256 + a * 4096 + b * 65536) = op + d * 256 + a * 4096 + b * 65536 := u64_id (by omega) (by omega)
 unfold target_words.f cupelref20_words.f
 rw [e1, e2, e3, e4, o1.1, o2.1, o3.1, w1, w2, w3]
 by_cases c : op = 3
 ·rw [if_pos c, if_pos c]
  rfl
 ·rw [if_neg c, if_neg c]
  obtain ⟨q, hq0, hq1⟩ : ∃ q, IntKind.u64.wrap ((IntKind.u64.wrap i) * 4294967296) = q * 4294967296 ∧ 0 ≤ q ∧ q < 4294967296 := by
   rw [u64_val, u64_val]
   exact ⟨i % 4294967296, by omega, by omega, by omega⟩
  have o4 := or_u64 32 (op + d * 256 + a * 4096 + b * 65536) (q * 4294967296) (by omega) (by omega) (by omega) (by omega) ⟨q, by omega⟩ (by omega)
  rw [hq0, o4.1, u64_id (x := op + d * 256 + a * 4096 + b * 65536 + q * 4294967296) (by omega) o4.2]
  rfl
theorem rd_slice (l : List Int) (a n j : Nat) (h : a + n ≤ l.length) (hj : j < n) : rd ((l.take (a + n)).drop a) (j : Int) = rd l ((a + j : Nat) : Int) := by
 unfold rd
 rw [Int.toNat_natCast, Int.toNat_natCast, List.getD_eq_getElem?_getD, List.getD_eq_getElem?_getD, List.getElem?_drop, List.getElem?_take, if_pos (by omega)]
theorem l0_succ (k : Nat) (x0 : List Int) (x1 x5 : Int) (x8 : List Int) (x9 x158000 x158001 x158002 x158003 x158004 : Int) : cupelref20_Decode.l0 (k + 1) x0 x1 x5 x8 x9 x158000 x158001 x158002 x158003 x158004 = if x9 < (x8.length : Int) then (if 0 ≤ x9 then (if 0 ≤ (wrap64 (x1 + x9)) then (if (wrap64 (x1 + x9)) < (x0.length : Int) then (if (rd x8 x9) = (rd x0 (wrap64 (x1 + x9))) then (cupelref20_Decode.l0 k x0 x1 x5 x8 (wrap64 (x9 + 1)) x158000 x158001 x158002 x158003 x158004) else (some (0, 0, 0, 0, 0, 0, 6))) else (none)) else (none)) else (none)) else (some (x158000, x158001, x158002, x158003, x158004, x5, 0)) := rfl
theorem wrap_add (A j : Nat) (h : A + j ≤ 1000000) : wrap64 ((A : Int) + (j : Int)) = ((A + j : Nat) : Int) := by rw [wrap_id (by omega) (by omega)]; omega
theorem wrap_succ (j : Nat) (h : j ≤ 1000000) : wrap64 ((j : Int) + 1) = ((j + 1 : Nat) : Int) := by rw [wrap_id (by omega) (by omega)]; omega
theorem loop_eq (l : List Int) (hl : l.length ≤ 20000) (A n : Nat) (hA : A + n ≤ l.length) (ws : List Int) (hw : ws.length = n) (hn : n ≤ 2) (nx op d x b i : Int) : ∀ (m j k1 k2 : Nat), j + m = n → m < k1 → m < k2 →
  cupelref20_Decode.l0 k1 l (A : Int) nx ws (j : Int) op d x b i = (slices_Equal_uint64_uint64.l0 k2 ws ((l.take (A + n)).drop A) (n : Int) (j : Int)).bind (fun q => if q = true then some (op, d, x, b, i, nx, 0) else some (0, 0, 0, 0, 0, 0, 6)) := by
 have hsl : ((l.take (A + n)).drop A).length = n := by simp; omega
 intro m
 induction m with
 | zero =>
  intro j k1 k2 hj h1 h2
  obtain ⟨k1, rfl⟩ : ∃ q, k1 = q + 1 := ⟨k1 - 1, by omega⟩
  obtain ⟨k2, rfl⟩ : ∃ q, k2 = q + 1 := ⟨k2 - 1, by omega⟩
  rw [l0_succ, if_neg (by omega)]
  unfold slices_Equal_uint64_uint64.l0
  rw [if_neg (by omega), Option.bind_some, if_pos rfl]
 | succ m ih =>
  intro j k1 k2 hj h1 h2
  obtain ⟨k1, rfl⟩ : ∃ q, k1 = q + 1 := ⟨k1 - 1, by omega⟩
  obtain ⟨k2, rfl⟩ : ∃ q, k2 = q + 1 := ⟨k2 - 1, by omega⟩
  have n3 : m < k2 := by omega
  have n1 : j + 1 + m = n := by omega
  have n2 : m < k1 := by omega
  have h7 : A + j ≤ 1000000 := by omega
  have h8 : j ≤ 1000000 := by omega
  have h9 : j < n := by omega
  have c1 : (j : Int) < (ws.length : Int) := by omega
  have c2 : (0 : Int) ≤ (j : Int) := by omega
  have c3 : (0 : Int) ≤ ((A + j : Nat) : Int) := by omega
  have c4 : ((A + j : Nat) : Int) < (l.length : Int) := by omega
  have c5 : (j : Int) < (n : Int) := by omega
  have c6 : (j : Int) < (((l.take (A + n)).drop A).length : Int) := by omega
  have e3 := rd_slice l A n j hA h9
  have e1 := wrap_add A j h7
  have e2 := wrap_succ j h8
  have hL : cupelref20_Decode.l0 (k1 + 1) l (A : Int) nx ws (j : Int) op d x b i = if rd ws (j : Int) = rd l ((A + j : Nat) : Int) then cupelref20_Decode.l0 k1 l (A : Int) nx ws ((j + 1 : Nat) : Int) op d x b i else some (0, 0, 0, 0, 0, 0, 6) := by
   simp only [l0_succ, c1, c2, e1, c3, c4, e2, if_true]
  have hR : slices_Equal_uint64_uint64.l0 (k2 + 1) ws ((l.take (A + n)).drop A) (n : Int) (j : Int) = if rd ws (j : Int) = rd l ((A + j : Nat) : Int) then slices_Equal_uint64_uint64.l0 k2 ws ((l.take (A + n)).drop A) (n : Int) ((j + 1 : Nat) : Int) else some false := by
   rw [slices_Equal_uint64_uint64.l0]
   simp only [c1, c2, c5, c6, e3, e2, if_true]
  rw [hL, hR]
  by_cases c : rd ws (j : Int) = rd l ((A + j : Nat) : Int)
  ·simp only [c, if_true]
   exact ih (j + 1) k1 k2 n1 n2 n3
  ·simp only [c, if_false, Option.bind_some]
   rfl
theorem words_some (op d x b i : Int) : ∃ ws, cupelref20_words.f op d x b i = some ws ∧ ws.length = if op = 3 then 2 else 1 := by
 by_cases c3 : op = 3
 ·obtain ⟨y, z, h⟩ : ∃ y z, cupelref20_words.f op d x b i = some [y, z] := ⟨_, _, by unfold cupelref20_words.f; exact if_pos c3⟩
  exact ⟨[y, z], h, by rw [if_pos c3]; simp only [List.length_cons, List.length_nil]⟩
 ·obtain ⟨y, h⟩ : ∃ y, cupelref20_words.f op d x b i = some [y] := ⟨_, by unfold cupelref20_words.f; exact if_neg c3⟩
  exact ⟨[y], h, by rw [if_neg c3]; simp only [List.length_cons, List.length_nil]⟩
theorem same_eq (l : List Int) (hl : l.length ≤ 20000) (A n : Nat) (hA : A + n ≤ l.length) (ws : List Int) (hw : ws.length = n) (hn : n ≤ 2) (nx op d x b i : Int) (k1 k2 : Nat) (h1 : 2 < k1) (h2 : 2 < k2) :
  cupelref20_Decode.l0 k1 l (A : Int) nx ws 0 op d x b i = (slices_Equal_uint64_uint64.f k2 ws ((l.take (A + n)).drop A)).bind (fun q => if q = true then some (op, d, x, b, i, nx, 0) else some (0, 0, 0, 0, 0, 0, 6)) := by
 have hsl : ((l.take (A + n)).drop A).length = n := by simp; omega
 unfold slices_Equal_uint64_uint64.f
 rw [if_pos (by omega), hw]
 exact loop_eq l hl A n hA ws hw hn nx op d x b i n 0 k1 k2 (by omega) (by omega) (by omega)
theorem tail_eq (k k' : Nat) (l : List Int) (hl : l.length ≤ 20000) (A n : Nat) (op d x b i : Int) (hop : 0 ≤ op ∧ op < 256) (hn : n = if op = 3 then 2 else 1) (hA : A + n ≤ l.length) :
  cupelref20_Decode.j2 (k + 10) l (A : Int) ((A + n : Nat) : Int) op d x b i = target_Decode.j1 (k' + 10) l (A : Int) (n : Int) op d x b i := by
 have hn2 : n ≤ 2 := by rw [hn]; split <;> omega
 have q1 : (0 : Int) ≤ (A : Int) := by omega
 have q2 : (A : Int) ≤ ((A + n : Nat) : Int) := by omega
 have q3 : ((A + n : Nat) : Int) ≤ (l.length : Int) := by omega
 have e1 := wrap_add A n (by omega)
 obtain ⟨ws, hw, hwl⟩ := words_some op d x b i
 have hwn : ws.length = n := hwl.trans hn.symm
 obtain ⟨r, hr, hp⟩ := valid_total op d x b i
 rw [cupelref20_Decode.j2, target_Decode.j1, valid_eq, hr]
 simp only [Option.bind_some]
 by_cases c : r = true
 ·obtain ⟨_, p1, p2, p3, p4, p5, p6⟩ := hp c
  rw [if_pos c, if_pos c, words_eq op d x b i hop ⟨p1, p2⟩ ⟨p3, p4⟩ ⟨p5, p6⟩, hw]
  simp only [Option.bind_some, q1, e1, q2, q3, if_true]
  have h9 := same_eq l hl A n hA ws hwn hn2 ((A + n : Nat) : Int) op d x b i (k + 9) (k' + 9) (Nat.le_add_left 3 (k + 6)) (Nat.le_add_left 3 (k' + 6))
  simp only [Int.toNat_natCast]
  exact h9
 ·rw [if_neg c, if_neg c]
theorem dec_eq (k k' : Nat) (l : List Int) (hl : l.length ≤ 20000) (a : Int) (hb : ∀ y, 0 ≤ wrap64 (Go.bits .and .u64 y 255) ∧ wrap64 (Go.bits .and .u64 y 255) < 256) : cupelref20_Decode.f (k + 20) l a = target_Decode.f (k' + 21) l a := by
 unfold cupelref20_Decode.f target_Decode.f
 by_cases c : a < 0
 ·rw [if_pos c, if_pos c, cupelref20_Decode.j0, target_Decode.j0, if_pos rfl, if_pos rfl]
 ·rw [if_neg c, if_neg c, cupelref20_Decode.j0, target_Decode.j0]
  by_cases c2 : a ≥ (l.length : Int)
  ·rw [if_pos (decide_eq_true c2), if_pos (decide_eq_true c2)]
  ·have hd : ¬ (decide (a ≥ (l.length : Int)) = true) := by simpa using c2
   have hA0 : 0 ≤ a := by omega
   have hA1 : a < (l.length : Int) := by omega
   simp only [if_neg hd, hA0, hA1, if_true]
   obtain ⟨A, rfl⟩ : ∃ A : Nat, a = A := ⟨a.toNat, by omega⟩
   have e1 := wrap_succ A (by omega)
   rw [e1]
   clear e1
   have hop := hb (rd l (A : Int))
   generalize wrap64 (Go.bits .and .u64 (rd l (A : Int)) 255) = op at *
   by_cases c3 : op = 3
   ·rw [if_pos c3, if_pos c3, cupelref20_Decode.j1]
    by_cases c4 : ((A + 1 : Nat) : Int) = (l.length : Int)
    ·have c5 : ¬ (decide (((A + 1 : Nat) : Int) < (l.length : Int)) = true) := by simp; omega
     rw [if_neg c5, if_pos c3, if_pos c4]
    ·have c5 : decide (((A + 1 : Nat) : Int) < (l.length : Int)) = true := by simp; omega
     have c6 : (0 : Int) ≤ ((A + 1 : Nat) : Int) := by omega
     have c7 : ((A + 1 : Nat) : Int) < (l.length : Int) := by omega
     have e2 := wrap_succ (A + 1) (by omega)
     simp only [c5, c6, c7, c4, e2, if_true, if_false]
     exact tail_eq (k + 8) (k' + 10) l hl A 2 _ _ _ _ _ hop (by rw [if_pos c3]) (by omega)
   ·rw [if_neg c3, if_neg c3, cupelref20_Decode.j1, if_neg (by simp), if_neg c3]
    exact tail_eq (k + 8) (k' + 10) l hl A 1 _ _ _ _ _ hop (by rw [if_neg c3]) (by omega)
theorem and_small (y : Int) (m : Nat) (hm : m < 256) : 0 ≤ wrap64 (Go.bits .and .u64 y (m : Int)) ∧ wrap64 (Go.bits .and .u64 y (m : Int)) < 256 := by
 obtain ⟨q, hq, hl⟩ : ∃ q : Nat, Go.bits .and .u64 y (m : Int) = (q : Int) ∧ q < 256 := by
  refine ⟨((BitVec.ofInt 64 y &&& BitVec.ofInt 64 (m : Int) : BitVec 64).toNat), ?_, ?_⟩
  ·have h1 : (BitVec.ofInt 64 y &&& BitVec.ofInt 64 (m : Int) : BitVec 64).toNat < 2 ^ 64 := BitVec.isLt _
   have e : (2 : Nat) ^ 64 = 18446744073709551616 := rfl
   show IntKind.u64.wrap (((BitVec.ofInt 64 y &&& BitVec.ofInt 64 (m : Int) : BitVec 64).toNat : Nat) : Int) = _
   exact u64_id (by omega) (by omega)
  ·rw [BitVec.toNat_and]
   have h2 : (BitVec.ofInt 64 (m : Int)).toNat = m := by rw [BitVec.ofInt_natCast, BitVec.toNat_ofNat]; exact Nat.mod_eq_of_lt (Nat.lt_trans hm (by decide))
   rw [h2]
   exact Nat.lt_of_le_of_lt Nat.and_le_right hm
 rw [hq, wrap_id (by omega) (by omega)]
 omega
theorem decode_ref (k k' : Nat) (l : List Int) (hl : l.length ≤ 20000) (a : Int) : cupelref20_Decode.f (k + 20) l a = target_Decode.f (k' + 21) l a := dec_eq k k' l hl a (fun y => and_small y 255 (by decide))
/-- a decoding within the code is of a kind of its own where it fails -/
theorem dec_err (k : Nat) (l : List Int) (hl : l.length ≤ 20000) (a : Int) (h0 : 0 ≤ a) (h1 : a < (l.length : Int)) (t : Int × Int × Int × Int × Int × Int × Int) (h : target_Decode.f (k + 21) l a = some t) : t.2.2.2.2.2.2 = 0 ∨ t.2.2.2.2.2.2 = 6 := by
 rw [← decode_ref k k l hl a] at h
 have hd : ¬ (decide (a ≥ (l.length : Int)) = true) := by simp; omega
 have hn : ¬ a < 0 := by omega
 have key : ∀ (m k : Nat) (A nx : Int) (ws : List Int) (j op d x b i : Int) (t : Int × Int × Int × Int × Int × Int × Int), m ≤ k → cupelref20_Decode.l0 m l A nx ws j op d x b i = some t → t.2.2.2.2.2.2 = 0 ∨ t.2.2.2.2.2.2 = 6 := by
  intro m
  induction m with
  | zero => intro k A nx ws j op d x b i t _ h; simp [cupelref20_Decode.l0] at h
  | succ m ih =>
   intro k A nx ws j op d x b i t hk h
   rw [l0_succ] at h
   repeat' split at h
   all_goals first
    | exact ih m _ _ _ _ _ _ _ _ _ _ (Nat.le_refl _) h
    | (cases h; left; rfl)
    | (cases h; right; rfl)
    | (cases h; done)
 have key2 : ∀ (k : Nat) (A nx op d x b i : Int) (t : Int × Int × Int × Int × Int × Int × Int), cupelref20_Decode.j2 (k + 1) l A nx op d x b i = some t → t.2.2.2.2.2.2 = 0 ∨ t.2.2.2.2.2.2 = 6 := by
  intro k A nx op d x b i t h
  rw [cupelref20_Decode.j2] at h
  obtain ⟨r, _, h⟩ := Option.bind_eq_some_iff.1 h
  split at h
  ·obtain ⟨ws, _, h⟩ := Option.bind_eq_some_iff.1 h
   exact key k k _ _ _ _ _ _ _ _ _ _ (Nat.le_refl _) h
  ·cases h; right; rfl
 have key1 : ∀ (k : Nat) (A nx : Int) (q : Bool) (op d x b i : Int) (t : Int × Int × Int × Int × Int × Int × Int), cupelref20_Decode.j1 (k + 2) l A nx q op d x b i = some t → t.2.2.2.2.2.2 = 0 ∨ t.2.2.2.2.2.2 = 6 := by
  intro k A nx q op d x b i t h
  rw [cupelref20_Decode.j1] at h
  repeat' split at h
  all_goals first
   | exact key2 k _ _ _ _ _ _ _ _ h
   | (cases h; right; rfl)
   | (cases h; done)
 unfold cupelref20_Decode.f at h
 rw [if_neg hn, cupelref20_Decode.j0, if_neg hd] at h
 repeat' split at h
 all_goals first
  | exact key1 (k + 17) _ _ _ _ _ _ _ _ _ h
  | (cases h; done)
theorem items_ref (l d : List Int) (e : Int) (hl : l.length ≤ 20000) : ∀ (n k k' : Nat) (a : Int), (l.length : Int) - a ≤ n → n + 30 ≤ k → n + 30 ≤ k' → 0 ≤ a → ∀ xs, itemsF k l a = some xs → cupelref20_Check.l0 k' a l d e = some (match xs.find? (fun x => x.2.2.2.2.2 != 0) with | some x => x.2.2.2.2.2 | none => 0) := by
 intro n
 induction n with
 | zero =>
  intro k k' a hn hk hk' ha xs hx
  obtain ⟨k, rfl⟩ : ∃ j, k = j + 1 := ⟨k - 1, by omega⟩
  obtain ⟨k', rfl⟩ : ∃ j, k' = j + 1 := ⟨k' - 1, by omega⟩
  have c : ¬ a < (l.length : Int) := by omega
  unfold itemsF at hx
  rw [if_neg c] at hx
  cases hx
  rw [cupelref20_Check.l0, if_neg c]
  rfl
 | succ n ih =>
  intro k k' a hn hk hk' ha xs hx
  obtain ⟨k, rfl⟩ : ∃ j, k = j + 22 := ⟨k - 22, by omega⟩
  obtain ⟨k', rfl⟩ : ∃ j, k' = j + 21 := ⟨k' - 21, by omega⟩
  by_cases c : a < (l.length : Int)
  ·obtain ⟨t, ht, hd⟩ := decode_total (k + 21) l hl a (by omega)
   have hr : cupelref20_Decode.f (k' + 20) l a = some t := (decode_ref k' k l hl a).trans ht
   rw [show k + 22 = (k + 21) + 1 from rfl] at hx
   unfold itemsF at hx
   rw [if_pos c, ht, Option.bind_some] at hx
   rw [show k' + 21 = (k' + 20) + 1 from rfl, cupelref20_Check.l0, if_pos c, hr, Option.bind_some]
   by_cases c0 : t.2.2.2.2.2.2 = 0
   ·rw [if_pos c0] at hx
    rw [if_pos c0]
    obtain ⟨ys, hy, hx⟩ := Option.bind_eq_some_iff.1 hx
    cases hx
    have hd := hd c0
    rw [ih (k + 21) (k' + 20) t.2.2.2.2.2.1 (by have := hd.2.2.1; omega) (by omega) (by omega) (by have := hd.2.2.1; omega) ys hy]
    rfl
   ·rw [if_neg c0] at hx
    rw [if_neg c0]
    cases hx
    rcases dec_err k l hl a ha c t ht with h | h
    ·exact absurd h c0
    ·have hb : (t.2.2.2.2.2.2 != 0) = true := bne_iff_ne.mpr c0
     simp only [List.find?_cons, hb]
     rw [h]
  ·rw [show k + 22 = (k + 21) + 1 from rfl] at hx
   unfold itemsF at hx
   rw [if_neg c] at hx
   cases hx
   rw [show k' + 21 = (k' + 20) + 1 from rfl, cupelref20_Check.l0, if_neg c]
   rfl
end Go.Proofs.YtlaijeeeblcinaaDoor.A
set_option linter.all false
set_option maxRecDepth 100000
namespace Go.Proofs.YtlaijeeeblcinaaDoor.A
open Go.RowKit Go.Proofs.YtlaijeeeblcinaaDoorW.PrintWords
theorem check_both (l d : List Int) (e : Int) (k k' : Nat) (hk : 20100 ≤ k) (hk' : 20100 ≤ k') : ∃ r, target_Check.f k l d e = some r ∧ cupelref20_Check.f k' l d e = some r := by
 obtain ⟨k', rfl⟩ : ∃ j, k' = j + 2 := ⟨k' - 2, by omega⟩
 unfold target_Check.f cupelref20_Check.f
 by_cases c : (l.length : Int) > 20000
 ·rw [if_pos c, if_pos c, cupelref20_Check.j0, if_pos rfl]; exact ⟨3, rfl, rfl⟩
 rw [if_neg c, if_neg c, cupelref20_Check.j0]
 by_cases c1 : (d.length : Int) > 20000
 ·rw [if_pos c1, if_pos (decide_eq_true c1)]; exact ⟨3, rfl, rfl⟩
 have q1 : ¬ (decide ((d.length : Int) > 20000) = true) := by simpa using c1
 rw [if_neg c1, if_neg q1]
 by_cases c2 : e < 0
 ·rw [if_pos c2, if_pos c2, cupelref20_Check.j1, if_pos rfl]; exact ⟨2, rfl, rfl⟩
 rw [if_neg c2, if_neg c2, cupelref20_Check.j1]
 by_cases c3 : e > (l.length : Int)
 ·rw [if_pos c3, if_pos (decide_eq_true c3)]; exact ⟨2, rfl, rfl⟩
 have q3 : ¬ (decide (e > (l.length : Int)) = true) := by simpa using c3
 rw [if_neg c3, if_neg q3]
 unfold target_Check.l
 obtain ⟨xs, hx⟩ := items_total l (by omega) 20000 k 0 (by omega) (by omega)
 rw [hx, Option.bind_some]
 exact ⟨_, rfl, items_ref l d e (by omega) 20000 k k' 0 (by omega) (by omega) (by omega) (by omega) xs hx⟩
end Go.Proofs.YtlaijeeeblcinaaDoor.A

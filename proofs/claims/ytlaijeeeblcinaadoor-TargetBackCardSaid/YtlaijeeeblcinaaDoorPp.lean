/- The reference's numbers and lines are target's. -/
import Derived.Test.YtlaijeeeblcinaaDoorAx13
import Derived.Test.YtlaijeeeblcinaaDoorPr3
import Derived.Test.YtlaijeeeblcinaaDoorRk
import Derived.Test.YtlaijeeeblcinaaDoorAx14
set_option linter.all false
set_option maxRecDepth 100000
namespace Go.Proofs.YtlaijeeeblcinaaDoor.A
open Go.RowKit Go.Lib Go.Proofs.YtlaijeeeblcinaaDoorW.PrintWords
theorem dig_len : ∀ (k u : Nat), u < 10 ^ (k + 1) → (decDigits u).length ≤ k + 1 := by
 intro k
 induction k with
 | zero => intro u h; rw [decDigits_one (by omega)]; simp
 | succ k ih =>
  intro u h
  by_cases c : u < 10
  ·rw [decDigits_one c]; simp
  ·rw [decDigits, dif_neg c]
   have := ih (u / 10) (by rw [Nat.pow_succ] at h; omega)
   simp only [List.length_append, List.length_cons, List.length_nil]
   omega
theorem digits_f : ∀ (k u : Nat), u < 10 ^ (k + 1) → u ≤ 9223372036854775808 → k ≤ 40 → cupelref20_digits.f (k + 1) (-(u : Int)) = some ⟨(decDigits u).toArray⟩ := by
 intro k
 have step : ∀ u : Nat, u ≤ 9223372036854775808 → (wrap64 (48 - Int.tmod (-(u : Int)) 10)) % 256 = ((48 + u % 10 : Nat) : Int) ∧ wrap64 (Int.tdiv (-(u : Int)) 10) = -((u / 10 : Nat) : Int) := by
  intro u hu
  rw [Int.neg_tmod, Int.neg_tdiv, Int.tmod_eq_emod_of_nonneg (by omega), Int.tdiv_eq_ediv_of_nonneg (by omega)]
  unfold wrap64
  constructor <;> omega
 have one : ∀ n : Nat, strOfNums [((48 + n % 10 : Nat) : Int)] = ⟨#[UInt8.ofNat (48 + n % 10)]⟩ := fun n => rfl
 induction k with
 | zero =>
  intro u h hu _
  obtain ⟨e1, e2⟩ := step u hu
  simp only [cupelref20_digits.f, Option.bind_some, e1, e2]
  rw [if_pos (by omega), one, decDigits_one (by omega), Nat.mod_eq_of_lt (by omega)]
 | succ k ih =>
  intro u h hu hk
  obtain ⟨e1, e2⟩ := step u hu
  rw [cupelref20_digits.f]
  simp only [Option.bind_some, e1, e2]
  by_cases c : u < 10
  ·rw [if_pos (by omega), one, decDigits_one c, Nat.mod_eq_of_lt c]
  ·have hl := dig_len k (u / 10) (by rw [Nat.pow_succ] at h; omega)
   rw [if_neg (by omega), ih (u / 10) (by rw [Nat.pow_succ] at h; omega) (by omega) (by omega), Option.bind_some, one, if_pos]
   ·rw [decDigits.eq_def u, dif_neg c]
    congr 1
   ·have : (⟨(decDigits (u / 10)).toArray⟩ : ByteArray).size = (decDigits (u / 10)).length := rfl
    rw [this]
    show _ + 1 ≤ _
    omega
def I64 (v : Int) : Prop := -9223372036854775808 ≤ v ∧ v ≤ 9223372036854775807
theorem number_f (v : Int) (h : I64 v) (k : Nat) (hk : 25 ≤ k) (hk2 : k ≤ 40) : cupelref20_number.f k v = some (numB v) := by
 obtain ⟨k, rfl⟩ : ∃ z, k = z + 1 := ⟨k - 1, by omega⟩
 obtain ⟨h0, h1⟩ := h
 have hb : ∀ u : Nat, u ≤ 9223372036854775808 → u < 10 ^ (k + 1) := by
  intro u hu
  have : 10 ^ 20 ≤ 10 ^ (k + 1) := Nat.pow_le_pow_right (by decide) (by omega)
  have h20 : (10 : Nat) ^ 20 = 100000000000000000000 := by decide
  omega
 unfold cupelref20_number.f numB itoa
 by_cases c : v < 0
 ·rw [if_pos c, if_pos c]
  have e : v = -((v.natAbs : Nat) : Int) := by omega
  have hu : v.natAbs ≤ 9223372036854775808 := by omega
  have hd := digits_f k v.natAbs (hb _ hu) hu (by omega)
  rw [← e] at hd
  have hl := dig_len k v.natAbs (hb _ hu)
  rw [hd, Option.bind_some, if_pos]
  ·congr 1
  ·have : (⟨(decDigits v.natAbs).toArray⟩ : ByteArray).size = (decDigits v.natAbs).length := rfl
   omega
 ·rw [if_neg c, if_neg c]
  have hu : v.toNat ≤ 9223372036854775808 := by omega
  have hd := digits_f k v.toNat (hb _ hu) hu (by omega)
  rw [show wrap64 (-v) = -((v.toNat : Nat) : Int) by unfold wrap64; omega, hd]
  rfl
theorem number_ge (v : Int) (h : I64 v) (k : Nat) (hk : 25 ≤ k) : cupelref20_number.f k v = some (numB v) := by
 have h30 := number_f v h 30 (by omega) (by omega)
 have h25 := number_f v h 25 (by omega) (by omega)
 clear h30
 have : ∀ n, cupelref20_number.f (25 + n) v = some (numB v) := by
  intro n
  induction n with
  | zero => exact h25
  | succ n ih => exact cupelref20_number.mono v (25 + n) _ ih
 have := this (k - 25)
 rwa [show 25 + (k - 25) = k by omega] at this
theorem itoa_f (v : Int) (h : I64 v) : et_Itoa.f v = some (numB v) := by unfold et_Itoa.f; exact if_pos h
theorem fmt_f (v : Int) (h : I64 v) : et_FormatInt.f v 10 = some (numB v) := by unfold et_FormatInt.f; rw [if_pos rfl, itoa_f v h]
theorem reg_f (v : Int) (h : I64 v) : et_reg.f v = some (regB v) := by unfold et_reg.f; exact if_pos h
theorem numB_len (v : Int) (h : I64 v) : (numB v).size ≤ 21 := numB_size v h.1 h.2
theorem regB_len (v : Int) (h : I64 v) : (regB v).size ≤ 22 := by
 have := numB_len v h
 unfold regB
 rw [ByteArray.size_append]
 show 1 + _ ≤ _
 omega
end Go.Proofs.YtlaijeeeblcinaaDoor.A
set_option linter.all false
set_option maxRecDepth 100000
set_option maxHeartbeats 8000000
namespace Go.Proofs.YtlaijeeeblcinaaDoor.A
open Go.RowKit Go.Lib Go.Proofs.YtlaijeeeblcinaaDoorW.PrintWords
theorem ba_eq {a b : ByteArray} (h : a.data.toList = b.data.toList) : a = b := by
 apply ByteArray.ext; exact Array.ext' h
abbrev cm : ByteArray := ⟨#[44, 32]⟩
theorem joinB_one (x s : ByteArray) : joinB [x] s = x := by
 apply ba_eq; simp [joinB, join_one]
theorem joinTail_snoc (sep x : List UInt8) (r : List (List UInt8)) : joinTail sep (r ++ [x]) = joinTail sep r ++ sep ++ x := by
 simp [joinTail]
theorem joinB_snoc (l : List ByteArray) (x s : ByteArray) (h : l ≠ []) : joinB (l ++ [x]) s = joinB l s ++ s ++ x := by
 cases l with
 | nil => exact absurd rfl h
 | cons y r =>
  apply ba_eq
  simp only [joinB, List.cons_append, List.map_cons, List.map_append, List.map_nil, join_cons, joinTail_snoc, ByteArray.data_append, Array.toList_append, List.append_assoc]
theorem join_f (l : List ByteArray) (sep : ByteArray) (hl : l.length ≤ 100) (h : (joinB l sep).size ≤ 100000) : et_Join.f l sep = some (joinB l sep) := by
 have : (join (l.map (·.data.toList)) sep.data.toList).length = (joinB l sep).size := rfl
 unfold et_Join.f
 rw [if_pos ⟨by omega, by omega⟩]
theorem szif {α : Type} {n : Nat} (h : n ≤ 100000) (x y : α) : (if n ≤ 9223372036854775807 then x else y) = x := if_pos (by omega)
theorem szif2 {α : Type} {n : Nat} (h : n ≤ 100000) (x y : α) : (if n < 8796093022208 then x else y) = x := if_pos (by omega)
theorem ls (x y : ByteArray) : (x ++ y).size = x.size + y.size := ByteArray.size_append
/-- a line's text so far, and what stands ahead of the next part -/
def accT (wd : ByteArray) (l : List ByteArray) : ByteArray := if l = [] then wd else wd ++ ⟨#[32]⟩ ++ joinB l cm
def sgn (l : List ByteArray) : ByteArray := if l = [] then ⟨#[32]⟩ else cm
theorem accT_snoc (wd : ByteArray) (l : List ByteArray) (x : ByteArray) : accT wd (l ++ [x]) = accT wd l ++ sgn l ++ x := by
 unfold accT sgn
 by_cases h : l = []
 ·subst h; simp only [List.nil_append, if_true, joinB_one]; rw [if_neg (by simp)]
 ·rw [if_neg (by simp), if_neg h, if_neg h, joinB_snoc l x cm h]
  simp only [ByteArray.append_assoc]
theorem sgn_snoc (l : List ByteArray) (x : ByteArray) : sgn (l ++ [x]) = cm := by unfold sgn; rw [if_neg (by simp)]
theorem sgn_size (l : List ByteArray) : (sgn l).size ≤ 2 := by
 unfold sgn; split
 ·exact (by decide : 1 ≤ 2)
 ·exact Nat.le_refl 2
/-- few and short parts -/
structure Few (wd : ByteArray) (n : Nat) (l : List ByteArray) : Prop where
 len : l.length ≤ n
 size : (accT wd l).size ≤ 100 + 102 * n
theorem Few.nil {wd : ByteArray} (h : wd.size ≤ 100) : Few wd 0 [] := ⟨Nat.le_refl _, by unfold accT; rw [if_pos rfl]; exact h⟩
theorem Few.up {wd : ByteArray} {n : Nat} {l : List ByteArray} (h : Few wd n l) : Few wd (n + 1) l := ⟨by have := h.len; omega, by have := h.size; omega⟩
theorem Few.snoc {wd : ByteArray} {n : Nat} {l : List ByteArray} (h : Few wd n l) {x : ByteArray} (hx : x.size ≤ 100) : Few wd (n + 1) (l ++ [x]) := by
 refine ⟨by rw [List.length_append]; have := h.len; simp only [List.length_cons, List.length_nil]; omega, ?_⟩
 rw [accT_snoc, ls, ls]
 have := sgn_size l
 have := h.size
 omega
theorem len0 (l : List ByteArray) : ((l.length : Nat) : Int) = 0 ↔ l = [] := by
 rw [← List.length_eq_zero_iff]; omega
/-- the end of a line -/
theorem fin_f {wd : ByteArray} (hw : wd.size ≤ 100) {n : Nat} (hn : n ≤ 10) {l : List ByteArray} (h : Few wd n l) :
  (if (l.length : Int) = 0 then (if wd.size + 2 ≤ 9223372036854775807 then (some (wd ++ (⟨#[59, 10]⟩ : ByteArray))) else (none)) else (if wd.size + 1 ≤ 9223372036854775807 then ((et_Join.f l (⟨#[44, 32]⟩ : ByteArray)).bind fun t192 => (if (wd ++ (⟨#[32]⟩ : ByteArray)).size + t192.size ≤ 9223372036854775807 then (if ((wd ++ (⟨#[32]⟩ : ByteArray)) ++ t192).size + 2 ≤ 9223372036854775807 then (some (((wd ++ (⟨#[32]⟩ : ByteArray)) ++ t192) ++ (⟨#[59, 10]⟩ : ByteArray))) else (none)) else (none))) else (none))) = some (accT wd l ++ (⟨#[59, 10]⟩ : ByteArray)) := by
 have hs := h.size
 have hl := h.len
 rw [show (⟨#[44, 32]⟩ : ByteArray) = cm from rfl]
 unfold accT at hs ⊢
 by_cases c : l = []
 ·rw [if_pos ((len0 l).2 c), szif (by omega), if_pos c]
 ·rw [if_neg (fun e => c ((len0 l).1 e)), if_neg c]
  rw [if_neg c, ls, ls, bsz1] at hs
  rw [szif (by omega), join_f l _ (by omega) (by omega), Option.bind_some, szif (by rw [ls, bsz1]; omega), szif (by rw [ls, ls, bsz1]; omega)]
theorem regB_eq (v : Int) : regB v = ⟨#[114]⟩ ++ numB v := rfl
def opt (c : Bool) (x : ByteArray) : List ByteArray := if c = true then [x] else []
theorem opt_t (x : ByteArray) : opt true x = [x] := rfl
theorem opt_f (x : ByteArray) : opt false x = [] := rfl
/-- target's line, part by part -/
theorem tj2 (k : Nat) (i : Int) (hi : I64 i) (l : List ByteArray) (t0 : Int) (wd : ByteArray) (hw : wd.size ≤ 100) (fd fa fb : Bool) (fi : Int) (h : Few wd 3 l) :
  target_line.j2 (k + 1) (numB i) l t0 wd fd fa fb fi = some (accT wd (l ++ opt (fi != 0) (numB i)) ++ ⟨#[59, 10]⟩) := by
 have hn := numB_len i hi
 have hl := h.len
 rw [target_line.j2]
 by_cases c : fi = 0
 ·rw [if_pos c, fin_f hw (by omega) h]
  subst c
  rw [show ((0 : Int) != 0) = false from rfl, opt_f, List.append_nil]
 ·rw [if_neg c, szif2 (by omega), Option.bind_some, fin_f hw (by omega) (h.snoc (by omega))]
  rw [show (fi != 0) = true from bne_iff_ne.mpr c, opt_t]
theorem tj1 (k : Nat) (i : Int) (hi : I64 i) (l : List ByteArray) (op d a b im : Int) (hb : I64 b) (t0 : Int) (wd : ByteArray) (hw : wd.size ≤ 100) (fd fa fb : Bool) (fi : Int) (h : Few wd 2 l) :
  target_line.j1 (k + 2) (numB i) l op d a b im t0 wd fd fa fb fi = some (accT wd (l ++ opt fb (regB b) ++ opt (fi != 0) (numB i)) ++ ⟨#[59, 10]⟩) := by
 have hr := regB_len b hb
 have hl := h.len
 rw [target_line.j1]
 cases fb with
 | true => rw [if_pos rfl, reg_f b hb, Option.bind_some, szif2 (by omega), tj2 k i hi _ t0 wd hw fd fa true fi (h.snoc (by omega)), opt_t]
 | false => rw [if_neg (by decide), tj2 k i hi _ t0 wd hw fd fa false fi h.up, opt_f, List.append_nil]
theorem tj0 (k : Nat) (i : Int) (hi : I64 i) (l : List ByteArray) (op d a b im : Int) (ha : I64 a) (hb : I64 b) (t0 : Int) (wd : ByteArray) (hw : wd.size ≤ 100) (fd fa fb : Bool) (fi : Int) (h : Few wd 1 l) :
  target_line.j0 (k + 3) (numB i) l op d a b im t0 wd fd fa fb fi = some (accT wd (l ++ opt fa (regB a) ++ opt fb (regB b) ++ opt (fi != 0) (numB i)) ++ ⟨#[59, 10]⟩) := by
 have hr := regB_len a ha
 have hl := h.len
 rw [target_line.j0]
 cases fa with
 | true => rw [if_pos rfl, reg_f a ha, Option.bind_some, szif2 (by omega), tj1 k i hi _ op d a b im hb t0 wd hw fd true fb fi (h.snoc (by omega)), opt_t]
 | false => rw [if_neg (by decide), tj1 k i hi _ op d a b im hb t0 wd hw fd false fb fi h.up, opt_f, List.append_nil]
/-- the reference's line, part by part -/
theorem rj1 (k : Nat) (hk : 30 ≤ k) (i : Int) (hi : I64 i) (l : List ByteArray) (op d a b : Int) (hb : I64 b) (t0 : Int) (wd : ByteArray) (hw : wd.size ≤ 100) (fd fa fb : Bool) (fi : Int) (h : Few wd 2 l) :
  cupelref20_Line.j1 (k + 1) (accT wd l) (sgn l) op d a b i t0 wd fd fa fb fi = some (accT wd (l ++ opt fb (regB b) ++ opt (fi != 0) (numB i)) ++ ⟨#[59]⟩) := by
 have hn := numB_len i hi
 have hr := numB_len b hb
 have hs := h.size
 have hg := sgn_size l
 rw [cupelref20_Line.j1, number_ge b hb k (by omega), number_ge i hi k (by omega)]
 simp only [Option.bind_some]
 by_cases c : fi = 0
 ·subst c
  rw [show ((0 : Int) != 0) = false from rfl, opt_f, List.append_nil]
  cases fb with
  | true =>
   rw [opt_t, accT_snoc, regB_eq, if_pos rfl, szif (by omega), szif (by rw [ls]; omega), szif (by rw [ls, ls, bsz1]; omega), if_pos rfl, szif (by rw [ls, ls, ls, bsz1]; omega)]
   simp only [ByteArray.append_assoc]
  | false => rw [opt_f, List.append_nil, if_neg (by decide), if_pos rfl, szif (by omega)]
 ·rw [show (fi != 0) = true from bne_iff_ne.mpr c, opt_t]
  cases fb with
  | true =>
   rw [opt_t, accT_snoc, accT_snoc, sgn_snoc, regB_eq, if_pos rfl, szif (by omega), szif (by rw [ls]; omega), szif (by rw [ls, ls, bsz1]; omega), if_neg c, szif (by rw [ls, ls, ls, bsz1]; omega), szif (by rw [ls, ls, ls, ls, bsz1, bsz2]; omega), szif (by rw [ls, ls, ls, ls, ls, bsz1, bsz2]; omega)]
   simp only [ByteArray.append_assoc]
  | false =>
   rw [opt_f, List.append_nil, accT_snoc, if_neg (by decide), if_neg c, szif (by omega), szif (by rw [ls]; omega), szif (by rw [ls, ls]; omega)]
theorem rj0 (k : Nat) (hk : 30 ≤ k) (i : Int) (hi : I64 i) (l : List ByteArray) (op d a b : Int) (ha : I64 a) (hb : I64 b) (t0 : Int) (wd : ByteArray) (hw : wd.size ≤ 100) (fd fa fb : Bool) (fi : Int) (h : Few wd 1 l) :
  cupelref20_Line.j0 (k + 2) (accT wd l) (sgn l) op d a b i t0 wd fd fa fb fi = some (accT wd (l ++ opt fa (regB a) ++ opt fb (regB b) ++ opt (fi != 0) (numB i)) ++ ⟨#[59]⟩) := by
 have hr := numB_len a ha
 have hr2 := regB_len a ha
 have hs := h.size
 have hg := sgn_size l
 rw [cupelref20_Line.j0, number_ge a ha (k + 1) (by omega)]
 simp only [Option.bind_some]
 cases fa with
 | true =>
  have e := rj1 k hk i hi (l ++ [regB a]) op d a b hb t0 wd hw fd true fb fi (h.snoc (by omega))
  rw [accT_snoc, sgn_snoc, regB_eq, ← ByteArray.append_assoc] at e
  rw [opt_t, if_pos rfl, szif (by omega), szif (by rw [ls]; omega), szif (by rw [ls, ls, bsz1]; omega)]
  exact e
 | false => rw [if_neg (by decide), rj1 k hk i hi l op d a b hb t0 wd hw fd false fb fi h.up, opt_f, List.append_nil]
/-- a line without its end -/
def lineP (t : Int × ByteArray × Bool × Bool × Bool × Int × Bool) (d a b i : Int) : ByteArray :=
 if t.1 = 4 then t.2.1 ++ ⟨#[32]⟩ ++ regB d ++ cm ++ (numB i ++ ⟨#[40]⟩ ++ regB a ++ ⟨#[41]⟩) ++ ⟨#[59]⟩
 else if t.1 = 5 then t.2.1 ++ ⟨#[32]⟩ ++ (numB i ++ ⟨#[40]⟩ ++ regB a ++ ⟨#[41]⟩) ++ cm ++ regB b ++ ⟨#[59]⟩
 else accT t.2.1 (opt t.2.2.1 (regB d) ++ opt t.2.2.2.1 (regB a) ++ opt t.2.2.2.2.1 (regB b) ++ opt (t.2.2.2.2.2.1 != 0) (numB i)) ++ ⟨#[59]⟩
theorem join2 (a b s : ByteArray) : joinB [a, b] s = a ++ s ++ b := by
 have := joinB_snoc [a] b s (by simp)
 rw [joinB_one] at this; exact this
theorem line_size (t : Int × ByteArray × Bool × Bool × Bool × Int × Bool) (d a b i : Int) (hw : t.2.1.size ≤ 100) (hd : I64 d) (ha : I64 a) (hb : I64 b) (hi : I64 i) : (lineP t d a b i).size ≤ 900 := by
 have sd := regB_len d hd
 have sa := regB_len a ha
 have sb := regB_len b hb
 have si := numB_len i hi
 unfold lineP
 split
 ·simp only [ls, bsz1, bsz2]; omega
 ·split
  ·simp only [ls, bsz1, bsz2]; omega
  ·have key : ∀ (c : Bool) (x : ByteArray) (n : Nat) (l : List ByteArray), x.size ≤ 100 → Few t.2.1 n l → Few t.2.1 (n + 1) (l ++ opt c x) := by
    intro c x n l hx h
    cases c with
    | true => exact h.snoc hx
    | false => rw [opt_f, List.append_nil]; exact h.up
   have h1 := key t.2.2.1 (regB d) 0 [] (by omega) (Few.nil hw)
   have h2 := key t.2.2.2.1 (regB a) 1 _ (by omega) h1
   have h3 := key t.2.2.2.2.1 (regB b) 2 _ (by omega) h2
   have h4 := key (t.2.2.2.2.2.1 != 0) (numB i) 3 _ (by omega) h3
   have := h4.size
   rw [List.nil_append] at this
   rw [ls, bsz1]; omega
theorem line_ref (k : Nat) (op d a b i : Int) (t : Int × ByteArray × Bool × Bool × Bool × Int × Bool) (ht : cupelref20_find.f op = some t) (hop : t.1 = op) (hw : t.2.1.size ≤ 100) (hd : I64 d) (ha : I64 a) (hb : I64 b) (hi : I64 i) :
  cupelref20_Line.f (k + 40) op d a b i = some (lineP t d a b i) := by
 obtain ⟨t0, wd, fd, fa, fb, fi, ff⟩ := t
 dsimp only at hop hw
 subst hop
 have sd := numB_len d hd
 have sa := numB_len a ha
 have sb := numB_len b hb
 have si := numB_len i hi
 have e1 : (⟨#[32, 114]⟩ : ByteArray) = ⟨#[32]⟩ ++ ⟨#[114]⟩ := rfl
 have e2 : (⟨#[44, 32, 114]⟩ : ByteArray) = cm ++ ⟨#[114]⟩ := rfl
 have e3 : (⟨#[40, 114]⟩ : ByteArray) = ⟨#[40]⟩ ++ ⟨#[114]⟩ := rfl
 unfold cupelref20_Line.f lineP
 rw [ht]
 simp only [Option.bind_some]
 rw [number_ge i hi _ (by omega), number_ge a ha _ (by omega)]
 simp only [Option.bind_some]
 rw [szif (by omega), szif (by rw [ls, bsz2]; omega), szif (by rw [ls, ls, bsz2]; omega)]
 by_cases c4 : t0 = 4
 ·rw [if_pos c4, if_pos c4, szif (by omega), number_ge d hd _ (by omega), Option.bind_some, szif (by rw [ls, bsz2]; omega), szif (by rw [ls, ls, bsz2]; omega), szif (by simp only [ls, bsz1, bsz2]; omega), szif (by simp only [ls, bsz1, bsz2]; omega)]
  simp only [regB_eq, e1, e2, e3, ByteArray.append_assoc]
 ·rw [if_neg c4, if_neg c4]
  by_cases c5 : t0 = 5
  ·rw [if_pos c5, if_pos c5, szif (by omega), number_ge b hb _ (by omega), Option.bind_some, szif (by simp only [ls, bsz1, bsz2]; omega), szif (by simp only [ls, bsz1, bsz2]; omega), szif (by simp only [ls, bsz1, bsz2, bsz3]; omega), szif (by simp only [ls, bsz1, bsz2, bsz3]; omega)]
   simp only [regB_eq, e1, e2, e3, ByteArray.append_assoc]
  ·rw [if_neg c5, if_neg c5]
   cases fd with
   | true =>
    have e := rj0 (k + 38) (by omega) i hi [regB d] t0 d a b ha hb t0 wd hw true fa fb fi ((Few.nil hw).snoc (by have := regB_len d hd; omega))
    have ea : accT wd [regB d] = wd ++ ⟨#[32]⟩ ++ ⟨#[114]⟩ ++ numB d := by
     have := accT_snoc wd [] (regB d)
     rw [List.nil_append] at this
     rw [this, regB_eq, ← ByteArray.append_assoc]; rfl
    have es : sgn [regB d] = ⟨#[44, 32]⟩ := sgn_snoc [] (regB d)
    rw [ea, es] at e
    rw [if_pos rfl, szif (by omega), szif (by rw [ls, bsz1]; omega), number_ge d hd _ (by omega), Option.bind_some, szif (by rw [ls, ls, bsz1, bsz1]; omega), e]
    rfl
   | false =>
    rw [if_neg (by decide)]
    exact rj0 (k + 38) (by omega) i hi [] t0 d a b ha hb t0 wd hw false fa fb fi (Few.nil hw).up
theorem line_tgt (k : Nat) (op d a b i : Int) (t : Int × ByteArray × Bool × Bool × Bool × Int × Bool) (ht : cupelref20_find.f op = some t) (hw : t.2.1.size ≤ 100) (hd : I64 d) (ha : I64 a) (hb : I64 b) (hi : I64 i) :
  target_line.f (k + 3) op d a b i = some (lineP t d a b i ++ ⟨#[10]⟩) := by
 obtain ⟨t0, wd, fd, fa, fb, fi, ff⟩ := t
 dsimp only at hw
 have sd := regB_len d hd
 have sa := regB_len a ha
 have sb := regB_len b hb
 have si := numB_len i hi
 have e4 : (⟨#[59, 10]⟩ : ByteArray) = ⟨#[59]⟩ ++ ⟨#[10]⟩ := rfl
 have l2 : ∀ x y : ByteArray, ((([x, y] : List ByteArray).length : Nat) : Int) = 0 ↔ False := fun x y => by simp
 unfold target_line.f et_find.f lineP
 rw [ht]
 simp only [Option.bind_some]
 rw [fmt_f i hi, Option.bind_some, szif (by omega), reg_f a ha, Option.bind_some, szif (by rw [ls, bsz1]; omega), szif (by rw [ls, ls, bsz1]; omega)]
 by_cases c4 : t0 = 4
 ·rw [if_pos c4, if_pos c4, reg_f d hd]
  simp only [Option.bind_some, l2, if_false]
  rw [szif (by omega), join_f _ _ (by simp) (by rw [join2]; simp only [ls, bsz1, bsz2]; omega), Option.bind_some, join2, szif (by simp only [ls, bsz1, bsz2]; omega), szif (by simp only [ls, bsz1, bsz2]; omega)]
  simp only [e4, ByteArray.append_assoc]
 ·rw [if_neg c4, if_neg c4]
  by_cases c5 : t0 = 5
  ·rw [if_pos c5, if_pos c5, reg_f b hb]
   simp only [Option.bind_some, l2, if_false]
   rw [szif (by omega), join_f _ _ (by simp) (by rw [join2]; simp only [ls, bsz1, bsz2]; omega), Option.bind_some, join2, szif (by simp only [ls, bsz1, bsz2]; omega), szif (by simp only [ls, bsz1, bsz2]; omega)]
   simp only [e4, ByteArray.append_assoc]
  ·rw [if_neg c5, if_neg c5]
   cases fd with
   | true =>
    rw [if_pos rfl, reg_f d hd, Option.bind_some, szif2 (by simp), tj0 k i hi _ op d a b i ha hb t0 wd hw true fa fb fi ((Few.nil hw).snoc (by omega))]
    simp only [e4, ByteArray.append_assoc]; rfl
   | false =>
    rw [if_neg (by decide), tj0 k i hi [] op d a b i ha hb t0 wd hw false fa fb fi (Few.nil hw).up]
    simp only [e4, ByteArray.append_assoc]; rfl
end Go.Proofs.YtlaijeeeblcinaaDoor.A
set_option linter.all false
set_option maxRecDepth 100000
namespace Go.Proofs.YtlaijeeeblcinaaDoor.A
open Go.RowKit Go.Lib Go.Proofs.YtlaijeeeblcinaaDoorW.PrintWords
theorem i64_wrap (x : Int) : I64 (wrap64 x) := by unfold I64 wrap64; omega
theorem dec_imm {k : Nat} {l : List Int} {a : Int} {t : Int × Int × Int × Int × Int × Int × Int} (h : target_Decode.f k l a = some t) : I64 t.2.2.2.2.1 := by
 have z : I64 0 := by unfold I64; omega
 have hj1 : ∀ (k : Nat) (x1 x8 a b c d e : Int), I64 e → target_Decode.j1 k l x1 x8 a b c d e = some t → I64 t.2.2.2.2.1 := by
  intro k x1 x8 a b c d e he h
  cases k with
  | zero => simp [target_Decode.j1] at h
  | succ k =>
   rw [target_Decode.j1] at h
   obtain ⟨r, _, h⟩ := Option.bind_eq_some_iff.1 h
   split at h
   ·obtain ⟨ws, _, h⟩ := Option.bind_eq_some_iff.1 h
    split at h
    ·split at h
     ·split at h
      ·obtain ⟨q, _, h⟩ := Option.bind_eq_some_iff.1 h
       split at h <;> (obtain rfl := Option.some.inj h; assumption)
      ·cases h
     ·cases h
    ·cases h
   ·obtain rfl := Option.some.inj h; exact z
 have hj0 : ∀ (k : Nat) (b : Bool), target_Decode.j0 k l a b = some t → I64 t.2.2.2.2.1 := by
  intro k b h
  cases k with
  | zero => simp [target_Decode.j0] at h
  | succ k =>
   rw [target_Decode.j0] at h
   split at h
   ·obtain rfl := Option.some.inj h; exact z
   ·split at h
    ·split at h
     ·split at h
      ·split at h
       ·obtain rfl := Option.some.inj h; exact z
       ·split at h
        ·split at h
         ·exact hj1 _ _ _ _ _ _ _ _ (i64_wrap _) h
         ·cases h
        ·cases h
      ·refine hj1 _ _ _ _ _ _ _ _ ?_ h
       have := i64_wrap (rd l a)
       unfold I64 at this ⊢
       omega
     ·cases h
    ·cases h
 unfold target_Decode.f at h
 split at h
 ·exact hj0 _ _ h
 ·exact hj0 _ _ h
theorem words_small : (List.range 14).all (fun i => decide ((trowAt i).2.1.size ≤ 50) && decide ((opAt i).size ≤ 50)) = true := by decide +kernel
theorem words_at {i : Nat} (h : i < 14) : (trowAt i).2.1.size ≤ 50 ∧ (opAt i).size ≤ 50 := by
 have := List.all_eq_true.1 words_small i (List.mem_range.2 h)
 simpa using this
abbrev Row7 := Int × ByteArray × Bool × Bool × Bool × Int × Bool
theorem find_row {op : Int} (h : 1 ≤ op ∧ op ≤ 14 ∨ 16 ≤ op ∧ op ≤ 29 ∨ 36 ≤ op ∧ op ≤ 49) : ∃ t : Row7, cupelref20_find.f op = some t ∧ t.1 = op ∧ t.2.1.size ≤ 100 := by
 rcases h with h | h | h
 ·have := find_tab (op - 1).toNat (by omega)
  rw [show (((op - 1).toNat : Nat) : Int) + 1 = op by omega] at this
  exact ⟨_, this, rfl, by have := (words_at (i := (op - 1).toNat) (by omega)).1; dsimp only; omega⟩
 ·have := find_bin (op - 16).toNat (by omega)
  rw [show 16 + (((op - 16).toNat : Nat) : Int) = op by omega] at this
  exact ⟨_, this, rfl, by have := (words_at (i := (op - 16).toNat) (by omega)).2; dsimp only; omega⟩
 ·have := find_bini (op - 36).toNat (by omega)
  rw [show 36 + (((op - 36).toNat : Nat) : Int) = op by omega] at this
  refine ⟨_, this, rfl, ?_⟩
  have := (words_at (i := (op - 36).toNat) (by omega)).2
  show (opAt _ ++ _).size ≤ 100
  rw [ls, bsz1]; omega
/-- an instruction that can be written down -/
def Fine (x : Item) : Prop := Parts x.1 x.2.1 x.2.2.1 x.2.2.2.1 ∧ I64 x.2.2.2.2.1
def rowOf (op : Int) : Row7 := (cupelref20_find.f op).getD (0, ByteArray.empty, false, false, false, 0, false)
def lineI (x : Item) : ByteArray := lineP (rowOf x.1) x.2.1 x.2.2.1 x.2.2.2.1 x.2.2.2.2.1
theorem fine_line {x : Item} (h : Fine x) (k : Nat) : cupelref20_Line.f (k + 40) x.1 x.2.1 x.2.2.1 x.2.2.2.1 x.2.2.2.2.1 = some (lineI x) ∧ lineB (k + 3) x = some (lineI x ++ ⟨#[10]⟩) ∧ (lineI x).size ≤ 900 := by
 obtain ⟨⟨ho, d0, d1, a0, a1, b0, b1⟩, hi⟩ := h
 obtain ⟨t, ht, h1, h2⟩ := find_row ho
 have hr : rowOf x.1 = t := by unfold rowOf; rw [ht]; rfl
 have hd : I64 x.2.1 := by unfold I64; omega
 have ha : I64 x.2.2.1 := by unfold I64; omega
 have hb : I64 x.2.2.2.1 := by unfold I64; omega
 unfold lineI lineB
 rw [hr]
 exact ⟨line_ref k _ _ _ _ _ t ht h1 h2 hd ha hb hi, line_tgt k _ _ _ _ _ t ht h2 hd ha hb hi, line_size t _ _ _ _ h2 hd ha hb hi⟩
theorem fine_ok {x : Item} (h : Fine x) (k : Nat) (hk : 3 ≤ k) : okLine k x = true ∧ lineB k x = some (lineI x ++ ⟨#[10]⟩) := by
 obtain ⟨k, rfl⟩ : ∃ z, k = z + 3 := ⟨k - 3, by omega⟩
 obtain ⟨_, h2, h3⟩ := fine_line h k
 refine ⟨?_, h2⟩
 unfold okLine
 rw [h2]
 refine decide_eq_true ?_
 rw [ls, bsz1]; omega
/-- the lines of instructions -/
def linesT (xs : List Item) (acc : ByteArray) : ByteArray := xs.foldl (fun a x => a ++ lineI x ++ ⟨#[10]⟩) acc
theorem outB_lines (k : Nat) (hk : 3 ≤ k) (xs : List Item) (h : ∀ x ∈ xs, Fine x) (acc : ByteArray) : outB k xs acc = linesT xs acc := by
 induction xs generalizing acc with
 | nil => rfl
 | cons x xs ih =>
  show outB k xs (acc ++ (lineB k x).getD ByteArray.empty) = linesT xs (acc ++ lineI x ++ ⟨#[10]⟩)
  rw [(fine_ok (h x List.mem_cons_self) k hk).2, Option.getD_some, ← ByteArray.append_assoc]
  exact ih (fun y hy => h y (List.mem_cons_of_mem _ hy)) _
theorem dec_more {k : Nat} {l : List Int} {a : Int} {t : Int × Int × Int × Int × Int × Int × Int} (h : target_Decode.f k l a = some t) : ∀ n, target_Decode.f (k + n) l a = some t := by
 intro n
 induction n with
 | zero => exact h
 | succ n ih => exact target_Decode.mono l a (k + n) _ ih
theorem dec_same {k : Nat} {l : List Int} (hl : l.length ≤ 20000) {a : Int} {t : Int × Int × Int × Int × Int × Int × Int} (h : target_Decode.f k l a = some t) (kk : Nat) (hk : 20 ≤ kk) : cupelref20_Decode.f kk l a = some t := by
 have := decode_ref (kk - 20) k l hl a
 rw [show kk - 20 + 20 = kk by omega, dec_more h 21] at this
 exact this
/-- all that comes is well -/
def AllOk (xs : List Item) : Prop := ∀ x ∈ xs, x.2.2.2.2.2 = 0
theorem items_cons {l : List Int} (hl : l.length ≤ 20000) {k : Nat} {a : Int} {xs : List Item} (h : itemsF k l a = some xs) (hok : AllOk xs) (ha : a < (l.length : Int)) :
  ∃ (k' : Nat) (t : Int × Int × Int × Int × Int × Int × Int) (ys : List Item), k = k' + 1 ∧ target_Decode.f k' l a = some t ∧ t.2.2.2.2.2.2 = 0 ∧ Dec l a t ∧ I64 t.2.2.2.2.1 ∧ itemsF k' l t.2.2.2.2.2.1 = some ys ∧ xs = (t.1, t.2.1, t.2.2.1, t.2.2.2.1, t.2.2.2.2.1, (0 : Int)) :: ys ∧ AllOk ys := by
 cases k with
 | zero => cases h
 | succ k =>
  rw [itemsF, if_pos ha] at h
  obtain ⟨t, ht, h⟩ := Option.bind_eq_some_iff.1 h
  by_cases c : t.2.2.2.2.2.2 = 0
  ·rw [if_pos c] at h
   obtain ⟨ys, hy, h⟩ := Option.bind_eq_some_iff.1 h
   obtain rfl := Option.some.inj h
   obtain ⟨t', ht', hd⟩ := decode_total (k + 8) l hl a (by omega)
   obtain rfl := Option.some.inj ((dec_more ht 8).symm.trans ht')
   exact ⟨k, t, ys, rfl, ht, c, hd, dec_imm ht, hy, rfl, fun x hx => hok x (List.mem_cons_of_mem _ hx)⟩
  ·rw [if_neg c] at h
   obtain rfl := Option.some.inj h
   exact absurd (hok _ List.mem_cons_self) c
theorem items_nil {l : List Int} {k : Nat} {a : Int} {xs : List Item} (h : itemsF k l a = some xs) (ha : ¬ a < (l.length : Int)) : xs = [] := by
 cases k with
 | zero => cases h
 | succ k => rw [itemsF, if_neg ha] at h; exact (Option.some.inj h).symm
theorem items_fine (l : List Int) (hl : l.length ≤ 20000) : ∀ (n k : Nat) (a : Int) (xs : List Item), (l.length : Int) - a ≤ n → itemsF k l a = some xs → AllOk xs → (∀ x ∈ xs, Fine x) ∧ xs.length ≤ n := by
 intro n
 induction n with
 | zero =>
  intro k a xs hn h hok
  rw [items_nil h (by omega)]
  exact ⟨fun x hx => (by cases hx), Nat.le_refl _⟩
 | succ n ih =>
  intro k a xs hn h hok
  by_cases ha : a < (l.length : Int)
  ·obtain ⟨k', t, ys, rfl, ht, c, hd, hi, hy, rfl, hok'⟩ := items_cons hl h hok ha
   obtain ⟨h1, h2, h3, h4⟩ := hd c
   obtain ⟨g1, g2⟩ := ih k' _ ys (by omega) hy hok'
   refine ⟨fun x hx => ?_, by simp only [List.length_cons]; omega⟩
   rcases List.mem_cons.1 hx with rfl | hx
   ·exact ⟨h1, hi⟩
   ·exact g1 x hx
  ·rw [items_nil h ha]
   exact ⟨fun x hx => (by cases hx), Nat.zero_le _⟩
theorem l1_lines (code data : List Int) (e : Int) (hl : code.length ≤ 20000) : ∀ (n k kk : Nat) (a : Int) (xs : List Item) (acc : ByteArray), (code.length : Int) - a ≤ n → 0 ≤ a → itemsF k code a = some xs → AllOk xs → n + 70 ≤ kk → acc.size + 1000 * n ≤ 2000000000 →
  cupelref20_Print.l1 kk acc a code data e = some (linesT xs acc, 0) := by
 intro n
 induction n with
 | zero =>
  intro k kk a xs acc hn h0 h hok hk hs
  obtain ⟨kk, rfl⟩ : ∃ z, kk = z + 1 := ⟨kk - 1, by omega⟩
  rw [items_nil h (by omega), cupelref20_Print.l1, if_neg (by omega)]; rfl
 | succ n ih =>
  intro k kk a xs acc hn h0 h hok hk hs
  obtain ⟨kk, rfl⟩ : ∃ z, kk = z + 41 := ⟨kk - 41, by omega⟩
  by_cases ha : a < (code.length : Int)
  ·obtain ⟨k', t, ys, rfl, ht, c, hd, hi, hy, rfl, hok'⟩ := items_cons hl h hok ha
   obtain ⟨h1, h2, h3, h4⟩ := hd c
   obtain ⟨f1, _, f3⟩ := fine_line (x := (t.1, t.2.1, t.2.2.1, t.2.2.2.1, t.2.2.2.2.1, (0 : Int))) ⟨h1, hi⟩ kk
   rw [cupelref20_Print.l1, if_pos ha, dec_same hl ht (kk + 40) (by omega), Option.bind_some, f1, Option.bind_some, if_pos (by omega), if_pos (by rw [ls]; omega)]
   rw [ih k' (kk + 40) _ ys _ (by omega) (by omega) hy hok' (by omega) (by simp only [ls, bsz1]; omega)]
   rfl
  ·rw [items_nil h ha, cupelref20_Print.l1, if_neg ha]; rfl
def dataTs (l : List Int) (acc : ByteArray) : ByteArray := l.foldl (fun a v => a ++ dataL (numB v)) acc
theorem dataL_size {v : Int} (h : I64 v) : (dataL (numB v)).size ≤ 28 := by
 have := numB_len v h
 unfold dataL
 rw [ls, ls, bsz5, bsz2]; omega
theorem dataTs_size (l : List Int) (h : ∀ v ∈ l, I64 v) (acc : ByteArray) : (dataTs l acc).size ≤ acc.size + 28 * l.length := by
 induction l generalizing acc with
 | nil => exact Nat.le_refl _
 | cons v l ih =>
  have h1 := dataL_size (h v List.mem_cons_self)
  have h2 := ih (fun y hy => h y (List.mem_cons_of_mem _ hy)) (acc ++ dataL (numB v))
  rw [ls] at h2
  show (dataTs l (acc ++ dataL (numB v))).size ≤ _
  simp only [List.length_cons]; omega
theorem dataT_f (l : List Int) (h : ∀ v ∈ l, I64 v) (acc : ByteArray) (hs : acc.size + 28 * l.length ≤ 1000000000) : dataT l acc = some (dataTs l acc) := by
 induction l generalizing acc with
 | nil => rfl
 | cons v l ih =>
  have h1 := dataL_size (h v List.mem_cons_self)
  simp only [List.length_cons] at hs
  rw [dataT, itoa_f v (h v List.mem_cons_self), Option.bind_some]
  unfold wrB
  rw [if_pos (by omega), Option.bind_some, ih (fun y hy => h y (List.mem_cons_of_mem _ hy)) _ (by rw [ls]; omega)]
  rfl
theorem l0_data (code data : List Int) (e : Int) (hd : ∀ v ∈ data, I64 v) (hdl : data.length ≤ 100000) : ∀ (n i kk : Nat) (acc : ByteArray), i + n = data.length → n + 60 ≤ kk → acc.size + 28 * n ≤ 1000000000 →
  ∃ k2, kk = k2 + n + 1 ∧ cupelref20_Print.l0 kk acc (i : Int) code data e = cupelref20_Print.l1 k2 (dataTs (data.drop i) acc) 0 code data e := by
 intro n
 induction n with
 | zero =>
  intro i kk acc h hk hs
  refine ⟨kk - 1, by omega, ?_⟩
  obtain ⟨kk, rfl⟩ : ∃ z, kk = z + 1 := ⟨kk - 1, by omega⟩
  rw [cupelref20_Print.l0, if_neg (by omega), List.drop_of_length_le (by omega)]; rfl
 | succ n ih =>
  intro i kk acc h hk hs
  obtain ⟨kk, rfl⟩ : ∃ z, kk = z + 1 := ⟨kk - 1, by omega⟩
  have hi : i < data.length := by omega
  have hrd : rd data (i : Int) = data[i] := by unfold rd; simp [List.getD_eq_getElem?_getD, hi]
  have hv := hd _ (List.getElem_mem hi)
  have h1 := dataL_size hv
  have h2 := numB_len _ hv
  obtain ⟨k2, e1, e2⟩ := ih (i + 1) kk (acc ++ dataL (numB data[i])) (by omega) (by omega) (by rw [ls]; omega)
  refine ⟨k2, by omega, ?_⟩
  rw [cupelref20_Print.l0, if_pos (by omega), if_pos (by omega), if_pos (by omega), hrd, number_ge _ hv _ (by omega), Option.bind_some, if_pos (by rw [ls, bsz5]; omega), if_pos (by rw [ls, ls, bsz5]; omega), wrap_succ i (by omega), List.drop_eq_getElem_cons hi]
  rw [show acc ++ (⟨#[100, 97, 116, 97, 32]⟩ : ByteArray) ++ numB data[i] ++ (⟨#[59, 10]⟩ : ByteArray) = acc ++ dataL (numB data[i]) by unfold dataL; simp only [ByteArray.append_assoc]]
  exact e2
/-- the text of an image -/
def textP (e : Int) (data : List Int) (xs : List Item) : ByteArray := linesT xs (dataTs data (entryT (numB e)))
theorem check_items {k : Nat} {code data : List Int} {e : Int} (h : target_Check.f k code data e = some 0) : code.length ≤ 20000 ∧ data.length ≤ 20000 ∧ 0 ≤ e ∧ e ≤ (code.length : Int) ∧ ∃ xs, itemsF k code 0 = some xs ∧ AllOk xs := by
 unfold target_Check.f at h
 by_cases c1 : (code.length : Int) > 20000
 ·rw [if_pos c1] at h; cases h
 rw [if_neg c1] at h
 by_cases c2 : (data.length : Int) > 20000
 ·rw [if_pos c2] at h; cases h
 rw [if_neg c2] at h
 by_cases c3 : e < 0
 ·rw [if_pos c3] at h; cases h
 rw [if_neg c3] at h
 by_cases c4 : e > (code.length : Int)
 ·rw [if_pos c4] at h; cases h
 rw [if_neg c4] at h
 unfold target_Check.l at h
 obtain ⟨xs, hx, h⟩ := Option.bind_eq_some_iff.1 h
 refine ⟨by omega, by omega, by omega, by omega, xs, hx, fun x hm => ?_⟩
 have h := Option.some.inj h
 cases hf : xs.find? (fun x => x.2.2.2.2.2 != 0) with
 | none => have := List.find?_eq_none.1 hf x hm; simpa using this
 | some y =>
  rw [hf] at h
  have := List.find?_some hf
  simp only [bne_iff_ne, ne_eq] at this
  exact absurd h this
/-- Print of a valid image -/
theorem print_good {k : Nat} {code data : List Int} {e : Int} (h : target_Check.f k code data e = some 0) (hd : ∀ v ∈ data, I64 v) (hk : 3 ≤ k) (kk : Nat) (hkk : 50000 ≤ kk) :
  ∃ xs, itemsF k code 0 = some xs ∧ AllOk xs ∧ target_Print.f k code data e = some (textP e data xs, 0) ∧ (cupelref20_Check.f kk code data e = some 0 → cupelref20_Print.f kk code data e = some (textP e data xs, 0)) := by
 obtain ⟨hl, hdl, e0, e1, xs, hx, hok⟩ := check_items h
 obtain ⟨hf, hlen⟩ := items_fine code hl code.length k 0 xs (by omega) hx hok
 have he : I64 e := by unfold I64; omega
 have hn := numB_len e he
 have hen : (entryT (numB e)).size ≤ 29 := by unfold entryT; rw [ls, ls, bsz6, bsz2]; omega
 have hds := dataTs_size data hd (entryT (numB e))
 refine ⟨xs, hx, hok, ?_, fun hc => ?_⟩
 ·unfold target_Print.f et_Check.f
  rw [h, Option.bind_some, if_pos rfl, itoa_f e he, Option.bind_some]
  unfold wrB
  rw [if_pos (by show 0 + _ ≤ _; omega), Option.bind_some, show ByteArray.empty ++ entryT (numB e) = entryT (numB e) from ByteArray.empty_append, dataT_f data hd _ (by omega), Option.bind_some, hx, Option.bind_some, if_pos ⟨by omega, by omega, List.all_eq_true.2 fun x hm => (fine_ok (hf x hm) k hk).1⟩, outB_lines k hk xs hf]
  rfl
 ·unfold cupelref20_Print.f
  rw [hc, Option.bind_some, if_pos rfl, number_ge e he kk (by omega), Option.bind_some, if_pos (by omega), if_pos (by rw [ls, bsz6]; omega)]
  obtain ⟨k2, g1, g2⟩ := l0_data code data e hd (by omega) data.length 0 kk (entryT (numB e)) (by omega) (by omega) (by omega)
  have g3 := l1_lines code data e hl code.length k k2 0 xs (dataTs data (entryT (numB e))) (by omega) (by omega) hx hok (by omega) (by omega)
  exact g2.trans g3
end Go.Proofs.YtlaijeeeblcinaaDoor.A

/- The reference's ways, bare names, numbers and parts are the program's. -/
import Derived.Test.YtndennmpnomjnaaDoorPd
set_option linter.all false
set_option linter.unusedVariables false
namespace Go.Proofs.YtndennmpnomjnaaDoor.A
open Go.RowKit Go.Proofs.YtndennmpnomjnaaDoorW.PrintWords Go.Proofs.YtndennmpnomjnaaDoorW.PrintMore
/-! ### A text cut at its blanks -/
abbrev cutL (k : Nat) (l : List UInt8) : List (List UInt8) := Lib.splitK [32] 0 k l
def headApp (c : UInt8) : List (List UInt8) → List (List UInt8)
 | [] => [[c]]
 | x :: xs => (c :: x) :: xs
theorem pfx_ne {c : UInt8} {l : List UInt8} (h : c ≠ 32) : ([32] : List UInt8).isPrefixOf (c :: l) = false := by
 rw [List.isPrefixOf]
 simp [show ¬ (32 : UInt8) = c from fun e => h e.symm]
theorem cut_nil (k : Nat) : cutL k [] = [[]] := by
 cases k with
 | zero => rfl
 | succ k => rfl
theorem cut_blank (k : Nat) (l : List UInt8) : cutL (k + 1) (32 :: l) = [] :: cutL k l := by
 have e : Lib.index (32 :: l) [32] = 0 := by
  unfold Lib.index
  rw [if_pos (by simp [List.isPrefixOf])]
 show Lib.splitK [32] 0 (k + 1) (32 :: l) = _
 rw [Lib.splitK, e]
 rfl
theorem cut_char (c : UInt8) (hc : c ≠ 32) (k : Nat) (l : List UInt8) : cutL k (c :: l) = headApp c (cutL k l) := by
 cases k with
 | zero => rfl
 | succ k =>
  show Lib.splitK [32] 0 (k + 1) (c :: l) = headApp c (Lib.splitK [32] 0 (k + 1) l)
  have hg := Lib.index_ge l [32]
  have e : Lib.index (c :: l) [32] = if Lib.index l [32] == -1 then -1 else Lib.index l [32] + 1 := by
   rw [Lib.index, pfx_ne hc]
   simp
  rw [Lib.splitK, Lib.splitK, e]
  by_cases h : Lib.index l [32] = -1
  ·rw [h]
   rfl
  ·obtain ⟨n, hn⟩ : ∃ n : Nat, Lib.index l [32] = n := ⟨(Lib.index l [32]).toNat, by omega⟩
   rw [hn]
   have h1 : (((n : Nat) : Int) == -1) = false := by rw [beq_eq_false_iff_ne]; omega
   have h2 : (((n : Nat) : Int) + 1 == -1) = false := by rw [beq_eq_false_iff_ne]; omega
   simp only [h1, h2, Bool.false_eq_true, if_false, headApp]
   rw [show ((n : Int) + 1).toNat = n + 1 by omega, Int.toNat_natCast]
   simp only [Nat.add_zero, List.length_cons, List.length_nil, List.take_succ_cons, Nat.zero_add]
   congr 1
theorem cut_ne (k : Nat) (l : List UInt8) : cutL k l ≠ [] := by
 show Lib.splitK [32] 0 k l ≠ []
 cases k with
 | zero => simp [Lib.splitK]
 | succ k => unfold Lib.splitK; split <;> simp
/-- Is that a way? -/
def wayL : Bool → List UInt8 → Bool
 | b, [] => !b
 | b, c :: l => if c = 32 then (if b = true then false else wayL true l) else wayL false l
theorem way_cut : ∀ (l : List UInt8), (wayL true l = true ↔ [] ∉ cutL (l.count 32) l) ∧ (wayL false l = true ↔ [] ∉ (cutL (l.count 32) l).tail) := by
 intro l
 induction l with
 | nil => rw [List.count_nil, cut_nil]; simp [wayL]
 | cons c l ih =>
  by_cases hc : c = 32
  ·subst hc
   rw [List.count_cons_self, cut_blank]
   unfold wayL
   simp only [if_true]
   refine ⟨by simp, ?_⟩
   simp only [Bool.false_eq_true, if_false, List.tail_cons]
   exact ih.1
  ·rw [List.count_cons_of_ne hc, cut_char c hc]
   unfold wayL
   simp only [if_neg hc]
   obtain ⟨x, xs, e⟩ : ∃ x xs, cutL (l.count 32) l = x :: xs := by
    cases h : cutL (l.count 32) l with
    | nil => exact absurd h (cut_ne _ _)
    | cons x xs => exact ⟨x, xs, rfl⟩
   have i2 := ih.2
   rw [e] at i2 ⊢
   simp only [headApp, List.tail_cons] at i2 ⊢
   refine ⟨?_, i2⟩
   rw [i2]
   simp
/-- The bare name. -/
def g1 : List UInt8 → List UInt8
 | [] => []
 | c :: l => if c = 32 then [] else c :: g1 l
def g0 : List UInt8 → List UInt8
 | [] => []
 | c :: l => if c = 32 then c :: g1 l else c :: g0 l
theorem cut_head : ∀ (l : List UInt8) (k : Nat), 1 ≤ k → (cutL k l).take 1 = [g1 l] := by
 intro l
 induction l with
 | nil => intro k _; rw [cut_nil]; rfl
 | cons c l ih =>
  intro k hk
  by_cases hc : c = 32
  ·subst hc
   obtain ⟨k, rfl⟩ : ∃ z, k = z + 1 := ⟨k - 1, by omega⟩
   rw [cut_blank]
   simp [g1]
  ·rw [cut_char c hc]
   obtain ⟨x, xs, e⟩ : ∃ x xs, cutL k l = x :: xs := by
    cases h : cutL k l with
    | nil => exact absurd h (cut_ne _ _)
    | cons x xs => exact ⟨x, xs, rfl⟩
   have := ih k hk
   rw [e] at this ⊢
   simp only [headApp, List.take_succ_cons, List.take_zero] at this ⊢
   injection this with this _
   unfold g1
   rw [if_neg hc, this]
theorem cut_bare : ∀ (l : List UInt8) (k : Nat), 2 ≤ k → Lib.join ((cutL k l).take 2) [32] = g0 l := by
 intro l
 induction l with
 | nil => intro k _; rw [cut_nil]; rfl
 | cons c l ih =>
  intro k hk
  by_cases hc : c = 32
  ·subst hc
   obtain ⟨k, rfl⟩ : ∃ z, k = z + 1 := ⟨k - 1, by omega⟩
   rw [cut_blank, List.take_succ_cons, cut_head l k (by omega)]
   simp [g0, Lib.join, List.intercalate, List.intersperse]
  ·rw [cut_char c hc]
   obtain ⟨x, xs, e⟩ : ∃ x xs, cutL k l = x :: xs := by
    cases h : cutL k l with
    | nil => exact absurd h (cut_ne _ _)
    | cons x xs => exact ⟨x, xs, rfl⟩
   have := ih k hk
   rw [e] at this ⊢
   simp only [headApp, List.take_succ_cons] at this ⊢
   unfold g0
   rw [if_neg hc, ← this, Lib.join_cons, Lib.join_cons]
   rfl
theorem cut_bare_all (l : List UInt8) : Lib.join ((cutL (min 3 (l.length + 1) - 1) l).take 2) [32] = g0 l := by
 by_cases h : 2 ≤ l.length
 ·exact cut_bare l _ (by omega)
 ·match l, h with
  | [], _ => rfl
  | [c], _ =>
   show Lib.join ((cutL 1 [c]).take 2) [32] = _
   by_cases hc : c = 32
   ·subst hc; rfl
   ·rw [cut_char c hc, cut_nil]
    unfold g0
    rw [if_neg hc]
    rfl
  | _ :: _ :: _, h => simp at h
/-! ### The texts of the program -/
theorem bareB_eq (s : ByteArray) : bareB s = ⟨(g0 s.data.toList).toArray⟩ := by
 unfold bareB bareL
 rw [List.map_take, Lib.splitB_data]
 congr 2
 have := cut_bare_all s.data.toList
 rw [show s.data.toList.length = s.size from rfl] at this
 exact this
theorem oddW_eq (s : ByteArray) : wayL true s.data.toList = !oddW s := by
 have h1 := (way_cut s.data.toList).1
 have h2 : oddW s = true ↔ [] ∈ cutL (s.data.toList.count 32) s.data.toList := by
  unfold oddW
  rw [Lib.containsS_iff]
  have e := Lib.splitB_data blankB 0 (Lib.countB s blankB) s
  have e2 : Lib.countB s blankB = s.data.toList.count 32 := Lib.count_one 32 s.data.toList
  show _ ↔ [] ∈ Lib.splitK [32] 0 (s.data.toList.count 32) s.data.toList
  rw [← e2, show ([32] : List UInt8) = blankB.data.toList from rfl, ← e, List.mem_map]
  constructor
  ·intro h; exact ⟨_, h, rfl⟩
  ·rintro ⟨x, hx, he⟩
   have : x = ⟨#[]⟩ := by
    cases x with
    | mk d => congr 1; exact Array.ext' he
   rw [← this]; exact hx
 cases hw : wayL true s.data.toList with
 | true =>
  have := h1.1 hw
  cases ho : oddW s with
  | false => rfl
  | true => exact absurd (h2.1 ho) this
 | false =>
  cases ho : oddW s with
  | true => rfl
  | false =>
   have : wayL true s.data.toList = true := h1.2 (fun h => by rw [h2.2 h] at ho; cases ho)
   rw [this] at hw; cases hw
/-! ### The reference's loops over a text -/
theorem bt_drop {s : ByteArray} {i : Nat} (h : i < s.size) : ∃ c : UInt8, s.data.toList.drop i = c :: s.data.toList.drop (i + 1) ∧ bt s (i : Int) = (c.toNat : Int) := by
 have h' : i < s.data.toList.length := h
 refine ⟨s.data.toList[i], List.drop_eq_getElem_cons h', ?_⟩
 unfold bt
 rw [Int.toNat_natCast, dif_pos h]
 rfl
theorem is32 (c : UInt8) : ((c.toNat : Int) = 32) ↔ c = 32 := by
 constructor
 ·intro h
  have : c.toNat = (32 : UInt8).toNat := by
   rw [show (32 : UInt8).toNat = 32 from rfl]; omega
  exact UInt8.toNat_inj.1 this
 ·rintro rfl; rfl
theorem take_step {s : ByteArray} {i : Nat} {c : UInt8} {l : List UInt8} (h : s.data.toList.drop i = c :: l) : s.data.toList.take (i + 1) = s.data.toList.take i ++ [c] := by
 have hlt : i < s.data.toList.length := by
  rcases Nat.lt_or_ge i s.data.toList.length with h' | h'
  ·exact h'
  ·rw [List.drop_eq_nil_of_le h'] at h; cases h
 rw [List.drop_eq_getElem_cons hlt] at h
 injection h with h1 _
 rw [← h1, List.take_succ_eq_append_getElem hlt]
theorem ext_take (s : ByteArray) (i : Nat) : s.extract 0 i = ⟨(s.data.toList.take i).toArray⟩ := by
 have := Lib.extract_from_zero s i
 cases h : s.extract 0 i with
 | mk d =>
  rw [h] at this
  congr 1
  exact Array.ext' this
theorem w01 : wrap64 (0 + 1) = 1 := wrap64_small _ (by omega) (by omega)
theorem w11 : wrap64 (1 + 1) = 2 := wrap64_small _ (by omega) (by omega)
theorem bare_loop1 (s : ByteArray) (hs : s.size < 4611686018427387904) : ∀ (n i : Nat), s.size - i = n → i ≤ s.size → Ev (fun k => cupelref35_Bare.l0 k s 1 (i : Int)) ⟨(s.data.toList.take i ++ g1 (s.data.toList.drop i)).toArray⟩ := by
 intro n
 induction n with
 | zero =>
  intro i hn hi
  obtain rfl : i = s.size := by omega
  have e : s.data.toList.drop s.size = [] := List.drop_eq_nil_of_le (Nat.le_refl _)
  have e2 : s.data.toList.take s.size = s.data.toList := List.take_of_length_le (Nat.le_refl _)
  rw [e, e2]
  refine ev_step (g := fun _ => some s) (fun k => ?_) ?_
  ·simp only [cupelref35_Bare.l0]
   rw [if_neg (by omega)]
  ·rw [show (⟨(s.data.toList ++ g1 []).toArray⟩ : ByteArray) = s by cases s; simp [g1]]
   exact ev_const _
 | succ n ih =>
  intro i hn hi
  obtain ⟨c, hd, hb⟩ := bt_drop (show i < s.size by omega)
  have hw : wrap64 ((i : Int) + 1) = ((i + 1 : Nat) : Int) := by rw [w64 (by omega) (by omega)]; rfl
  rw [hd]
  unfold g1
  by_cases hc : c = 32
  ·have h32 : (c.toNat : Int) = 32 := (is32 c).2 hc
   rw [if_pos hc, List.append_nil, ← ext_take]
   refine ev_step (g := fun _ => some (s.extract 0 i)) (fun k => ?_) (ev_const _)
   simp only [cupelref35_Bare.l0]
   rw [if_pos (by omega), if_pos (by omega), hb, if_pos h32, w11, if_pos rfl, if_pos (by omega), Int.toNat_natCast]
  ·have h32 : ¬ (c.toNat : Int) = 32 := fun e => hc ((is32 c).1 e)
   rw [if_neg hc]
   refine ev_step (g := fun k => cupelref35_Bare.l0 k s 1 ((i + 1 : Nat) : Int)) (fun k => ?_) ?_
   ·simp only [cupelref35_Bare.l0]
    rw [if_pos (by omega), if_pos (by omega), hb, if_neg h32, if_neg (by decide), hw]
   ·have := ih (i + 1) (by omega) (by omega)
    rw [take_step hd, List.append_assoc] at this
    exact this
theorem bare_loop0 (s : ByteArray) (hs : s.size < 4611686018427387904) : ∀ (n i : Nat), s.size - i = n → i ≤ s.size → Ev (fun k => cupelref35_Bare.l0 k s 0 (i : Int)) ⟨(s.data.toList.take i ++ g0 (s.data.toList.drop i)).toArray⟩ := by
 intro n
 induction n with
 | zero =>
  intro i hn hi
  obtain rfl : i = s.size := by omega
  have e : s.data.toList.drop s.size = [] := List.drop_eq_nil_of_le (Nat.le_refl _)
  have e2 : s.data.toList.take s.size = s.data.toList := List.take_of_length_le (Nat.le_refl _)
  rw [e, e2]
  refine ev_step (g := fun _ => some s) (fun k => ?_) ?_
  ·simp only [cupelref35_Bare.l0]
   rw [if_neg (by omega)]
  ·rw [show (⟨(s.data.toList ++ g0 []).toArray⟩ : ByteArray) = s by cases s; simp [g0]]
   exact ev_const _
 | succ n ih =>
  intro i hn hi
  obtain ⟨c, hd, hb⟩ := bt_drop (show i < s.size by omega)
  have hw : wrap64 ((i : Int) + 1) = ((i + 1 : Nat) : Int) := by rw [w64 (by omega) (by omega)]; rfl
  rw [hd]
  unfold g0
  by_cases hc : c = 32
  ·have h32 : (c.toNat : Int) = 32 := (is32 c).2 hc
   rw [if_pos hc]
   refine ev_step (g := fun k => cupelref35_Bare.l0 k s 1 ((i + 1 : Nat) : Int)) (fun k => ?_) ?_
   ·simp only [cupelref35_Bare.l0]
    rw [if_pos (by omega), if_pos (by omega), hb, if_pos h32, w01, if_neg (by decide), hw]
   ·have := bare_loop1 s hs _ (i + 1) rfl (by omega)
    rw [take_step hd, List.append_assoc] at this
    exact this
  ·have h32 : ¬ (c.toNat : Int) = 32 := fun e => hc ((is32 c).1 e)
   rw [if_neg hc]
   refine ev_step (g := fun k => cupelref35_Bare.l0 k s 0 ((i + 1 : Nat) : Int)) (fun k => ?_) ?_
   ·simp only [cupelref35_Bare.l0]
    rw [if_pos (by omega), if_pos (by omega), hb, if_neg h32, if_neg (by decide), hw]
   ·have := ih (i + 1) (by omega) (by omega)
    rw [take_step hd, List.append_assoc] at this
    exact this
theorem bare_ev (s : ByteArray) (hs : s.size < 4611686018427387904) : Ev (fun k => cupelref35_Bare.f k s) (bareB s) := by
 rw [bareB_eq]
 have := bare_loop0 s hs _ 0 rfl (Nat.zero_le _)
 rw [List.drop_zero, List.take_zero, List.nil_append] at this
 exact this
end Go.Proofs.YtndennmpnomjnaaDoor.A

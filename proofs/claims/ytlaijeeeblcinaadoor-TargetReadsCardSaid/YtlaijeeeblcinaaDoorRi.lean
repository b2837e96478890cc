/- The reference's reader in plain Lean: its steps against the plain reader of Par: a good state holds the token, a bad one the place of the first wrong token. -/
import Derived.Test.YtlaijeeeblcinaaDoorRs
import Derived.Test.YtlaijeeeblcinaaDoorAx10
import Derived.Test.YtlaijeeeblcinaaDoorRw
set_option linter.all false
set_option maxRecDepth 100000
namespace Go.Proofs.YtlaijeeeblcinaaDoor.A
open Go.RowKit Go.Lib Go.Proofs.YtlaijeeeblcinaaDoorW.PrintWords
abbrev RS := ByteArray × Int × Int × Int × ByteArray × Int × Bool × Int
def stG (s : ByteArray) (t : Tok) : RS := (s, (rt t).1, (rt t).2.1, (rt t).2.2.1, (rt t).2.2.2.1, (rt t).2.2.2.2, false, 0)
def IsB (p : Int) (q : RS) : Prop := q.2.2.2.2.2.2.1 = true ∧ q.2.2.2.2.2.2.2 = p
def StE (s : ByteArray) (r : Except Int Tok) (q : RS) : Prop := match r with
 | .ok t => q = stG s t ∧ TokOk s t
 | .error p => IsB p q
def VE {α : Type} (s : ByteArray) (r : Except Int (α × Tok)) (v : α) (q : RS) : Prop := match r with
 | .ok a => v = a.1 ∧ q = stG s a.2 ∧ TokOk s a.2
 | .error p => IsB p q
theorem VE.st {α : Type} {s : ByteArray} {r : Except Int (α × Tok)} {v : α} {q : RS} (h : VE s r v q) : StE s (r.bind fun a => .ok a.2) q := by
 cases r with
 | ok a => exact h.2
 | error p => exact h
theorem rt_at (t : Tok) : (rt t).1 = t.at_ := by unfold rt; split; rfl; split; rfl; split <;> rfl
theorem rt_end (t : Tok) : (rt t).2.1 = t.end_ := by unfold rt; split; rfl; split; rfl; split <;> rfl
theorem rt_no33 (t : Tok) : (rt t).2.2.1 ≠ 33 := by unfold rt; split; simp; split; simp; split <;> simp
theorem rt_sign (t : Tok) (h0 : ¬ (t.sort = 0 ∨ t.sort = 48)) : ((rt t).2.2.1 = 97 ∨ ((rt t).2.2.1 ≠ 97 ∧ (rt t).2.2.1 = 115)) ∧ (rt t).2.2.2.1 = t.text := by
 unfold rt
 rw [if_neg (fun e => h0 (.inl e))]
 split
 ·exact ⟨.inl rfl, rfl⟩
 ·rw [if_neg (fun e => h0 (.inr e))]; exact ⟨.inr ⟨by simp, rfl⟩, rfl⟩
theorem rt_none (t : Tok) (h0 : t.sort = 0 ∨ t.sort = 48) : (rt t).2.2.1 ≠ 97 ∧ (rt t).2.2.1 ≠ 115 := by
 unfold rt
 rcases h0 with h0 | h0
 ·rw [if_pos h0]; exact ⟨by simp, by simp⟩
 ·rw [if_neg (by omega), if_neg (by omega), if_pos h0]; exact ⟨by simp, by simp⟩
theorem rt_num (t : Tok) (h0 : t.sort = 48) : (rt t).2.2.1 = 48 ∧ (rt t).2.2.2.2 = t.val := by
 unfold rt
 rw [if_neg (by omega), if_neg (by omega), if_pos h0]; exact ⟨rfl, rfl⟩
theorem rt_nonum (t : Tok) (h0 : t.sort ≠ 48) : (rt t).2.2.1 ≠ 48 := by
 unfold rt
 rw [if_neg h0]
 split
 ·simp
 ·split <;> simp
theorem rt_word (t : Tok) : ((rt t).2.2.1 = 97 ↔ t.sort = 97) := by
 unfold rt
 split
 ·rename_i h; constructor
  ·intro e; exact absurd e (by simp)
  ·intro e; omega
 ·split
  ·rename_i h; exact ⟨fun _ => h, fun _ => rfl⟩
  ·rename_i h
   split
   ·exact ⟨fun e => absurd e (by simp), fun e => absurd e h⟩
   ·exact ⟨fun e => absurd e (by simp), fun e => absurd e h⟩
theorem tl_inj {a b : ByteArray} : a.toList = b.toList ↔ a = b := by
 constructor
 ·intro h
  rw [Go.ByteArray.toList_eq, Go.ByteArray.toList_eq] at h
  cases a; cases b; congr 1; exact Array.toList_inj.1 h
 ·intro h; rw [h]
def wrongR (q : RS) : Option RS := cupelref20_reader_wrong.f q.1 q.2.1 q.2.2.1 q.2.2.2.1 q.2.2.2.2.1 q.2.2.2.2.2.1 q.2.2.2.2.2.2.1 q.2.2.2.2.2.2.2
def nextR (k : Nat) (q : RS) : Option RS := cupelref20_reader_next.f k q.1 q.2.1 q.2.2.1 q.2.2.2.1 q.2.2.2.2.1 q.2.2.2.2.2.1 q.2.2.2.2.2.2.1 q.2.2.2.2.2.2.2
def takeR (k : Nat) (q : RS) (x : ByteArray) : Option (Bool × RS) := cupelref20_reader_take.f k q.1 q.2.1 q.2.2.1 q.2.2.2.1 q.2.2.2.2.1 q.2.2.2.2.2.1 q.2.2.2.2.2.2.1 q.2.2.2.2.2.2.2 x
def wantR (k : Nat) (q : RS) (x : ByteArray) : Option RS := cupelref20_reader_want.f k q.1 q.2.1 q.2.2.1 q.2.2.2.1 q.2.2.2.2.1 q.2.2.2.2.2.1 q.2.2.2.2.2.2.1 q.2.2.2.2.2.2.2 x
def numberR (k : Nat) (q : RS) (x : Int) : Option (Int × RS) := cupelref20_reader_number.f k q.1 q.2.1 q.2.2.1 q.2.2.2.1 q.2.2.2.2.1 q.2.2.2.2.2.1 q.2.2.2.2.2.2.1 q.2.2.2.2.2.2.2 x
def registerR (k : Nat) (q : RS) : Option (Int × RS) := cupelref20_reader_register.f k q.1 q.2.1 q.2.2.1 q.2.2.2.1 q.2.2.2.2.1 q.2.2.2.2.2.1 q.2.2.2.2.2.2.1 q.2.2.2.2.2.2.2
def commaR (k : Nat) (q : RS) (m : Bool) : Option RS := cupelref20_reader_comma.f k q.1 q.2.1 q.2.2.1 q.2.2.2.1 q.2.2.2.2.1 q.2.2.2.2.2.1 q.2.2.2.2.2.2.1 q.2.2.2.2.2.2.2 m
theorem wrong_eq (q : RS) : wrongR q = if q.2.2.2.2.2.2.1 = true then some q else some (q.1, q.2.1, q.2.2.1, q.2.2.2.1, q.2.2.2.2.1, q.2.2.2.2.2.1, true, q.2.1) := rfl
theorem take_eq (k : Nat) (q : RS) (x : ByteArray) : takeR k q x = if q.2.2.2.2.2.2.1 = true then some (false, q) else if q.2.2.2.1 = 97 then (if q.2.2.2.2.1.toList = x.toList then (nextR k q).bind fun b => some (true, b) else some (false, q))
  else if q.2.2.2.1 = 115 then (if q.2.2.2.2.1.toList = x.toList then (nextR k q).bind fun b => some (true, b) else some (false, q)) else some (false, q) := rfl
theorem want_eq (k : Nat) (q : RS) (x : ByteArray) : wantR k q x = (takeR k q x).bind fun b => if b.1 = true then some b.2 else (wrongR b.2).bind fun c => some c := rfl
theorem comma_eq (k : Nat) (q : RS) (m : Bool) : commaR k q m = if m = true then (wantR k q ⟨#[44]⟩).bind fun c => some c else some q := rfl
theorem wrong_bad {p : Int} {q : RS} (h : IsB p q) : wrongR q = some q := by rw [wrong_eq, if_pos h.1]
theorem wrong_good (s : ByteArray) (t : Tok) : ∃ q, wrongR (stG s t) = some q ∧ IsB t.at_ q := by
 rw [wrong_eq, if_neg (show ¬ (stG s t).2.2.2.2.2.2.1 = true from Bool.false_ne_true)]
 exact ⟨_, rfl, rfl, rt_at t⟩
theorem next_at (s : ByteArray) (hs : s.size ≤ 600000) (e : Nat) (he : e ≤ s.size) (t : Tok) (hte : t.end_ = e) (a c : Int) (x : ByteArray) (v z : Int) (k : Nat) (hk : 4 * s.size + 10 ≤ k) :
  ∃ q, nextR k (s, a, (e : Int), c, x, v, false, z) = some q ∧ (z = 0 → TokOk s t → StE s (nextP s t) q) := by
 have hr := read_f s hs e he k hk
 unfold nextR cupelref20_reader_next.f
 rw [if_neg (show ¬ (false = true) by decide)]
 dsimp only
 rw [hr, Option.bind_some]
 unfold rtO nextP
 rw [hte]
 cases ht : tokP s e with
 | some t' =>
  dsimp only
  rw [if_neg (rt_no33 t')]
  refine ⟨_, rfl, fun hz hT => ⟨?_, ?_⟩⟩
  ·rw [hz]; rfl
  ·exact tokP_ok he ht
 | none =>
  dsimp only
  rw [if_pos rfl]
  refine ⟨_, rfl, fun hz hT => ?_⟩
  exact ⟨rfl, rfl⟩
theorem next_good (s : ByteArray) (hs : s.size ≤ 600000) (t : Tok) (hT : TokOk s t) (k : Nat) (hk : 4 * s.size + 10 ≤ k) : ∃ q, nextR k (stG s t) = some q ∧ StE s (nextP s t) q := by
 obtain ⟨q, h1, h2⟩ := next_at s hs t.end_ hT.1 t rfl (rt t).1 (rt t).2.2.1 (rt t).2.2.2.1 (rt t).2.2.2.2 0 k hk
 refine ⟨q, ?_, h2 rfl hT⟩
 rw [← h1]; unfold stG; rw [rt_end]
theorem take_bad {p : Int} {q : RS} (h : IsB p q) (k : Nat) (x : ByteArray) : takeR k q x = some (false, q) := by rw [take_eq, if_pos h.1]
theorem take_no (s : ByteArray) (t : Tok) (k : Nat) (x : ByteArray) (h : t.sort = 0 ∨ t.sort = 48 ∨ t.text ≠ x) : takeR k (stG s t) x = some (false, stG s t) := by
 rw [take_eq, if_neg (show ¬ (stG s t).2.2.2.2.2.2.1 = true from Bool.false_ne_true)]
 show (if (rt t).2.2.1 = 97 then (if (rt t).2.2.2.1.toList = x.toList then _ else _) else if (rt t).2.2.1 = 115 then (if (rt t).2.2.2.1.toList = x.toList then _ else _) else _) = _
 by_cases h0 : t.sort = 0 ∨ t.sort = 48
 ·have := rt_none t h0
  rw [if_neg this.1, if_neg this.2]
 ·have hx : t.text ≠ x := by rcases h with h | h | h; exact absurd (.inl h) h0; exact absurd (.inr h) h0; exact h
  have hs := rt_sign t h0
  rw [hs.2, if_neg (fun e => hx (tl_inj.1 e))]
  rcases hs.1 with h1 | ⟨h1, h2⟩
  ·rw [if_pos h1]
  ·rw [if_neg h1, if_pos h2]
theorem take_yes (s : ByteArray) (hs : s.size ≤ 600000) (t : Tok) (hT : TokOk s t) (k : Nat) (hk : 4 * s.size + 10 ≤ k) (x : ByteArray) (h : ¬ (t.sort = 0 ∨ t.sort = 48 ∨ t.text ≠ x)) :
  ∃ q, takeR k (stG s t) x = some (true, q) ∧ StE s (nextP s t) q := by
 obtain ⟨q, h1, h2⟩ := next_good s hs t hT k hk
 refine ⟨q, ?_, h2⟩
 rw [take_eq, if_neg (show ¬ (stG s t).2.2.2.2.2.2.1 = true from Bool.false_ne_true), h1]
 show (if (rt t).2.2.1 = 97 then (if (rt t).2.2.2.1.toList = x.toList then _ else _) else if (rt t).2.2.1 = 115 then (if (rt t).2.2.2.1.toList = x.toList then _ else _) else _) = _
 have hx : t.text = x := Decidable.byContradiction fun e => h (.inr (.inr e))
 have hs := rt_sign t (fun e => h (e.elim .inl (fun e => .inr (.inl e))))
 rw [hs.2, if_pos (tl_inj.2 hx)]
 rcases hs.1 with h1 | ⟨h1, h2⟩
 ·rw [if_pos h1]; rfl
 ·rw [if_neg h1, if_pos h2]; rfl
theorem want_any {s : ByteArray} (hs : s.size ≤ 600000) {r : Except Int Tok} {q : RS} (h : StE s r q) (k : Nat) (hk : 4 * s.size + 10 ≤ k) (x : ByteArray) : ∃ q', wantR k q x = some q' ∧ StE s (r.bind (wantP s x)) q' := by
 rw [want_eq]
 cases r with
 | error p =>
  refine ⟨q, ?_, h⟩
  rw [take_bad h, Option.bind_some, if_neg (by simp)]
  dsimp only
  rw [wrong_bad h]; rfl
 | ok t =>
  obtain ⟨rfl, hT⟩ := h
  by_cases c : t.sort = 0 ∨ t.sort = 48 ∨ t.text ≠ x
  ·obtain ⟨q', h1, h2⟩ := wrong_good s t
   refine ⟨q', ?_, ?_⟩
   ·rw [take_no s t k x c, Option.bind_some, if_neg (by simp)]
    dsimp only
    rw [h1]; rfl
   ·show StE s (wantP s x t) q'
    unfold wantP; rw [if_pos c]; exact h2
  ·obtain ⟨q', h1, h2⟩ := take_yes s hs t hT k hk x c
   refine ⟨q', ?_, ?_⟩
   ·rw [h1, Option.bind_some, if_pos rfl]
   ·show StE s (wantP s x t) q'
    unfold wantP; rw [if_neg c]; exact h2
theorem imm_f (k v : Int) : cupelref20_immediate.f k v = some (fitsP k v) := by
 unfold cupelref20_immediate.f fitsP
 by_cases c0 : k = 0
 ·rw [if_pos c0, if_pos c0]
 rw [if_neg c0, if_neg c0]
 by_cases c1 : k = 1
 ·rw [if_pos c1, if_pos c1]
  by_cases c : v ≥ -2147483648
  ·rw [if_pos c, decide_eq_true (show (-2147483648 : Int) ≤ v from c), Bool.true_and]
   congr 1
   rw [decide_eq_decide]; omega
  ·rw [if_neg c, decide_eq_false (show ¬ (-2147483648 : Int) ≤ v from c)]; rfl
 rw [if_neg c1, if_neg c1]
 by_cases c3 : k = 3
 ·rw [if_pos c3, if_pos c3]
  by_cases c : v ≥ 0
  ·rw [if_pos c, decide_eq_true (show (0 : Int) ≤ v from c)]; rfl
  ·rw [if_neg c, decide_eq_false (show ¬ (0 : Int) ≤ v from c)]; rfl
 rw [if_neg c3, if_neg c3]
theorem num_j (k : Nat) (v : Int) (f : Bool) (q : RS) : cupelref20_reader_number.j0 (k + 1) v f q.1 q.2.1 q.2.2.1 q.2.2.2.1 q.2.2.2.2.1 q.2.2.2.2.2.1 q.2.2.2.2.2.2.1 q.2.2.2.2.2.2.2 = if f = true then (wrongR q).bind fun b => some (0, b) else (nextR k q).bind fun b => some (v, b) := by
 simp only [cupelref20_reader_number.j0]; rfl
theorem number_any {s : ByteArray} (hs : s.size ≤ 600000) {r : Except Int Tok} {q : RS} (h : StE s r q) (k : Nat) (hk : 4 * s.size + 11 ≤ k) (x : Int) : ∃ v q', numberR k q x = some (v, q') ∧ VE s (r.bind (numberP s x)) v q' := by
 obtain ⟨k, rfl⟩ : ∃ z, k = z + 1 := ⟨k - 1, by omega⟩
 unfold numberR cupelref20_reader_number.f
 rw [imm_f, Option.bind_some, num_j, num_j]
 cases r with
 | error p =>
  rw [if_pos h.1, if_pos rfl, wrong_bad h]
  exact ⟨0, q, rfl, h⟩
 | ok t =>
  obtain ⟨rfl, hT⟩ := h
  rw [if_neg (show ¬ (stG s t).2.2.2.2.2.2.1 = true from Bool.false_ne_true)]
  obtain ⟨qw, hw1, hw2⟩ := wrong_good s t
  obtain ⟨qn, hn1, hn2⟩ := next_good s hs t hT k (by omega)
  show ∃ v q', _ ∧ VE s (numberP s x t) v q'
  unfold numberP
  by_cases c : t.sort = 48
  ·have hr := rt_num t c
   rw [if_pos (show (stG s t).2.2.2.1 = 48 from hr.1)]
   have hv : (stG s t).2.2.2.2.2.1 = t.val := hr.2
   rw [hv]
   by_cases c2 : fitsP x t.val = true
   ·rw [c2, if_neg (show ¬ ((!true) = true) by decide), hn1, if_neg (by simp [c])]
    refine ⟨t.val, qn, rfl, ?_⟩
    revert hn2
    cases nextP s t with
    | error p => exact fun h => h
    | ok t' => exact fun h => ⟨rfl, h.1, h.2⟩
   ·have c3 : fitsP x t.val = false := by simpa using c2
    rw [c3, if_pos (show (!false) = true from rfl), hw1, if_pos (.inr rfl)]
    exact ⟨0, qw, rfl, hw2⟩
  ·rw [if_neg (show ¬ (stG s t).2.2.2.1 = 48 from rt_nonum t c), if_pos rfl, hw1, if_pos (.inl c)]
   exact ⟨0, qw, rfl, hw2⟩
theorem reg_j (k : Nat) (v : ByteArray) (f : Bool) (q : RS) : cupelref20_reader_register.j0 (k + 1) v f q.1 q.2.1 q.2.2.1 q.2.2.2.1 q.2.2.2.2.1 q.2.2.2.2.2.1 q.2.2.2.2.2.2.1 q.2.2.2.2.2.2.2 = if f = true then (wrongR q).bind fun b => some (0, b) else (nextR k q).bind fun b => if 1 < (v.size : Int) then some ((bt v 1 - 48) % 256, b) else none := by
 simp only [cupelref20_reader_register.j0]; rfl
theorem register_any {s : ByteArray} (hs : s.size ≤ 600000) {r : Except Int Tok} {q : RS} (h : StE s r q) (k : Nat) (hk : 4 * s.size + 11 ≤ k) : ∃ v q', registerR k q = some (v, q') ∧ VE s (r.bind (registerP s)) v q' := by
 obtain ⟨k, rfl⟩ : ∃ z, k = z + 1 := ⟨k - 1, by omega⟩
 unfold registerR cupelref20_reader_register.f
 rw [digit_f, Option.bind_some, reg_j, reg_j]
 cases r with
 | error p =>
  rw [if_pos h.1, if_pos rfl, wrong_bad h]
  exact ⟨0, q, rfl, h⟩
 | ok t =>
  obtain ⟨rfl, hT⟩ := h
  rw [if_neg (show ¬ (stG s t).2.2.2.2.2.2.1 = true from Bool.false_ne_true)]
  obtain ⟨qw, hw1, hw2⟩ := wrong_good s t
  obtain ⟨qn, hn1, hn2⟩ := next_good s hs t hT k (by omega)
  show ∃ v q', _ ∧ VE s (registerP s t) v q'
  unfold registerP
  rw [if_pos rfl, hw1, hn1, Option.bind_some, Option.bind_some]
  by_cases c : t.sort = 97
  ·rw [if_pos (show (stG s t).2.2.2.1 = 97 from (rt_word t).2 c)]
   have hx : (stG s t).2.2.2.2.1 = t.text := (rt_sign t (by omega)).2
   rw [hx]
   unfold isRegP
   rw [show (t.sort == 97) = true by simp [c], Bool.true_and]
   by_cases c2 : t.text.size = 2
   ·rw [if_pos (by omega), if_pos (by omega), show (t.text.size == 2) = true by simp [c2], Bool.true_and]
    by_cases c3 : bt t.text 0 = 114
    ·rw [if_pos c3, if_pos (by omega), show (bt t.text 0 == 114) = true by simp [c3], Bool.true_and]
     by_cases c4 : isDig (bt t.text 1) = true
     ·rw [c4, if_neg (show ¬ ((!true) = true) by decide), if_pos (by omega), if_neg (by decide)]
      have hd : (bt t.text 1 - 48) % 256 = bt t.text 1 - 48 := by
       unfold isDig at c4; simp only [Bool.and_eq_true, decide_eq_true_eq] at c4; omega
      rw [hd]
      refine ⟨_, qn, rfl, ?_⟩
      revert hn2
      cases nextP s t with
      | error p => exact fun h => h
      | ok t' => exact fun h => ⟨rfl, h.1, h.2⟩
     ·have c5 : isDig (bt t.text 1) = false := by simpa using c4
      rw [c5, if_pos (show (!false) = true from rfl), if_pos rfl]
      exact ⟨0, qw, rfl, hw2⟩
    ·rw [if_neg c3, show (bt t.text 0 == 114) = false by simpa using c3, Bool.false_and, if_pos rfl]
     exact ⟨0, qw, rfl, hw2⟩
   ·rw [if_neg (by omega), show (t.text.size == 2) = false by simpa using c2, Bool.false_and, Bool.false_and, if_pos rfl]
    exact ⟨0, qw, rfl, hw2⟩
  ·unfold isRegP
   rw [if_neg (show ¬ (stG s t).2.2.2.1 = 97 from fun e => c ((rt_word t).1 e)), show (t.sort == 97) = false by simpa using c, Bool.false_and, Bool.false_and, Bool.false_and, if_pos rfl]
   exact ⟨0, qw, rfl, hw2⟩
theorem comma_any {s : ByteArray} (hs : s.size ≤ 600000) {r : Except Int Tok} {q : RS} (h : StE s r q) (k : Nat) (hk : 4 * s.size + 10 ≤ k) (m : Bool) : ∃ q', commaR k q m = some q' ∧ StE s (r.bind (commaP s (!m))) q' := by
 rw [comma_eq]
 cases m with
 | true =>
  obtain ⟨q', h1, h2⟩ := want_any hs h k hk ⟨#[44]⟩
  rw [if_pos rfl, h1]
  refine ⟨q', rfl, ?_⟩
  cases r <;> exact h2
 | false =>
  refine ⟨q, rfl, ?_⟩
  cases r <;> exact h
end Go.Proofs.YtlaijeeeblcinaaDoor.A
set_option linter.all false
set_option maxRecDepth 100000
namespace Go.Proofs.YtlaijeeeblcinaaDoor.A
open Go.RowKit Go.Lib Go.Proofs.YtlaijeeeblcinaaDoorW.PrintWords
abbrev RM := Int × Int × Int × Int × Int × RS
def placeR (k : Nat) (q : RS) (m0 m1 m2 m3 m4 : Int) : Option RM := cupelref20_reader_place.f k q.1 q.2.1 q.2.2.1 q.2.2.2.1 q.2.2.2.2.1 q.2.2.2.2.2.1 q.2.2.2.2.2.2.1 q.2.2.2.2.2.2.2 m0 m1 m2 m3 m4
theorem place_eq (k : Nat) (q : RS) (m0 m1 m2 m3 m4 : Int) : placeR k q m0 m1 m2 m3 m4 = (numberR k q 1).bind fun a => (wantR k a.2 ⟨#[40]⟩).bind fun b => (registerR k b).bind fun c => (wantR k c.2 ⟨#[41]⟩).bind fun d => some (m0, m1, c.1, m3, a.1, d) := rfl
theorem place_any {s : ByteArray} (hs : s.size ≤ 600000) {r : Except Int Tok} {q : RS} (h : StE s r q) (k : Nat) (hk : 4 * s.size + 11 ≤ k) (m0 m1 m2 m3 m4 : Int) :
  ∃ (v : Int × Int) (q' : RS), placeR k q m0 m1 m2 m3 m4 = some (m0, m1, v.2, m3, v.1, q') ∧ VE s (r.bind (placeP s)) v q' := by
 obtain ⟨a, q1, e1, h1⟩ := number_any hs h k hk 1
 obtain ⟨q2, e2, h2⟩ := want_any hs h1.st k (by omega) ⟨#[40]⟩
 obtain ⟨c, q3, e3, h3⟩ := register_any hs h2 k hk
 obtain ⟨q4, e4, h4⟩ := want_any hs h3.st k (by omega) ⟨#[41]⟩
 refine ⟨(a, c), q4, ?_, ?_⟩
 ·simp only [place_eq, e1, e2, e3, e4, Option.bind_some]
 ·clear e1 e2 e3 e4 h
  revert h1 h2 h3 h4
  cases r with
  | error p => exact fun _ _ _ h => h
  | ok t =>
   simp only [Except.bind]
   unfold placeP
   cases numberP s 1 t with
   | error p => exact fun _ _ _ h => h
   | ok x =>
    simp only [Except.bind]
    intro h1
    cases wantP s ⟨#[40]⟩ x.2 with
    | error p => exact fun _ _ h => h
    | ok y =>
     simp only [Except.bind]
     intro _
     cases registerP s y with
     | error p => exact fun _ h => h
     | ok z =>
      simp only [Except.bind]
      intro h3
      cases wantP s ⟨#[41]⟩ z.2 with
      | error p => exact fun h => h
      | ok u => exact fun h => ⟨by rw [h1.1, h3.1], h.1, h.2⟩
def tl2 (s : ByteArray) (imm : Int) (first : Bool) (t : Tok) : Except Int (Int × Tok) := (if imm = 0 then .ok (0, t) else (commaP s first t).bind fun k => numberP s imm k).bind fun d => (wantP s ⟨#[59]⟩ d.2).bind fun e => .ok (d.1, e)
def tl1 (s : ByteArray) (b : Bool) (imm : Int) (first : Bool) (t : Tok) : Except Int ((Int × Int) × Tok) := (optRegP s b first t).bind fun c => (tl2 s imm c.2.1 c.2.2).bind fun d => .ok ((c.1, d.1), d.2)
def tl0 (s : ByteArray) (a b : Bool) (imm : Int) (first : Bool) (t : Tok) : Except Int ((Int × Int × Int) × Tok) := (optRegP s a first t).bind fun c => (tl1 s b imm c.2.1 c.2.2).bind fun d => .ok ((c.1, d.1.1, d.1.2), d.2)
theorem ok_bind {α β : Type} (a : α) (f : α → Except Int β) : (Except.ok a : Except Int α).bind f = f a := rfl
theorem ex_assoc {α β γ : Type} (x : Except Int α) (f : α → Except Int β) (g : β → Except Int γ) : (x.bind f).bind g = x.bind fun a => (f a).bind g := by cases x <;> rfl
theorem instrP_tl (s : ByteArray) (x : Row20) (t : Tok) (h4 : x.1 ≠ 4) (h5 : x.1 ≠ 5) : instrP s x t = (optRegP s x.2.2.1 true t).bind fun a => (tl0 s x.2.2.2.1 x.2.2.2.2.1 x.2.2.2.2.2 a.2.1 a.2.2).bind fun z => .ok ((x.1, a.1, z.1.1, z.1.2.1, z.1.2.2), z.2) := by
 unfold instrP tl0 tl1 tl2
 rw [if_neg h4, if_neg h5]
 simp only [ex_assoc, ok_bind]
def j0R (k : Nat) (m : Bool) (q : RS) (x : Row20) (m0 m1 m2 m3 m4 : Int) : Option RM := cupelref20_reader_instr.j0 k m q.1 q.2.1 q.2.2.1 q.2.2.2.1 q.2.2.2.2.1 q.2.2.2.2.2.1 q.2.2.2.2.2.2.1 q.2.2.2.2.2.2.2 x.1 x.2.1 x.2.2.1 x.2.2.2.1 x.2.2.2.2.1 x.2.2.2.2.2 m0 m1 m2 m3 m4
def j1R (k : Nat) (m : Bool) (q : RS) (x : Row20) (m0 m1 m2 m3 m4 : Int) : Option RM := cupelref20_reader_instr.j1 k m q.1 q.2.1 q.2.2.1 q.2.2.2.1 q.2.2.2.2.1 q.2.2.2.2.2.1 q.2.2.2.2.2.2.1 q.2.2.2.2.2.2.2 x.1 x.2.1 x.2.2.1 x.2.2.2.1 x.2.2.2.2.1 x.2.2.2.2.2 m0 m1 m2 m3 m4
def j2R (k : Nat) (m : Bool) (q : RS) (x : Row20) (m0 m1 m2 m3 m4 : Int) : Option RM := cupelref20_reader_instr.j2 k m q.1 q.2.1 q.2.2.1 q.2.2.2.1 q.2.2.2.2.1 q.2.2.2.2.2.1 q.2.2.2.2.2.2.1 q.2.2.2.2.2.2.2 x.1 x.2.1 x.2.2.1 x.2.2.2.1 x.2.2.2.2.1 x.2.2.2.2.2 m0 m1 m2 m3 m4
theorem j0_eq (k : Nat) (m : Bool) (q : RS) (x : Row20) (m0 m1 m2 m3 m4 : Int) : j0R (k + 1) m q x m0 m1 m2 m3 m4 = if x.2.2.2.1 = true then (commaR k q m).bind fun a => (registerR k a).bind fun b => j1R k true b.2 x m0 m1 b.1 m3 m4 else j1R k m q x m0 m1 m2 m3 m4 := by
 unfold j0R; simp only [cupelref20_reader_instr.j0]; rfl
theorem j1_eq (k : Nat) (m : Bool) (q : RS) (x : Row20) (m0 m1 m2 m3 m4 : Int) : j1R (k + 1) m q x m0 m1 m2 m3 m4 = if x.2.2.2.2.1 = true then (commaR k q m).bind fun a => (registerR k a).bind fun b => j2R k true b.2 x m0 m1 m2 b.1 m4 else j2R k m q x m0 m1 m2 m3 m4 := by
 unfold j1R; simp only [cupelref20_reader_instr.j1]; rfl
theorem j2_eq (k : Nat) (m : Bool) (q : RS) (x : Row20) (m0 m1 m2 m3 m4 : Int) : j2R (k + 1) m q x m0 m1 m2 m3 m4 = if x.2.2.2.2.2 = 0 then (wantR k q ⟨#[59]⟩).bind fun a => some (m0, m1, m2, m3, m4, a) else (commaR k q m).bind fun a => (numberR k a x.2.2.2.2.2).bind fun b => (wantR k b.2 ⟨#[59]⟩).bind fun c => some (m0, m1, m2, m3, b.1, c) := by
 unfold j2R; simp only [cupelref20_reader_instr.j2]; rfl
theorem j2_any {s : ByteArray} (hs : s.size ≤ 600000) {r : Except Int Tok} {q : RS} (h : StE s r q) (k : Nat) (hk : 4 * s.size + 12 ≤ k) (m : Bool) (x : Row20) (m0 m1 m2 m3 : Int) :
  ∃ (v : Int) (q' : RS), j2R k m q x m0 m1 m2 m3 0 = some (m0, m1, m2, m3, v, q') ∧ VE s (r.bind (tl2 s x.2.2.2.2.2 (!m))) v q' := by
 obtain ⟨k, rfl⟩ : ∃ z, k = z + 1 := ⟨k - 1, by omega⟩
 rw [j2_eq]
 unfold tl2
 by_cases c : x.2.2.2.2.2 = 0
 ·rw [if_pos c]
  obtain ⟨q1, e1, h1⟩ := want_any hs h k (by omega) ⟨#[59]⟩
  refine ⟨0, q1, by rw [e1, Option.bind_some], ?_⟩
  clear e1 h
  revert h1
  cases r with
  | error p => exact fun h => h
  | ok t =>
   simp only [Except.bind, if_pos c]
   cases wantP s ⟨#[59]⟩ t with
   | error p => exact fun h => h
   | ok u => exact fun h => ⟨rfl, h.1, h.2⟩
 ·rw [if_neg c]
  obtain ⟨q1, e1, h1⟩ := comma_any hs h k (by omega) m
  obtain ⟨v, q2, e2, h2⟩ := number_any hs h1 k (by omega) x.2.2.2.2.2
  obtain ⟨q3, e3, h3⟩ := want_any hs h2.st k (by omega) ⟨#[59]⟩
  refine ⟨v, q3, by simp only [e1, e2, e3, Option.bind_some], ?_⟩
  clear e1 e2 e3 h
  revert h1 h2 h3
  cases r with
  | error p => exact fun _ _ h => h
  | ok t =>
   simp only [Except.bind, if_neg c]
   cases commaP s (!m) t with
   | error p => exact fun _ _ h => h
   | ok y =>
    simp only [Except.bind]
    intro _
    cases numberP s x.2.2.2.2.2 y with
    | error p => exact fun _ h => h
    | ok z =>
     simp only [Except.bind]
     intro h2
     cases wantP s ⟨#[59]⟩ z.2 with
     | error p => exact fun h => h
     | ok u => exact fun h => ⟨h2.1, h.1, h.2⟩
theorem j1_any {s : ByteArray} (hs : s.size ≤ 600000) {r : Except Int Tok} {q : RS} (h : StE s r q) (k : Nat) (hk : 4 * s.size + 13 ≤ k) (m : Bool) (x : Row20) (m0 m1 m2 : Int) :
  ∃ (v : Int × Int) (q' : RS), j1R k m q x m0 m1 m2 0 0 = some (m0, m1, m2, v.1, v.2, q') ∧ VE s (r.bind (tl1 s x.2.2.2.2.1 x.2.2.2.2.2 (!m))) v q' := by
 obtain ⟨k, rfl⟩ : ∃ z, k = z + 1 := ⟨k - 1, by omega⟩
 rw [j1_eq]
 unfold tl1 optRegP
 by_cases c : x.2.2.2.2.1 = true
 ·rw [if_pos c]
  obtain ⟨q1, e1, h1⟩ := comma_any hs h k (by omega) m
  obtain ⟨v, q2, e2, h2⟩ := register_any hs h1 k (by omega)
  obtain ⟨v3, q3, e3, h3⟩ := j2_any hs h2.st k (by omega) true x m0 m1 m2 v
  refine ⟨(v, v3), q3, by simp only [e1, e2, e3, Option.bind_some], ?_⟩
  clear e1 e2 e3 h
  revert h1 h2 h3
  cases r with
  | error p => exact fun _ _ h => h
  | ok t =>
   simp only [Except.bind, c, if_true]
   cases commaP s (!m) t with
   | error p => exact fun _ _ h => h
   | ok y =>
    simp only [Except.bind]
    intro _
    cases registerP s y with
    | error p => exact fun _ h => h
    | ok z =>
     simp only [Except.bind]
     intro h2
     rw [show (!true) = false from rfl]
     cases tl2 s x.2.2.2.2.2 false z.2 with
     | error p => exact fun h => h
     | ok u => exact fun h => ⟨by rw [h2.1, h.1], h.2.1, h.2.2⟩
 ·rw [if_neg c]
  obtain ⟨v3, q3, e3, h3⟩ := j2_any hs h k (by omega) m x m0 m1 m2 0
  refine ⟨(0, v3), q3, by simp only [e3], ?_⟩
  clear e3 h
  revert h3
  cases r with
  | error p => exact fun h => h
  | ok t =>
   simp only [Except.bind, if_neg c]
   cases tl2 s x.2.2.2.2.2 (!m) t with
   | error p => exact fun h => h
   | ok u => exact fun h => ⟨by rw [h.1], h.2.1, h.2.2⟩
theorem j0_any {s : ByteArray} (hs : s.size ≤ 600000) {r : Except Int Tok} {q : RS} (h : StE s r q) (k : Nat) (hk : 4 * s.size + 14 ≤ k) (m : Bool) (x : Row20) (m0 m1 : Int) :
  ∃ (v : Int × Int × Int) (q' : RS), j0R k m q x m0 m1 0 0 0 = some (m0, m1, v.1, v.2.1, v.2.2, q') ∧ VE s (r.bind (tl0 s x.2.2.2.1 x.2.2.2.2.1 x.2.2.2.2.2 (!m))) v q' := by
 obtain ⟨k, rfl⟩ : ∃ z, k = z + 1 := ⟨k - 1, by omega⟩
 rw [j0_eq]
 unfold tl0 optRegP
 by_cases c : x.2.2.2.1 = true
 ·rw [if_pos c]
  obtain ⟨q1, e1, h1⟩ := comma_any hs h k (by omega) m
  obtain ⟨v, q2, e2, h2⟩ := register_any hs h1 k (by omega)
  obtain ⟨v3, q3, e3, h3⟩ := j1_any hs h2.st k (by omega) true x m0 m1 v
  refine ⟨(v, v3), q3, by simp only [e1, e2, e3, Option.bind_some], ?_⟩
  clear e1 e2 e3 h
  revert h1 h2 h3
  cases r with
  | error p => exact fun _ _ h => h
  | ok t =>
   simp only [Except.bind, c, if_true]
   cases commaP s (!m) t with
   | error p => exact fun _ _ h => h
   | ok y =>
    simp only [Except.bind]
    intro _
    cases registerP s y with
    | error p => exact fun _ h => h
    | ok z =>
     simp only [Except.bind]
     intro h2
     rw [show (!true) = false from rfl]
     cases tl1 s x.2.2.2.2.1 x.2.2.2.2.2 false z.2 with
     | error p => exact fun h => h
     | ok u => exact fun h => ⟨by rw [h2.1, h.1], h.2.1, h.2.2⟩
 ·rw [if_neg c]
  obtain ⟨v3, q3, e3, h3⟩ := j1_any hs h k (by omega) m x m0 m1 0
  refine ⟨(0, v3), q3, by simp only [e3], ?_⟩
  clear e3 h
  revert h3
  cases r with
  | error p => exact fun h => h
  | ok t =>
   simp only [Except.bind, if_neg c]
   cases tl1 s x.2.2.2.2.1 x.2.2.2.2.2 (!m) t with
   | error p => exact fun h => h
   | ok u => exact fun h => ⟨by rw [h.1], h.2.1, h.2.2⟩
def instrR (k : Nat) (q : RS) (x : Row20) : Option RM := cupelref20_reader_instr.f k q.1 q.2.1 q.2.2.1 q.2.2.2.1 q.2.2.2.2.1 q.2.2.2.2.2.1 q.2.2.2.2.2.2.1 q.2.2.2.2.2.2.2 x.1 x.2.1 x.2.2.1 x.2.2.2.1 x.2.2.2.2.1 x.2.2.2.2.2
theorem instr_eq (k : Nat) (q : RS) (x : Row20) : instrR k q x = if x.1 = 4 then (registerR k q).bind fun a => (wantR k a.2 ⟨#[44]⟩).bind fun b => (placeR k b x.1 a.1 0 0 0).bind fun c => (wantR k c.2.2.2.2.2 ⟨#[59]⟩).bind fun d => some (c.1, c.2.1, c.2.2.1, c.2.2.2.1, c.2.2.2.2.1, d)
  else if x.1 = 5 then (placeR k q x.1 0 0 0 0).bind fun a => (wantR k a.2.2.2.2.2 ⟨#[44]⟩).bind fun b => (registerR k b).bind fun c => (wantR k c.2 ⟨#[59]⟩).bind fun d => some (a.1, a.2.1, a.2.2.1, c.1, a.2.2.2.2.1, d)
  else if x.2.2.1 = true then (registerR k q).bind fun a => j0R k true a.2 x x.1 a.1 0 0 0 else j0R k false q x x.1 0 0 0 0 := rfl
theorem instr_any {s : ByteArray} (hs : s.size ≤ 600000) {r : Except Int Tok} {q : RS} (h : StE s r q) (k : Nat) (hk : 4 * s.size + 14 ≤ k) (x : Row20) :
  ∃ (v : MI) (q' : RS), instrR k q x = some (v.1, v.2.1, v.2.2.1, v.2.2.2.1, v.2.2.2.2, q') ∧ VE s (r.bind (instrP s x)) v q' := by
 rw [instr_eq]
 by_cases c4 : x.1 = 4
 ·rw [if_pos c4]
  obtain ⟨a, q1, e1, h1⟩ := register_any hs h k (by omega)
  obtain ⟨q2, e2, h2⟩ := want_any hs h1.st k (by omega) ⟨#[44]⟩
  obtain ⟨c, q3, e3, h3⟩ := place_any hs h2 k (by omega) x.1 a 0 0 0
  obtain ⟨q4, e4, h4⟩ := want_any hs h3.st k (by omega) ⟨#[59]⟩
  refine ⟨(x.1, a, c.2, 0, c.1), q4, by simp only [e1, e2, e3, e4, Option.bind_some], ?_⟩
  clear e1 e2 e3 e4 h
  revert h1 h2 h3 h4
  cases r with
  | error p => exact fun _ _ _ h => h
  | ok t =>
   simp only [Except.bind]
   unfold instrP
   rw [if_pos c4]
   cases registerP s t with
   | error p => exact fun _ _ _ h => h
   | ok y =>
    simp only [Except.bind]
    intro h1
    cases wantP s ⟨#[44]⟩ y.2 with
    | error p => exact fun _ _ h => h
    | ok z =>
     simp only [Except.bind]
     intro _
     cases placeP s z with
     | error p => exact fun _ h => h
     | ok u =>
      simp only [Except.bind]
      intro h3
      cases wantP s ⟨#[59]⟩ u.2 with
      | error p => exact fun h => h
      | ok w => exact fun h => ⟨by rw [c4, h1.1, h3.1], h.1, h.2⟩
 rw [if_neg c4]
 by_cases c5 : x.1 = 5
 ·rw [if_pos c5]
  obtain ⟨c, q1, e1, h1⟩ := place_any hs h k (by omega) x.1 0 0 0 0
  obtain ⟨q2, e2, h2⟩ := want_any hs h1.st k (by omega) ⟨#[44]⟩
  obtain ⟨a, q3, e3, h3⟩ := register_any hs h2 k (by omega)
  obtain ⟨q4, e4, h4⟩ := want_any hs h3.st k (by omega) ⟨#[59]⟩
  refine ⟨(x.1, 0, c.2, a, c.1), q4, by simp only [e1, e2, e3, e4, Option.bind_some], ?_⟩
  clear e1 e2 e3 e4 h
  revert h1 h2 h3 h4
  cases r with
  | error p => exact fun _ _ _ h => h
  | ok t =>
   simp only [Except.bind]
   unfold instrP
   rw [if_neg c4, if_pos c5]
   cases placeP s t with
   | error p => exact fun _ _ _ h => h
   | ok y =>
    simp only [Except.bind]
    intro h1
    cases wantP s ⟨#[44]⟩ y.2 with
    | error p => exact fun _ _ h => h
    | ok z =>
     simp only [Except.bind]
     intro _
     cases registerP s z with
     | error p => exact fun _ h => h
     | ok u =>
      simp only [Except.bind]
      intro h3
      cases wantP s ⟨#[59]⟩ u.2 with
      | error p => exact fun h => h
      | ok w => exact fun h => ⟨by rw [c5, h1.1, h3.1], h.1, h.2⟩
 rw [if_neg c5]
 have hI : instrP s x = fun t => (optRegP s x.2.2.1 true t).bind fun a => (tl0 s x.2.2.2.1 x.2.2.2.2.1 x.2.2.2.2.2 a.2.1 a.2.2).bind fun z => .ok ((x.1, a.1, z.1.1, z.1.2.1, z.1.2.2), z.2) := funext fun t => instrP_tl s x t c4 c5
 rw [hI]
 unfold optRegP commaP
 by_cases c : x.2.2.1 = true
 ·rw [if_pos c]
  obtain ⟨a, q1, e1, h1⟩ := register_any hs h k (by omega)
  obtain ⟨v, q2, e2, h2⟩ := j0_any hs h1.st k (by omega) true x x.1 a
  refine ⟨(x.1, a, v.1, v.2.1, v.2.2), q2, by simp only [e1, e2, Option.bind_some], ?_⟩
  clear e1 e2 h
  revert h1 h2
  cases r with
  | error p => exact fun _ h => h
  | ok t =>
   simp only [Except.bind, c, if_true]
   cases registerP s t with
   | error p => exact fun _ h => h
   | ok y =>
    simp only [Except.bind]
    intro h1
    rw [show (!true) = false from rfl]
    cases tl0 s x.2.2.2.1 x.2.2.2.2.1 x.2.2.2.2.2 false y.2 with
    | error p => exact fun h => h
    | ok u => exact fun h => ⟨by rw [h1.1, h.1], h.2.1, h.2.2⟩
 ·rw [if_neg c]
  obtain ⟨v, q2, e2, h2⟩ := j0_any hs h k (by omega) false x x.1 0
  refine ⟨(x.1, 0, v.1, v.2.1, v.2.2), q2, by simp only [e2], ?_⟩
  clear e2 h
  revert h2
  cases r with
  | error p => exact fun h => h
  | ok t =>
   simp only [Except.bind, if_neg c]
   rw [show (!false) = true from rfl]
   cases tl0 s x.2.2.2.1 x.2.2.2.2.1 x.2.2.2.2.2 true t with
   | error p => exact fun h => h
   | ok u => exact fun h => ⟨by rw [h.1], h.2.1, h.2.2⟩
end Go.Proofs.YtlaijeeeblcinaaDoor.A

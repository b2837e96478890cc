/- The differences of outcomes: the program's, once sorted, are the reference's. -/
import Derived.Test.YtndennmpnomjnaaDoorBx2
import Derived.Test.YtndennmpnomjnaaDoorPb
set_option linter.all false
set_option linter.unusedVariables false
namespace Go.Proofs.YtndennmpnomjnaaDoor.A
open Go.RowKit Go.Proofs.YtndennmpnomjnaaDoorW.PrintWords Go.Proofs.YtndennmpnomjnaaDoorW.PrintMore
/-- Does a list begin another? -/
def pre : List Int → List Int → Bool
 | [], _ => true
 | _ :: _, [] => false
 | x :: a, y :: b => if x = y then pre a b else false
theorem pre_len : ∀ (a b : List Int), pre a b = true → a.length ≤ b.length := by
 intro a
 induction a with
 | nil => intro b _; exact Nat.zero_le _
 | cons x a ih =>
  intro b h
  cases b with
  | nil => simp [pre] at h
  | cons y b =>
   unfold pre at h
   split at h
   ·have := ih b h; simp; exact this
   ·cases h
theorem pre_take : ∀ (a b : List Int), pre a (b.take a.length) = pre a b := by
 intro a
 induction a with
 | nil => intro b; simp [pre]
 | cons x a ih =>
  intro b
  cases b with
  | nil => simp [pre]
  | cons y b =>
   rw [List.length_cons, List.take_succ_cons]
   unfold pre
   rw [ih b]
theorem begins_loop (a b : List Int) (ha : a.length < 4611686018427387904) : ∀ (n i : Nat), a.length - i = n → i ≤ a.length → i ≤ b.length → Ev (fun k => cupelref10_begins.l0 k a b (i : Int)) (pre (a.drop i) (b.drop i)) := by
 intro n
 induction n with
 | zero =>
  intro i hn hi hb
  obtain rfl : i = a.length := by omega
  rw [List.drop_eq_nil_of_le (Nat.le_refl _)]
  refine ev_step (g := fun k => cupelref10_begins.j1 k a b (a.length : Int) false) (fun k => ?_) (ev_step (g := fun _ => some true) (fun k => ?_) ?_)
  ·simp only [cupelref10_begins.l0]
   rw [if_neg (by omega)]
  ·simp only [cupelref10_begins.j1]
   rw [if_neg (by decide), decide_eq_true (by omega)]
  ·simp only [pre]; exact ev_const _
 | succ n ih =>
  intro i hn hi hb
  have hlt : i < a.length := by omega
  rw [rd_drop hlt]
  have hw : wrap64 ((i : Int) + 1) = ((i + 1 : Nat) : Int) := by rw [w64 (by omega) (by omega)]; rfl
  by_cases hj : i < b.length
  ·rw [rd_drop hj]
   refine ev_step (g := fun k => cupelref10_begins.j1 k a b (i : Int) true) (fun k => ?_) ?_
   ·simp only [cupelref10_begins.l0]
    rw [if_pos (by omega), decide_eq_true (by omega)]
   ·by_cases e : rd a (i : Int) = rd b (i : Int)
    ·refine ev_step (g := fun k => cupelref10_begins.l0 k a b ((i + 1 : Nat) : Int)) (fun k => ?_) ?_
     ·simp only [cupelref10_begins.j1]
      rw [if_pos (by decide), if_pos (by omega), if_pos (by omega), if_pos (by omega), if_pos e, hw]
     ·unfold pre
      rw [if_pos e]
      exact ih (i + 1) (by omega) (by omega) (by omega)
    ·refine ev_step (g := fun _ => some false) (fun k => ?_) ?_
     ·simp only [cupelref10_begins.j1]
      rw [if_pos (by decide), if_pos (by omega), if_pos (by omega), if_pos (by omega), if_neg e]
     ·unfold pre
      rw [if_neg e]
      exact ev_const _
  ·rw [List.drop_eq_nil_of_le (by omega : b.length ≤ i)]
   refine ev_step (g := fun k => cupelref10_begins.j1 k a b (i : Int) false) (fun k => ?_) (ev_step (g := fun _ => some false) (fun k => ?_) ?_)
   ·simp only [cupelref10_begins.l0]
    rw [if_pos (by omega), decide_eq_false (by omega)]
   ·simp only [cupelref10_begins.j1]
    rw [if_neg (by decide), decide_eq_false (by omega)]
   ·simp only [pre]; exact ev_const _
theorem begins_ev (a b : List Int) (ha : a.length < 4611686018427387904) : Ev (fun k => cupelref10_begins.f k a b) (pre a b) := by
 have := begins_loop a b ha _ 0 rfl (Nat.zero_le _) (Nat.zero_le _)
 rw [List.drop_zero, List.drop_zero] at this
 exact this
theorem equal_loop (a b : List Int) (ha : a.length < 4611686018427387904) (hab : a.length = b.length) : ∀ (n i : Nat), a.length - i = n → i ≤ a.length → Ev (fun k => slices_Equal_int64_int64.l0 k a b (a.length : Int) (i : Int)) (pre (a.drop i) (b.drop i)) := by
 intro n
 induction n with
 | zero =>
  intro i hn hi
  obtain rfl : i = a.length := by omega
  rw [List.drop_eq_nil_of_le (Nat.le_refl _)]
  refine ev_step (g := fun _ => some true) (fun k => ?_) ?_
  ·simp only [slices_Equal_int64_int64.l0]
   rw [if_neg (by omega)]
  ·simp only [pre]; exact ev_const _
 | succ n ih =>
  intro i hn hi
  have hlt : i < a.length := by omega
  have hlb : i < b.length := by omega
  rw [rd_drop hlt, rd_drop hlb]
  have hw : wrap64 ((i : Int) + 1) = ((i + 1 : Nat) : Int) := by rw [w64 (by omega) (by omega)]; rfl
  by_cases e : rd a (i : Int) = rd b (i : Int)
  ·refine ev_step (g := fun k => slices_Equal_int64_int64.l0 k a b (a.length : Int) ((i + 1 : Nat) : Int)) (fun k => ?_) ?_
   ·simp only [slices_Equal_int64_int64.l0]
    rw [if_pos (by omega), if_pos (by omega), if_pos (by omega), if_pos (by omega), if_pos e, hw]
   ·unfold pre
    rw [if_pos e]
    exact ih (i + 1) (by omega) (by omega)
  ·refine ev_step (g := fun _ => some false) (fun k => ?_) ?_
   ·simp only [slices_Equal_int64_int64.l0]
    rw [if_pos (by omega), if_pos (by omega), if_pos (by omega), if_pos (by omega), if_neg e]
   ·unfold pre
    rw [if_neg e]
    exact ev_const _
theorem equal_ev (a b : List Int) (ha : a.length < 4611686018427387904) : Ev (fun k => slices_Equal_int64_int64.f k a b) (decide (a.length = b.length) && pre a b) := by
 unfold slices_Equal_int64_int64.f
 by_cases h : a.length = b.length
 ·rw [decide_eq_true h, Bool.true_and]
  simp only [if_pos (show (a.length : Int) = (b.length : Int) by omega)]
  have := equal_loop a b ha h _ 0 rfl (Nat.zero_le _)
  simpa using this
 ·rw [decide_eq_false h, Bool.false_and]
  simp only [if_neg (show ¬ (a.length : Int) = (b.length : Int) by omega)]
  exact ev_const _
theorem agree1_ev (a b : List Int) (ha : a.length < 4611686018427387904) : Ev (fun k => irsem_Agree_1.f k a b) (pre a b) := by
 unfold irsem_Agree_1.f
 by_cases h : a.length ≤ b.length
 ·simp only [if_pos (show (a.length : Int) ≤ (b.length : Int) by omega), if_pos (show 0 ≤ (a.length : Int) by omega), Int.toNat_natCast]
  refine ev_bind (equal_ev a (b.take a.length) ha) ?_
  rw [decide_eq_true (by rw [List.length_take]; omega), Bool.true_and, pre_take]
  exact ev_const _
 ·simp only [if_neg (show ¬ (a.length : Int) ≤ (b.length : Int) by omega)]
  have : pre a b = false := by
   cases e : pre a b with
   | false => rfl
   | true => exact absurd (pre_len a b e) h
  rw [this]
  exact ev_const _
/-- Do two behaviours agree? -/
def agB (a : List Int) (e c : Int) (b : List Int) (e' c' : Int) : Bool :=
 if (decide (e = e') && decide (c = c') && (decide (a.length = b.length) && pre a b)) = true then true
 else if e = 4 then (if pre a b = true then true else if e' = 4 then pre b a else false) else if e' = 4 then pre b a else false
theorem refAgree_ev (a : List Int) (e c : Int) (b : List Int) (e' c' : Int) (ha : a.length < 4611686018427387904) (hb : b.length < 4611686018427387904) : Ev (fun k => cupelref10_Agree.f k a e c b e' c') (agB a e c b e' c') := by
 unfold cupelref10_Agree.f
 refine ev_bind (a := (decide (e = e') && decide (c = c') && (decide (a.length = b.length) && pre a b))) ?_ ?_
 ·unfold cupelref10_Equal.f
  by_cases h1 : e = e'
  ·by_cases h2 : c = c'
   ·by_cases h3 : a.length = b.length
    ·simp only [if_pos h1, if_pos h2, if_pos (show (a.length : Int) = (b.length : Int) by omega), decide_eq_true h1, decide_eq_true h2, decide_eq_true h3, Bool.true_and]
     exact ev_bind (begins_ev a b ha) (ev_const _)
    ·simp only [if_pos h1, if_pos h2, if_neg (show ¬ (a.length : Int) = (b.length : Int) by omega), decide_eq_false h3, Bool.false_and, Bool.and_false]
     exact ev_const _
   ·simp only [if_pos h1, if_neg h2, decide_eq_false h2, Bool.false_and, Bool.and_false]
    exact ev_const _
  ·simp only [if_neg h1, decide_eq_false h1, Bool.false_and]
   exact ev_const _
 ·unfold agB
  by_cases h0 : (decide (e = e') && decide (c = c') && (decide (a.length = b.length) && pre a b)) = true
  ·simp only [if_pos h0]; exact ev_const _
  ·simp only [if_neg h0]
   by_cases h4 : e = 4
   ·simp only [if_pos h4]
    refine ev_bind (begins_ev a b ha) ?_
    by_cases h5 : pre a b = true
    ·simp only [if_pos h5]; exact ev_const _
    ·simp only [if_neg h5]
     by_cases h6 : e' = 4
     ·simp only [if_pos h6]
      exact ev_bind (begins_ev b a hb) (ev_const _)
     ·simp only [if_neg h6]; exact ev_const _
   ·simp only [if_neg h4]
    by_cases h6 : e' = 4
    ·simp only [if_pos h6]
     exact ev_bind (begins_ev b a hb) (ev_const _)
    ·simp only [if_neg h6]; exact ev_const _
theorem progAgree_ev (a : List Int) (e c : Int) (b : List Int) (e' c' : Int) (ha : a.length < 4611686018427387904) (hb : b.length < 4611686018427387904) : Ev (fun k => irsem_Agree.f k a e c b e' c') (agB a e c b e' c') := by
 have key : ∀ t : Bool, t = (decide (e = e') && decide (c = c') && (decide (a.length = b.length) && pre a b)) → Ev (fun k => irsem_Agree.j0 k t a e c b e' c') (agB a e c b e' c') := by
  intro t ht
  unfold agB
  rw [← ht]
  by_cases h0 : t = true
  ·simp only [if_pos h0]
   refine ev_step (g := fun _ => some true) (fun k => ?_) (ev_const _)
   simp only [irsem_Agree.j0, if_pos h0]
  ·simp only [if_neg h0]
   by_cases h4 : e = 4
   ·simp only [if_pos h4]
    refine ev_step (g := fun k => (irsem_Agree_1.f k a b).bind fun t108 => (if t108 = true then (some true) else (if e' = 4 then ((irsem_Agree_1.f k b a).bind fun t109 => (some t109)) else (some false)))) (fun k => by simp only [irsem_Agree.j0, if_neg h0, if_pos h4]) (ev_bind (agree1_ev a b ha) ?_)
    by_cases h5 : pre a b = true
    ·simp only [if_pos h5]; exact ev_const _
    ·simp only [if_neg h5]
     by_cases h6 : e' = 4
     ·simp only [if_pos h6]
      exact ev_bind (agree1_ev b a hb) (ev_const _)
     ·simp only [if_neg h6]; exact ev_const _
   ·simp only [if_neg h4]
    by_cases h6 : e' = 4
    ·simp only [if_pos h6]
     refine ev_step (g := fun k => (irsem_Agree_1.f k b a).bind fun t110 => (some t110)) (fun k => by simp only [irsem_Agree.j0, if_neg h0, if_neg h4, if_pos h6]) (ev_bind (agree1_ev b a hb) (ev_const _))
    ·simp only [if_neg h6]
     exact ev_step (g := fun _ => some false) (fun k => by simp only [irsem_Agree.j0, if_neg h0, if_neg h4, if_neg h6]) (ev_const _)
 unfold irsem_Agree.f
 by_cases h1 : e = e'
 ·by_cases h2 : c = c'
  ·simp only [if_pos h1, if_pos h2]
   refine ev_bind (equal_ev a b ha) (key _ ?_)
   rw [decide_eq_true h1, decide_eq_true h2, Bool.true_and, Bool.true_and]
  ·simp only [if_pos h1, if_neg h2]
   exact key _ (by rw [decide_eq_false h2, Bool.and_false, Bool.false_and])
 ·simp only [if_neg h1]
  exact key _ (by rw [decide_eq_false h1, Bool.false_and, Bool.false_and])
/-- How two that do not agree differ, and where. -/
def kindG (e e' : Int) : List Int → List Int → Int → Int × Int
 | [], [], i => if e = e' then (4, i) else (3, i)
 | [], _ :: _, i => (2, i)
 | _ :: _, [], i => (2, i)
 | x :: a, y :: b, i => if x = y then kindG e e' a b (i + 1) else (1, i)
theorem kindG_of (e e' : Int) : ∀ (a b : List Int) (i : Int), (kindG e e' a b i).1 = 1 ∨ (kindG e e' a b i).1 = 2 ∨ (kindG e e' a b i).1 = 3 ∨ (kindG e e' a b i).1 = 4 := by
 intro a
 induction a with
 | nil =>
  intro b i
  cases b with
  | nil => unfold kindG; split <;> simp
  | cons y b => unfold kindG; simp
 | cons x a ih =>
  intro b i
  cases b with
  | nil => unfold kindG; simp
  | cons y b =>
   unfold kindG
   split
   ·exact ih b (i + 1)
   ·simp
theorem differ_loop (a : List Int) (e c : Int) (b : List Int) (e' c' : Int) (m : Nat) (hm : m = min a.length b.length) (h62 : m < 4611686018427387904) : ∀ (n i : Nat), m - i = n → i ≤ m → Ev (fun k => cupelref26_differ.l0 k (m : Int) (i : Int) a e c b e' c') (kindG e e' (a.drop i) (b.drop i) (i : Int)) := by
 intro n
 induction n with
 | zero =>
  intro i hn hi
  obtain rfl : i = m := by omega
  refine ev_step (g := fun _ => some (kindG e e' (a.drop i) (b.drop i) (i : Int))) (fun k => ?_) (ev_const _)
  simp only [cupelref26_differ.l0]
  rw [if_neg (by omega)]
  by_cases h : a.length = b.length
  ·rw [if_pos (by omega), List.drop_eq_nil_of_le (by omega : a.length ≤ i), List.drop_eq_nil_of_le (by omega : b.length ≤ i)]
   unfold kindG
   split <;> rfl
  ·rw [if_neg (by omega)]
   by_cases h2 : a.length < b.length
   ·rw [List.drop_eq_nil_of_le (by omega : a.length ≤ i), rd_drop (by omega : i < b.length)]
    rfl
   ·rw [List.drop_eq_nil_of_le (by omega : b.length ≤ i), rd_drop (by omega : i < a.length)]
    rfl
 | succ n ih =>
  intro i hn hi
  have hlt : i < a.length := by omega
  have hlb : i < b.length := by omega
  rw [rd_drop hlt, rd_drop hlb]
  have hw : wrap64 ((i : Int) + 1) = ((i + 1 : Nat) : Int) := by rw [w64 (by omega) (by omega)]; rfl
  by_cases h : rd a (i : Int) = rd b (i : Int)
  ·refine ev_step (g := fun k => cupelref26_differ.l0 k (m : Int) ((i + 1 : Nat) : Int) a e c b e' c') (fun k => ?_) ?_
   ·simp only [cupelref26_differ.l0]
    rw [if_pos (by omega), if_pos (by omega), if_pos (by omega), if_pos (by omega), if_pos h, hw]
   ·unfold kindG
    rw [if_pos h]
    exact ih (i + 1) (by omega) (by omega)
  ·refine ev_step (g := fun _ => some (1, (i : Int))) (fun k => ?_) ?_
   ·simp only [cupelref26_differ.l0]
    rw [if_pos (by omega), if_pos (by omega), if_pos (by omega), if_pos (by omega), if_neg h]
   ·unfold kindG
    rw [if_neg h]
    exact ev_const _
theorem kind_same (m : Int) (a : List Int) (e c : Int) (b : List Int) (e' c' : Int) : ∀ (k : Nat) (i : Int), observe_kind.l0 k m m i a e c b e' c' = cupelref26_differ.l0 k m i a e c b e' c' := by
 intro k
 induction k with
 | zero => intro i; rfl
 | succ k ih =>
  intro i
  simp only [observe_kind.l0, cupelref26_differ.l0, ih]
theorem mn_len (a b : List Int) : mn (a.length : Int) (b.length : Int) = ((min a.length b.length : Nat) : Int) := by
 unfold mn
 split <;> omega
theorem refKind_ev (a : List Int) (e c : Int) (b : List Int) (e' c' : Int) (ha : a.length < 4611686018427387904) : Ev (fun k => cupelref26_differ.f k a e c b e' c') (kindG e e' a b 0) := by
 unfold cupelref26_differ.f
 simp only [mn_len]
 have := differ_loop a e c b e' c' _ rfl (by omega) _ 0 rfl (Nat.zero_le _)
 simpa using this
theorem progKind_ev (a : List Int) (e c : Int) (b : List Int) (e' c' : Int) (ha : a.length < 4611686018427387904) : Ev (fun k => observe_kind.f k a e c b e' c') (kindG e e' a b 0) := by
 unfold observe_kind.f
 simp only [kind_same]
 exact refKind_ev a e c b e' c' ha
end Go.Proofs.YtndennmpnomjnaaDoor.A

/- GroupsKeys in plain words: the differences of program and reference, the keys of both, the law's function. -/
import Derived.Test.YtndennmpnomjnaaDoorPf
set_option linter.all false
set_option linter.unusedVariables false
namespace Go.Proofs.YtndennmpnomjnaaDoor.A
open Go.RowKit Go.Lib Go.Proofs.YtndennmpnomjnaaDoorW.PrintWords Go.Proofs.YtndennmpnomjnaaDoorW.PrintMore
/-! ### The differences -/
/-- The difference of two outcomes, if there is one. -/
def admK (l : List S45) (i k : Nat) : List S57 :=
 if (rd_T45 l (i : Int)).f1.f1 = 3 then [] else if (rd_T45 l (k : Int)).f1.f1 = 3 then []
 else if agB (rd_T45 l (i : Int)).f1.f0 (rd_T45 l (i : Int)).f1.f1 (rd_T45 l (i : Int)).f1.f2 (rd_T45 l (k : Int)).f1.f0 (rd_T45 l (k : Int)).f1.f1 (rd_T45 l (k : Int)).f1.f2 = true then []
 else [⟨i, k, (kindG (rd_T45 l (i : Int)).f1.f1 (rd_T45 l (k : Int)).f1.f1 (rd_T45 l (i : Int)).f1.f0 (rd_T45 l (k : Int)).f1.f0 0).1, (kindG (rd_T45 l (i : Int)).f1.f1 (rd_T45 l (k : Int)).f1.f1 (rd_T45 l (i : Int)).f1.f0 (rd_T45 l (k : Int)).f1.f0 0).2⟩]
theorem admK_len (l : List S45) (i k : Nat) : (admK l i k).length ≤ 1 := by
 unfold admK
 repeat' split
 all_goals simp
theorem admK_mem {l : List S45} {i k : Nat} {x : S57} (h : x ∈ admK l i k) : x.f0 = i ∧ x.f1 = k ∧ (x.f2 = 1 ∨ x.f2 = 2 ∨ x.f2 = 3 ∨ x.f2 = 4) := by
 unfold admK at h
 split at h
 ·simp at h
 split at h
 ·simp at h
 split at h
 ·simp at h
 ·simp only [List.mem_singleton] at h
  subst h
  exact ⟨rfl, rfl, kindG_of _ _ _ _ _⟩
def progRow (l : List S45) (k i : Nat) : List S57 := (List.range' i (k - i)).flatMap fun j => admK l j k
def progAll (l : List S45) (k : Nat) : List S57 := (List.range' k (l.length - k)).flatMap fun k => progRow l k 0
def refRow (l : List S45) (i k : Nat) : List S57 := (List.range' k (l.length - k)).flatMap fun j => admK l i j
def refAll (l : List S45) (i : Nat) : List S57 := (List.range' i (l.length - i)).flatMap fun i => refRow l i (i + 1)
theorem range_step {i n : Nat} (h : i < n) : List.range' i (n - i) = i :: List.range' (i + 1) (n - (i + 1)) := by
 obtain ⟨m, hm⟩ : ∃ m, n - i = m + 1 := ⟨n - i - 1, by omega⟩
 rw [hm, show n - (i + 1) = m by omega]
 rfl
theorem range_end {i n : Nat} (h : n ≤ i) : List.range' i (n - i) = [] := by
 rw [show n - i = 0 by omega]
 rfl
theorem progRow_step (l : List S45) {k i : Nat} (h : i < k) : progRow l k i = admK l i k ++ progRow l k (i + 1) := by
 unfold progRow; rw [range_step h]; rfl
theorem refRow_step (l : List S45) {k i : Nat} (h : k < l.length) : refRow l i k = admK l i k ++ refRow l i (k + 1) := by
 unfold refRow; rw [range_step h]; rfl
theorem progAll_step (l : List S45) {k : Nat} (h : k < l.length) : progAll l k = progRow l k 0 ++ progAll l (k + 1) := by
 unfold progAll; rw [range_step h]; rfl
theorem refAll_step (l : List S45) {k : Nat} (h : k < l.length) : refAll l k = refRow l k (k + 1) ++ refAll l (k + 1) := by
 unfold refAll; rw [range_step h]; rfl
theorem flat_len {α : Type} (f : Nat → List α) (c : Nat) (h : ∀ j, (f j).length ≤ c) : ∀ l : List Nat, (l.flatMap f).length ≤ c * l.length := by
 intro l
 induction l with
 | nil => simp
 | cons x l ih =>
  rw [List.flatMap_cons, List.length_append, List.length_cons, Nat.mul_succ]
  have := h x
  omega
theorem progRow_len (l : List S45) (k i : Nat) : (progRow l k i).length ≤ k - i := by
 have := flat_len (fun j => admK l j k) 1 (fun j => admK_len l j k) (List.range' i (k - i))
 rw [List.length_range'] at this
 unfold progRow; omega
theorem refRow_len (l : List S45) (i k : Nat) : (refRow l i k).length ≤ l.length - k := by
 have := flat_len (fun j => admK l i j) 1 (fun j => admK_len l i j) (List.range' k (l.length - k))
 rw [List.length_range'] at this
 unfold refRow; omega
theorem refAll_len (l : List S45) (hl : l.length ≤ 100) : (refAll l 0).length ≤ 10000 := by
 have := flat_len (fun i => refRow l i (i + 1)) 100 (fun i => by have := refRow_len l i (i + 1); omega) (List.range' 0 (l.length - 0))
 rw [List.length_range'] at this
 unfold refAll; omega
theorem rdT45_take (l : List S45) {i k : Nat} (h : i < k) : rd_T45 (l.take k) (i : Int) = rd_T45 l (i : Int) := by
 unfold rd_T45
 rw [Int.toNat_natCast, List.getD_eq_getElem?_getD, List.getD_eq_getElem?_getD, List.getElem?_take]
 rw [if_pos h]
theorem prog_row (l : List S45) (hl : l.length ≤ 100) (hs : ∀ j, (rd_T45 l j).f1.f0.length < 4611686018427387904) (k : Nat) (hk : k < l.length) (R : List S57 × Int) :
  ∀ (n i : Nat) (out : List S57), k - i = n → i ≤ k → out.length ≤ 100 * k + i → Ev (fun f => observe_Differ.l0 f l (out ++ progRow l k i) l (l.length : Int) ((k + 1 : Nat) : Int)) R →
   Ev (fun f => observe_Differ.l1 f l out (k : Int) l (l.length : Int) (k : Int) (l.take k) ((l.take k).length : Int) (i : Int) (rd_T45 l (k : Int)).f0 (rd_T45 l (k : Int)).f1.f0 (rd_T45 l (k : Int)).f1.f1 (rd_T45 l (k : Int)).f1.f2) R := by
 have hlen : (l.take k).length = k := by rw [List.length_take]; omega
 have hwk : wrap64 ((k : Int) + 1) = ((k + 1 : Nat) : Int) := by rw [w64 (by omega) (by omega)]; rfl
 intro n
 induction n with
 | zero =>
  intro i out hn hi ho hR
  obtain rfl : i = k := by omega
  refine ev_step (g := fun f => observe_Differ.l0 f l (out ++ progRow l i i) l (l.length : Int) ((i + 1 : Nat) : Int)) (fun f => ?_) hR
  simp only [observe_Differ.l1]
  rw [if_neg (by omega), hwk]
  unfold progRow
  rw [range_end (Nat.le_refl _)]
  simp
 | succ n ih =>
  intro i out hn hi ho hR
  have hlt : i < k := by omega
  have hw : wrap64 ((i : Int) + 1) = ((i + 1 : Nat) : Int) := by rw [w64 (by omega) (by omega)]; rfl
  rw [progRow_step l hlt] at hR
  have h1 : (i : Int) < ((l.take k).length : Int) := by omega
  by_cases c1 : (rd_T45 l (i : Int)).f1.f1 = 3
  ·have e : admK l i k = [] := by unfold admK; rw [if_pos c1]
   rw [e, List.nil_append] at hR
   refine ev_step (fun f => ?_) (ih (i + 1) out (by omega) (by omega) (by omega) hR)
   simp only [observe_Differ.l1]
   rw [if_pos h1, if_pos (by omega), if_pos h1, rdT45_take l hlt, if_pos c1, hw, ite_self]
  ·by_cases c2 : (rd_T45 l (k : Int)).f1.f1 = 3
   ·have e : admK l i k = [] := by unfold admK; rw [if_neg c1, if_pos c2]
    rw [e, List.nil_append] at hR
    refine ev_step (fun f => ?_) (ih (i + 1) out (by omega) (by omega) (by omega) hR)
    simp only [observe_Differ.l1]
    rw [if_pos h1, if_pos (by omega), if_pos h1, if_pos c2, hw]
   ·refine ev_step (g := fun f => (irsem_Agree.f f (rd_T45 l (i : Int)).f1.f0 (rd_T45 l (i : Int)).f1.f1 (rd_T45 l (i : Int)).f1.f2 (rd_T45 l (k : Int)).f1.f0 (rd_T45 l (k : Int)).f1.f1 (rd_T45 l (k : Int)).f1.f2).bind fun t => if t = true then (observe_Differ.l1 f l out (k : Int) l (l.length : Int) (k : Int) (l.take k) ((l.take k).length : Int) ((i + 1 : Nat) : Int) (rd_T45 l (k : Int)).f0 (rd_T45 l (k : Int)).f1.f0 (rd_T45 l (k : Int)).f1.f1 (rd_T45 l (k : Int)).f1.f2) else ((observe_kind.f f (rd_T45 l (i : Int)).f1.f0 (rd_T45 l (i : Int)).f1.f1 (rd_T45 l (i : Int)).f1.f2 (rd_T45 l (k : Int)).f1.f0 (rd_T45 l (k : Int)).f1.f1 (rd_T45 l (k : Int)).f1.f2).bind fun b => if out.length < 4398046511104 then (observe_Differ.l1 f l (out ++ [(⟨i, k, b.1, b.2⟩ : S57)]) (k : Int) l (l.length : Int) (k : Int) (l.take k) ((l.take k).length : Int) ((i + 1 : Nat) : Int) (rd_T45 l (k : Int)).f0 (rd_T45 l (k : Int)).f1.f0 (rd_T45 l (k : Int)).f1.f1 (rd_T45 l (k : Int)).f1.f2) else none)) (fun f => ?_) ?_
    ·simp only [observe_Differ.l1]
     rw [if_pos h1, if_pos (by omega), if_pos h1, rdT45_take l hlt, if_neg c2, if_neg c1, hw]
    ·refine ev_bind (progAgree_ev _ _ _ _ _ _ (hs _) (hs _)) ?_
     by_cases c3 : agB (rd_T45 l (i : Int)).f1.f0 (rd_T45 l (i : Int)).f1.f1 (rd_T45 l (i : Int)).f1.f2 (rd_T45 l (k : Int)).f1.f0 (rd_T45 l (k : Int)).f1.f1 (rd_T45 l (k : Int)).f1.f2 = true
     ·have e : admK l i k = [] := by unfold admK; rw [if_neg c1, if_neg c2, if_pos c3]
      rw [e, List.nil_append] at hR
      simp only [if_pos c3]
      exact ih (i + 1) out (by omega) (by omega) (by omega) hR
     ·have e : admK l i k = [⟨i, k, (kindG (rd_T45 l (i : Int)).f1.f1 (rd_T45 l (k : Int)).f1.f1 (rd_T45 l (i : Int)).f1.f0 (rd_T45 l (k : Int)).f1.f0 0).1, (kindG (rd_T45 l (i : Int)).f1.f1 (rd_T45 l (k : Int)).f1.f1 (rd_T45 l (i : Int)).f1.f0 (rd_T45 l (k : Int)).f1.f0 0).2⟩] := by unfold admK; rw [if_neg c1, if_neg c2, if_neg c3]
      simp only [if_neg c3]
      refine ev_bind (progKind_ev _ _ _ _ _ _ (hs _)) ?_
      simp only [if_pos (show out.length < 4398046511104 by omega)]
      rw [← e]
      rw [← List.append_assoc] at hR
      have := admK_len l i k
      exact ih (i + 1) _ (by omega) (by omega) (by rw [List.length_append]; omega) hR
theorem prog_all (l : List S45) (hl : l.length ≤ 100) (hs : ∀ j, (rd_T45 l j).f1.f0.length < 4611686018427387904) :
  ∀ (n k : Nat) (out : List S57), l.length - k = n → k ≤ l.length → out.length ≤ 100 * k → Ev (fun f => observe_Differ.l0 f l out l (l.length : Int) (k : Int)) (out ++ progAll l k, 0) := by
 intro n
 induction n with
 | zero =>
  intro k out hn hk ho
  obtain rfl : k = l.length := by omega
  unfold progAll
  rw [range_end (Nat.le_refl _)]
  refine ev_step (g := fun _ => some (out, 0)) (fun f => ?_) (by simp only [List.flatMap_nil, List.append_nil]; exact ev_const _)
  simp only [observe_Differ.l0]
  rw [if_neg (by omega)]
 | succ n ih =>
  intro k out hn hk ho
  have hlt : k < l.length := by omega
  have hr := progRow_len l k 0
  have hnx := ih (k + 1) (out ++ progRow l k 0) (by omega) (by omega) (by rw [List.length_append]; omega)
  rw [List.append_assoc, ← progAll_step l hlt] at hnx
  refine ev_step (fun f => ?_) (prog_row l hl hs k hlt _ _ 0 out rfl (Nat.zero_le _) (by omega) hnx)
  simp only [observe_Differ.l0]
  rw [if_pos (by omega), if_pos (by omega), if_pos (by omega), if_pos (by omega), Option.bind_some, Int.toNat_natCast]
  rfl
theorem ref_row (l : List S45) (hl : l.length ≤ 100) (hs : ∀ j, (rd_T45 l j).f1.f0.length < 4611686018427387904) (i : Nat) (hi : i < l.length) (R : List S57 × Int) :
  ∀ (n k : Nat) (out : List S57), l.length - k = n → k ≤ l.length → out.length ≤ 100 * i + k → Ev (fun f => cupelref26_Differ.l0 f l (out ++ refRow l i k) ((i + 1 : Nat) : Int)) R →
   Ev (fun f => cupelref26_Differ.l1 f l out (i : Int) (k : Int)) R := by
 have hwi : wrap64 ((i : Int) + 1) = ((i + 1 : Nat) : Int) := by rw [w64 (by omega) (by omega)]; rfl
 intro n
 induction n with
 | zero =>
  intro k out hn hk ho hR
  obtain rfl : k = l.length := by omega
  refine ev_step (fun f => ?_) hR
  simp only [cupelref26_Differ.l1]
  rw [if_neg (by omega), hwi]
  unfold refRow
  rw [range_end (Nat.le_refl _)]
  simp
 | succ n ih =>
  intro k out hn hk ho hR
  have hlt : k < l.length := by omega
  have hw : wrap64 ((k : Int) + 1) = ((k + 1 : Nat) : Int) := by rw [w64 (by omega) (by omega)]; rfl
  rw [refRow_step l hlt] at hR
  by_cases c1 : (rd_T45 l (i : Int)).f1.f1 = 3
  ·have e : admK l i k = [] := by unfold admK; rw [if_pos c1]
   rw [e, List.nil_append] at hR
   refine ev_step (fun f => ?_) (ih (k + 1) out (by omega) (by omega) (by omega) hR)
   simp only [cupelref26_Differ.l1]
   rw [if_pos (by omega), if_pos (by omega), if_pos (by omega), if_pos (by omega), if_pos c1, hw]
  ·by_cases c2 : (rd_T45 l (k : Int)).f1.f1 = 3
   ·have e : admK l i k = [] := by unfold admK; rw [if_neg c1, if_pos c2]
    rw [e, List.nil_append] at hR
    refine ev_step (fun f => ?_) (ih (k + 1) out (by omega) (by omega) (by omega) hR)
    simp only [cupelref26_Differ.l1]
    rw [if_pos (by omega), if_pos (by omega), if_pos (by omega), if_pos (by omega), if_neg c1, if_pos c2, hw]
   ·refine ev_step (g := fun f => (cupelref10_Agree.f f (rd_T45 l (i : Int)).f1.f0 (rd_T45 l (i : Int)).f1.f1 (rd_T45 l (i : Int)).f1.f2 (rd_T45 l (k : Int)).f1.f0 (rd_T45 l (k : Int)).f1.f1 (rd_T45 l (k : Int)).f1.f2).bind fun t => if t = true then (cupelref26_Differ.l1 f l out (i : Int) ((k + 1 : Nat) : Int)) else ((cupelref26_differ.f f (rd_T45 l (i : Int)).f1.f0 (rd_T45 l (i : Int)).f1.f1 (rd_T45 l (i : Int)).f1.f2 (rd_T45 l (k : Int)).f1.f0 (rd_T45 l (k : Int)).f1.f1 (rd_T45 l (k : Int)).f1.f2).bind fun b => if out.length < 4398046511104 then (cupelref26_Differ.l1 f l (out ++ [(⟨i, k, b.1, b.2⟩ : S57)]) (i : Int) ((k + 1 : Nat) : Int)) else none)) (fun f => ?_) ?_
    ·simp only [cupelref26_Differ.l1]
     rw [if_pos (by omega), if_pos (by omega), if_pos (by omega), if_pos (by omega), if_neg c1, if_neg c2, hw]
    ·refine ev_bind (refAgree_ev _ _ _ _ _ _ (hs _) (hs _)) ?_
     by_cases c3 : agB (rd_T45 l (i : Int)).f1.f0 (rd_T45 l (i : Int)).f1.f1 (rd_T45 l (i : Int)).f1.f2 (rd_T45 l (k : Int)).f1.f0 (rd_T45 l (k : Int)).f1.f1 (rd_T45 l (k : Int)).f1.f2 = true
     ·have e : admK l i k = [] := by unfold admK; rw [if_neg c1, if_neg c2, if_pos c3]
      rw [e, List.nil_append] at hR
      simp only [if_pos c3]
      exact ih (k + 1) out (by omega) (by omega) (by omega) hR
     ·have e : admK l i k = [⟨i, k, (kindG (rd_T45 l (i : Int)).f1.f1 (rd_T45 l (k : Int)).f1.f1 (rd_T45 l (i : Int)).f1.f0 (rd_T45 l (k : Int)).f1.f0 0).1, (kindG (rd_T45 l (i : Int)).f1.f1 (rd_T45 l (k : Int)).f1.f1 (rd_T45 l (i : Int)).f1.f0 (rd_T45 l (k : Int)).f1.f0 0).2⟩] := by unfold admK; rw [if_neg c1, if_neg c2, if_neg c3]
      simp only [if_neg c3]
      refine ev_bind (refKind_ev _ _ _ _ _ _ (hs _)) ?_
      simp only [if_pos (show out.length < 4398046511104 by omega)]
      rw [← e]
      rw [← List.append_assoc] at hR
      have := admK_len l i k
      exact ih (k + 1) _ (by omega) (by omega) (by rw [List.length_append]; omega) hR
theorem ref_all (l : List S45) (hl : l.length ≤ 100) (hs : ∀ j, (rd_T45 l j).f1.f0.length < 4611686018427387904) :
  ∀ (n i : Nat) (out : List S57), l.length - i = n → i ≤ l.length → out.length ≤ 100 * i → Ev (fun f => cupelref26_Differ.l0 f l out (i : Int)) (out ++ refAll l i, 0) := by
 intro n
 induction n with
 | zero =>
  intro i out hn hi ho
  obtain rfl : i = l.length := by omega
  unfold refAll
  rw [range_end (Nat.le_refl _)]
  refine ev_step (g := fun _ => some (out, 0)) (fun f => ?_) (by simp only [List.flatMap_nil, List.append_nil]; exact ev_const _)
  simp only [cupelref26_Differ.l0]
  rw [if_neg (by omega)]
 | succ n ih =>
  intro i out hn hi ho
  have hlt : i < l.length := by omega
  have hr := refRow_len l i (i + 1)
  have hnx := ih (i + 1) (out ++ refRow l i (i + 1)) (by omega) (by omega) (by rw [List.length_append]; omega)
  rw [List.append_assoc, ← refAll_step l hlt] at hnx
  have hw : wrap64 ((i : Int) + 1) = ((i + 1 : Nat) : Int) := by rw [w64 (by omega) (by omega)]; rfl
  refine ev_step (fun f => ?_) (ref_row l hl hs i hlt _ _ (i + 1) out rfl (by omega) (by omega) hnx)
  simp only [cupelref26_Differ.l0]
  rw [if_pos (by omega), hw]
theorem differ_ev (l : List S45) (hs : ∀ j, (rd_T45 l j).f1.f0.length < 4611686018427387904) : Ev (fun f => observe_Differ.f f l) (if (l.length : Int) > 100 then ([], 3) else (progAll l 0, 0)) := by
 unfold observe_Differ.f
 by_cases h : (l.length : Int) > 100
 ·simp only [if_pos h]; exact ev_const _
 ·simp only [if_neg h]
  exact prog_all l (by omega) hs _ 0 [] rfl (Nat.zero_le _) (Nat.zero_le _)
theorem refDiffer_ev (l : List S45) (hs : ∀ j, (rd_T45 l j).f1.f0.length < 4611686018427387904) : Ev (fun f => cupelref26_Differ.f f l) (if (l.length : Int) > 100 then ([], 3) else (refAll l 0, 0)) := by
 unfold cupelref26_Differ.f
 by_cases h : (l.length : Int) > 100
 ·simp only [if_pos h]; exact ev_const _
 ·simp only [if_neg h]
  exact ref_all l (by omega) hs _ 0 [] rfl (Nat.zero_le _) (Nat.zero_le _)
/-! ### Sorted, they are one and the same -/
theorem mem_prog (l : List S45) (x : S57) : x ∈ progAll l 0 ↔ ∃ i k, i < k ∧ k < l.length ∧ x ∈ admK l i k := by
 unfold progAll progRow
 simp only [List.mem_flatMap, List.mem_range'_1]
 constructor
 ·rintro ⟨k, hk, i, hi, hx⟩
  exact ⟨i, k, by omega, by omega, hx⟩
 ·rintro ⟨i, k, h1, h2, hx⟩
  exact ⟨k, by omega, i, by omega, hx⟩
theorem mem_ref (l : List S45) (x : S57) : x ∈ refAll l 0 ↔ ∃ i k, i < k ∧ k < l.length ∧ x ∈ admK l i k := by
 unfold refAll refRow
 simp only [List.mem_flatMap, List.mem_range'_1]
 constructor
 ·rintro ⟨i, hi, k, hk, hx⟩
  exact ⟨i, k, by omega, by omega, hx⟩
 ·rintro ⟨i, k, h1, h2, hx⟩
  exact ⟨i, by omega, k, by omega, hx⟩
theorem one_pair {α : Type} {R : α → α → Prop} : ∀ {l : List α}, l.length ≤ 1 → l.Pairwise R
 | [], _ => List.Pairwise.nil
 | [a], _ => List.pairwise_singleton _ _
 | a :: b :: l, h => by simp at h
theorem prog_pair (l : List S45) : (progAll l 0).Pairwise (fun x y => x.f1 < y.f1 ∨ (x.f1 = y.f1 ∧ x.f0 < y.f0)) := by
 unfold progAll progRow
 refine List.pairwise_flatMap.2 ⟨fun k hk => List.pairwise_flatMap.2 ⟨fun i _ => one_pair (admK_len l i k), ?_⟩, ?_⟩
 ·refine (List.pairwise_lt_range' (step := 1)).imp ?_
  intro i j hij x hx y hy
  obtain ⟨a1, a2, _⟩ := admK_mem hx
  obtain ⟨b1, b2, _⟩ := admK_mem hy
  exact .inr ⟨by omega, by omega⟩
 ·refine (List.pairwise_lt_range' (step := 1)).imp ?_
  intro i j hij x hx y hy
  obtain ⟨i', _, hx⟩ := List.mem_flatMap.1 hx
  obtain ⟨j', _, hy⟩ := List.mem_flatMap.1 hy
  obtain ⟨a1, a2, _⟩ := admK_mem hx
  obtain ⟨b1, b2, _⟩ := admK_mem hy
  exact .inl (by omega)
theorem ref_pair (l : List S45) : (refAll l 0).Pairwise (fun x y => x.f0 < y.f0 ∨ (x.f0 = y.f0 ∧ x.f1 < y.f1)) := by
 unfold refAll refRow
 refine List.pairwise_flatMap.2 ⟨fun i hi => List.pairwise_flatMap.2 ⟨fun k _ => one_pair (admK_len l i k), ?_⟩, ?_⟩
 ·refine (List.pairwise_lt_range' (step := 1)).imp ?_
  intro i j hij x hx y hy
  obtain ⟨a1, a2, _⟩ := admK_mem hx
  obtain ⟨b1, b2, _⟩ := admK_mem hy
  exact .inr ⟨by omega, by omega⟩
 ·refine (List.pairwise_lt_range' (step := 1)).imp ?_
  intro i j hij x hx y hy
  obtain ⟨i', _, hx⟩ := List.mem_flatMap.1 hx
  obtain ⟨j', _, hy⟩ := List.mem_flatMap.1 hy
  obtain ⟨a1, a2, _⟩ := admK_mem hx
  obtain ⟨b1, b2, _⟩ := admK_mem hy
  exact .inl (by omega)
theorem prog_perm (l : List S45) : (progAll l 0).Perm (refAll l 0) := by
 refine (List.perm_ext_iff_of_nodup ?_ ?_).2 (fun x => by rw [mem_prog, mem_ref])
 ·refine List.nodup_iff_pairwise_ne.2 ((prog_pair l).imp ?_)
  intro x y h e
  subst e
  omega
 ·refine List.nodup_iff_pairwise_ne.2 ((ref_pair l).imp ?_)
  intro x y h e
  subst e
  omega
theorem sort_prog (l : List S45) : sortD (progAll l 0) = refAll l 0 := by
 have hle : (refAll l 0).Pairwise (fun x y => (!lt57 y x) = true) := by
  refine (ref_pair l).imp ?_
  intro x y h
  simp only [lt57, Bool.not_eq_true', decide_eq_false_iff_not]
  omega
 refine List.Perm.eq_of_pairwise (le := fun x y => (!lt57 y x) = true) ?_ ?_ hle ((List.mergeSort_perm _ _).trans (prog_perm l))
 ·intro a b _ _ h1 h2
  exact one57 a b (by simpa using h2) (by simpa using h1)
 ·refine List.pairwise_mergeSort ?_ ?_ _
  ·intro a b c h1 h2
   simp only [lt57, Bool.not_eq_true', decide_eq_false_iff_not] at *
   omega
  ·intro a b
   simp only [lt57, Bool.or_eq_true, Bool.not_eq_true', decide_eq_false_iff_not]
   omega
theorem prog_kok (l : List S45) (hl : l.length ≤ 100) (ht : ∀ o ∈ l, Tame o) : KOk l (progAll l 0) := by
 have hp := prog_perm l
 have hlen : (progAll l 0).length ≤ 10000 := by rw [hp.length_eq]; exact refAll_len l hl
 have hm : ∀ x ∈ progAll l 0, 0 ≤ x.f0 ∧ x.f0 < l.length ∧ 0 ≤ x.f1 ∧ x.f1 < l.length ∧ (x.f2 = 1 ∨ x.f2 = 2 ∨ x.f2 = 3 ∨ x.f2 = 4) := by
  intro x hx
  obtain ⟨i, k, h1, h2, hx⟩ := (mem_prog l x).1 hx
  obtain ⟨e1, e2, e3⟩ := admK_mem hx
  exact ⟨by omega, by omega, by omega, by omega, e3⟩
 refine ⟨⟨by omega, fun x hx => ?_, (prog_pair l).imp ?_⟩, by omega, fun o ho => ht o ho, hm⟩
 ·obtain ⟨a, b, _⟩ := hm x hx
  exact ⟨a, by omega⟩
 ·intro x y h e
  omega
/-! ### The keys -/
/-- What both make of outcomes. -/
def kRes (l : List S45) (pass : Int) : ByteArray × Int :=
 if (l.length : Int) > 100 then (⟨#[]⟩, 3) else if oddAny l = true ∨ pass < -1 ∨ pass > 9 then (⟨#[]⟩, 2) else (keyB (keyList l pass (refAll l 0)), 0)
theorem key_ev (l : List S45) (pass : Int) (ht : ∀ o ∈ l, Tame o) (hs : ∀ j, (rd_T45 l j).f1.f0.length < 4611686018427387904) : Ev (fun k => groups_Key.f k l pass) (kRes l pass) := by
 unfold groups_Key.f kRes
 refine ev_bind (differ_ev l hs) ?_
 by_cases h : (l.length : Int) > 100
 ·simp only [if_pos h]
  have : KOk l [] := ⟨⟨by simp, by simp, List.Pairwise.nil⟩, by simp, fun o ho => ht o ho, by simp⟩
  simp only [if_pos this]
  rw [if_neg (by decide)]
  exact ev_const _
 ·simp only [if_neg h, if_pos (prog_kok l (by omega) ht), sort_prog]
  by_cases h2 : oddAny l = true ∨ pass < -1 ∨ pass > 9
  ·simp only [if_pos h2, if_true]; exact ev_const _
  ·simp only [if_neg h2, if_true]; exact ev_const _
/-! ### Great or not -/
def greatL (l : List S45) : Bool := decide (l.length > 200) || l.any (fun o => decide (o.f1.f0.length > 2000) || decide (o.f0.size > 1000))
theorem great_loop (l : List S45) (hl : l.length ≤ 200) : ∀ (n i : Nat), l.length - i = n → i ≤ l.length → Ev (fun k => cupellaw35_great.l0 k l (i : Int)) ((l.drop i).any (fun o => decide (o.f1.f0.length > 2000) || decide (o.f0.size > 1000))) := by
 intro n
 induction n with
 | zero =>
  intro i hn hi
  obtain rfl : i = l.length := by omega
  rw [List.drop_eq_nil_of_le (Nat.le_refl _)]
  refine ev_step (g := fun k => cupellaw35_great.j1 k l (l.length : Int) false) (fun k => ?_) (ev_step (g := fun _ => some false) (fun k => ?_) (ev_const _))
  ·simp only [cupellaw35_great.l0]
   rw [if_neg (by omega)]
  ·simp only [cupellaw35_great.j1, Bool.false_eq_true, if_false]
   rw [decide_eq_false (by omega)]
 | succ n ih =>
  intro i hn hi
  have hlt : i < l.length := by omega
  have hw : wrap64 ((i : Int) + 1) = ((i + 1 : Nat) : Int) := by rw [w64 (by omega) (by omega)]; rfl
  rw [os_drop hlt, List.any_cons]
  refine ev_step (g := fun k => cupellaw35_great.j1 k l (i : Int) true) (fun k => ?_) ?_
  ·simp only [cupellaw35_great.l0]
   rw [if_pos (by omega), decide_eq_true (by omega)]
  ·by_cases c1 : (rd_T45 l (i : Int)).f1.f0.length > 2000
   ·refine ev_step (g := fun _ => some true) (fun k => ?_) (by rw [decide_eq_true c1, Bool.true_or, Bool.true_or]; exact ev_const _)
    simp only [cupellaw35_great.j1, if_true]
    rw [if_pos (by omega), if_pos (by omega), if_pos (by omega)]
   ·by_cases c2 : (rd_T45 l (i : Int)).f0.size > 1000
    ·refine ev_step (g := fun _ => some true) (fun k => ?_) (by rw [decide_eq_true c2, Bool.or_true, Bool.true_or]; exact ev_const _)
     simp only [cupellaw35_great.j1, if_true]
     rw [if_pos (by omega), if_pos (by omega), if_neg (by omega), if_pos (by omega)]
    ·refine ev_step (g := fun k => cupellaw35_great.l0 k l ((i + 1 : Nat) : Int)) (fun k => ?_) (by rw [decide_eq_false c1, decide_eq_false c2, Bool.or_false, Bool.false_or]; exact ih (i + 1) (by omega) (by omega))
     simp only [cupellaw35_great.j1, if_true]
     rw [if_pos (by omega), if_pos (by omega), if_neg (by omega), if_neg (by omega), hw]
theorem great_ev (l : List S45) : Ev (fun k => cupellaw35_great.f k l) (greatL l) := by
 unfold cupellaw35_great.f greatL
 by_cases h : l.length > 200
 ·rw [decide_eq_true h, Bool.true_or]
  refine ev_step (g := fun k => cupellaw35_great.j1 k l 0 false) (fun k => ?_) (ev_step (g := fun _ => some true) (fun k => ?_) (ev_const _))
  ·simp only [cupellaw35_great.l0]
   rw [if_pos (by omega), decide_eq_false (by omega)]
  ·simp only [cupellaw35_great.j1, Bool.false_eq_true, if_false]
   rw [decide_eq_true (by omega)]
 ·rw [decide_eq_false h, Bool.false_or]
  have := great_loop l (by omega) _ 0 rfl (Nat.zero_le _)
  rw [List.drop_zero] at this
  exact this
theorem small_of {l : List S45} (h : greatL l = false) : ∀ o ∈ l, o.f1.f0.length ≤ 2000 ∧ o.f0.size ≤ 1000 := by
 intro o ho
 unfold greatL at h
 rw [Bool.or_eq_false_iff] at h
 have := List.any_eq_false.1 h.2 o ho
 simp only [Bool.or_eq_true, decide_eq_true_eq, not_or] at this
 omega
theorem out_small {l : List S45} (h : ∀ o ∈ l, o.f1.f0.length ≤ 2000) (j : Int) : (rd_T45 l j).f1.f0.length < 4611686018427387904 := by
 unfold rd_T45
 rw [List.getD_eq_getElem?_getD]
 by_cases hj : j.toNat < l.length
 ·rw [List.getElem?_eq_getElem hj]
  have := h _ (List.getElem_mem hj)
  show l[j.toNat].f1.f0.length < _
  omega
 ·rw [List.getElem?_eq_none (by omega)]
  decide
end Go.Proofs.YtndennmpnomjnaaDoor.A

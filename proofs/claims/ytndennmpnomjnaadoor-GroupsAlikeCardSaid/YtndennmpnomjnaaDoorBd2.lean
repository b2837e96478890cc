/- groups.bare: plain twin and contract. -/
import Derived.Test.YtndennmpnomjnaaDoorBd
import Derived.Lib.Split
import Derived.Lib.SplitLaws
set_option linter.all false
set_option linter.unusedVariables false
set_option maxRecDepth 100000
namespace Go.Proofs.YtndennmpnomjnaaDoor.A
open Go.RowKit Go.Proofs.YtndennmpnomjnaaDoorW.PrintWords Go.Proofs.YtndennmpnomjnaaDoorW.PrintLast Go.Proofs.YtndennmpnomjnaaDoorW.PrintMore
attribute [local go_sem] max2_int min2_int max_two min_two max_three min_three max_four min_four
set_option maxHeartbeats 4000000
abbrev blankB : ByteArray := ⟨#[32]⟩
theorem splitB_sizes (k : Nat) : ∀ (s : ByteArray), ∀ x ∈ Lib.splitB blankB 0 k s, x.size ≤ s.size := by
 induction k with
 | zero => intro s x hx; simp [Lib.splitB] at hx; rw [hx]; exact Nat.le_refl _
 | succ k ih =>
  intro s x hx
  unfold Lib.splitB at hx
  split at hx
  ·simp at hx; rw [hx]; exact Nat.le_refl _
  ·rcases List.mem_cons.1 hx with rfl | hx
   ·rw [ByteArray.size_extract]; omega
   ·have := ih _ x hx
    rw [ByteArray.size_extract] at this
    omega
theorem join_le (xs : List ByteArray) (sep : List UInt8) (m : Nat) (h : ∀ x ∈ xs, x.size ≤ m) : (Lib.join (xs.map (·.data.toList)) sep).length ≤ xs.length * (m + sep.length) := by
 unfold Lib.join
 induction xs with
 | nil => simp
 | cons x xs ih =>
  have hx : x.data.toList.length ≤ m := by have := h x (by simp); rw [Array.length_toList]; exact this
  have h2 := ih (fun y hy => h y (by simp [hy]))
  have e : (xs.length + 1) * (m + sep.length) = xs.length * (m + sep.length) + (m + sep.length) := by rw [Nat.add_mul, Nat.one_mul]
  cases xs with
  | nil => simp [List.intercalate] at *; omega
  | cons y ys =>
   rw [List.map_cons, List.map_cons, show sep.intercalate (x.data.toList :: y.data.toList :: ys.map (·.data.toList)) = x.data.toList ++ sep ++ sep.intercalate (y.data.toList :: ys.map (·.data.toList)) by simp [List.intercalate, List.intersperse]]
   rw [List.map_cons] at h2
   simp only [List.length_append, List.length_cons] at *
   omega
def bareL (s : ByteArray) : List ByteArray := (Lib.splitB blankB 0 (min 3 (s.size + 1) - 1) s).take 2
/-- The bare name of a way. -/
def bareB (s : ByteArray) : ByteArray := ⟨(Lib.join ((bareL s).map (·.data.toList)) [32]).toArray⟩
theorem bareB_size (s : ByteArray) : (bareB s).size ≤ 2 * (s.size + 1) := by
 have h := join_le (bareL s) [32] s.size (fun x hx => splitB_sizes _ s x (List.mem_of_mem_take hx))
 have h2 : (bareL s).length ≤ 2 := by unfold bareL; simp; omega
 show (Lib.join ((bareL s).map (·.data.toList)) [32]).toArray.size ≤ _
 simp only [List.size_toArray]
 have := Nat.mul_le_mul_right (s.size + 1) h2
 simp at h
 omega
theorem bare_calls (s : ByteArray) (w : World) (hs : s.size ≤ 1000000) (hE : Env w) :
  Calls Tryd.prog 46 #[.string s] w fun e w' => e = .returned (.string (bareB s)) ∧ Below w.heap.size w w' := by
 obtain ⟨m, hm⟩ := hE.len
 have HS := Aside0.mk (Tryd.strings_SplitN s blankB 3 m w (by omega) hm (by decide) (by omega) (by omega))
 obtain ⟨L, hL⟩ : ∃ L, L = Lib.splitB blankB 0 (min 3 (s.size + 1) - 1) s := ⟨_, rfl⟩
 obtain ⟨Nn, hN⟩ : ∃ Nn, Nn = min 3 (s.size + 1) := ⟨_, rfl⟩
 have hLN : L.length ≤ Nn := by
  have := Lib.splitB_length_le blankB 0 (min 3 (s.size + 1) - 1) s
  rw [← hL] at this; omega
 have hL1 : 1 ≤ L.length := by
  rw [hL]
  generalize min 3 (s.size + 1) - 1 = k
  cases k with
  | zero => simp [Lib.splitB]
  | succ k => unfold Lib.splitB; split <;> simp
 have hN3 : Nn ≤ 3 := by omega
 have hb : bareB s = ⟨(Lib.join ((L.take 2).map (·.data.toList)) [32]).toArray⟩ := by rw [hL]; rfl
 have hjl : (Lib.join ((L.take 2).map (·.data.toList)) [32]).length ≤ 140737488355328 := by
  have := bareB_size s
  rw [hb] at this
  have e : (⟨(Lib.join ((L.take 2).map (·.data.toList)) [32]).toArray⟩ : ByteArray).size = (Lib.join ((L.take 2).map (·.data.toList)) [32]).length := by
   show (Lib.join ((L.take 2).map (·.data.toList)) [32]).toArray.size = _
   simp only [List.size_toArray]
  omega
 rw [← hL, ← hN] at HS
 have hcell : ∀ (j : Nat) x, (L.take 2)[j]? = some x → (w.alloc (.cells (Lib.cellsOf L Nn) 9)).cell? ⟨w.heap.size, 0 + j, none⟩ = some (.string x) := fun j x hx => by
  rw [List.getElem?_take] at hx
  split at hx
  ·have hj : j < L.length := (List.getElem?_eq_some_iff.1 hx).1
   rw [List.getElem?_eq_getElem hj] at hx
   simp [Lib.cellsOf, List.getElem?_append, hj, Option.some.inj hx]
  ·cases hx
 have HJ := Aside0.mk (Tryd.strings_Join w.heap.size 0 Nn (L.take 2) blankB (w.alloc (.cells (Lib.cellsOf L Nn) 9)) hcell (by simp) (by simp; omega) (by simp; omega) hjl)
 rw [show (⟨(Lib.join ((L.take 2).map (·.data.toList)) blankB.data.toList).toArray⟩ : ByteArray) = bareB s from hb.symm] at HJ
 generalize bareB s = R at HJ ⊢
 generalize Obj.cells (Lib.cellsOf L Nn) 9 = O at HS HJ
 rw [List.length_take] at HJ
 generalize L.length = q at *
 clear hcell hjl hb hm hL hN
 by_cases h2 : q < 2
 ·obtain rfl : q = 1 := by omega
  rw [Nat.min_eq_right (by omega)] at HJ
  have e1 := eq_true (show (1 : Nat) ≤ Nn by omega)
  have e2 := eq_true (show (1 : Int) ≤ (Nn : Int) by omega)
  clear hLN hL1 h2 hN3
  go_enter Tryd.func46, Tryd.ntmps46
  go_wp2_with (first | (go_at_call 60; refine HS.out.mono ?_; rintro e w' ⟨rfl, rfl⟩) | (go_at_call 27; refine HJ.out.mono ?_; rintro e w2 ⟨rfl, hb⟩))
  go_ret
  exact ⟨rfl, below_step (below_alloc (Below.refl _ _) _) hb⟩
 ·rw [Nat.min_eq_left (by omega)] at HJ
  have e1 := eq_true (show (2 : Nat) ≤ Nn by omega)
  have e2 := eq_true (show (2 : Int) ≤ (Nn : Int) by omega)
  rcases (show q = 2 ∨ q = 3 by omega) with rfl | rfl
  ·clear hLN hL1 h2 hN3
   go_enter Tryd.func46, Tryd.ntmps46
   go_wp2_with (first | (go_at_call 60; refine HS.out.mono ?_; rintro e w' ⟨rfl, rfl⟩) | (go_at_call 27; refine HJ.out.mono ?_; rintro e w2 ⟨rfl, hb⟩))
   go_ret
   exact ⟨rfl, below_step (below_alloc (Below.refl _ _) _) hb⟩
  ·clear hLN hL1 h2 hN3
   go_enter Tryd.func46, Tryd.ntmps46
   go_wp2_with (first | (go_at_call 60; refine HS.out.mono ?_; rintro e w' ⟨rfl, rfl⟩) | (go_at_call 27; refine HJ.out.mono ?_; rintro e w2 ⟨rfl, hb⟩))
   go_ret
   exact ⟨rfl, below_step (below_alloc (Below.refl _ _) _) hb⟩
end Go.Proofs.YtndennmpnomjnaaDoor.A

/- GroupsAny in plain words: the program's Represent comes to what the reference's does; the law's function answers true. -/
import Derived.Test.YtndennmpnomjnaaDoorPa
set_option linter.all false
set_option linter.unusedVariables false
namespace Go.Proofs.YtndennmpnomjnaaDoor.A
open Go.RowKit Go.Proofs.YtndennmpnomjnaaDoorW.PrintWords
theorem foldl_min_neg (l : List Int) : ∀ a, l.foldl min a < 0 ↔ (a < 0 ∨ ∃ x ∈ l, x < 0) := by
 induction l with
 | nil => intro a; simp
 | cons y l ih =>
  intro a
  rw [List.foldl_cons, ih]
  simp only [List.mem_cons, exists_eq_or_imp]
  rw [show (min a y < 0) ↔ (a < 0 ∨ y < 0) by omega, or_assoc]
theorem foldl_max_ge (n : Int) (l : List Int) : ∀ a, n ≤ l.foldl max a ↔ (n ≤ a ∨ ∃ x ∈ l, n ≤ x) := by
 induction l with
 | nil => intro a; simp
 | cons y l ih =>
  intro a
  rw [List.foldl_cons, ih]
  simp only [List.mem_cons, exists_eq_or_imp]
  rw [show (n ≤ max a y) ↔ (n ≤ a ∨ n ≤ y) by omega, or_assoc]
theorem minOf_neg {l : List Int} (h : 0 < l.length) : Lib.minOf l < 0 ↔ ∃ x ∈ l, x < 0 := by
 unfold Lib.minOf
 rw [foldl_min_neg]
 cases l with
 | nil => simp at h
 | cons y l => simp
theorem maxOf_ge {l : List Int} (h : 0 < l.length) (n : Int) : n ≤ Lib.maxOf l ↔ ∃ x ∈ l, n ≤ x := by
 unfold Lib.maxOf
 rw [foldl_max_ge]
 cases l with
 | nil => simp at h
 | cons y l => simp
theorem bestR_bad (sz : List Int) : ∀ (m : List Int) (b : Int), (∃ x ∈ m, x < 0 ∨ (sz.length : Int) ≤ x) → bestR sz m b = none := by
 intro m
 induction m with
 | nil => intro b h; simp at h
 | cons y m ih =>
  intro b h
  unfold bestR
  by_cases hy : y < 0 ∨ (sz.length : Int) ≤ y
  ·rw [if_pos hy]
  ·rw [if_neg hy]
   have h' : ∃ x ∈ m, x < 0 ∨ (sz.length : Int) ≤ x := by
    obtain ⟨x, hx, h⟩ := h
    rcases List.mem_cons.1 hx with rfl | hx
    ·exact absurd h hy
    ·exact ⟨x, hx, h⟩
   split <;> exact ih _ h'
def minGo (sz : List Int) (m : List Int) (b : Int) : Int := m.foldl (fun b x => if rd sz x < rd sz b then x else b) b
theorem bestR_ok (sz : List Int) : ∀ (m : List Int) (b : Int), 0 ≤ b → (∀ x ∈ m, 0 ≤ x ∧ x < (sz.length : Int)) → bestR sz m b = some (minGo sz m b) := by
 intro m
 induction m with
 | nil => intro b hb h; simp only [bestR, minGo, List.foldl_nil]; rw [if_neg (by omega)]
 | cons y m ih =>
  intro b hb h
  have hy := h y (by simp)
  simp only [bestR, minGo, List.foldl_cons]
  rw [if_neg (by omega)]
  by_cases c : rd sz y < rd sz b
  ·rw [if_pos (.inr c), if_pos c]; exact ih y hy.1 (fun x hx => h x (by simp [hx]))
  ·rw [if_neg (fun e => e.elim (by omega) c), if_neg c]; exact ih b hb (fun x hx => h x (by simp [hx]))
theorem cmpS_neg (sz : List Int) (a b : Int) : cmpS sz a b < 0 ↔ rd sz a < rd sz b := by
 unfold cmpS
 split
 ·simp_all
 ·split <;> simp_all
theorem minLoop_eq (l sz : List Int) : ∀ (n i : Nat) (m : Int), l.length - i = n → minLoop l sz n m i = minGo sz (l.drop i) m := by
 intro n
 induction n with
 | zero =>
  intro i m h
  rw [List.drop_eq_nil_of_le (by omega)]
  rfl
 | succ n ih =>
  intro i m h
  unfold minLoop
  rw [if_pos (by omega), List.drop_eq_getElem_cons (by omega), ih (i + 1) _ (by omega)]
  unfold minGo
  rw [List.foldl_cons]
  congr 1
  rw [List.getD_eq_getElem?_getD, List.getElem?_eq_getElem (by omega)]
  simp only [Option.getD_some, cmpS_neg]
/-- What the program does with one group. -/
theorem prog_group (sz m : List Int) (k : Nat) {β : Type} (bad : β) (good : Int → Option β) :
  (if (m.length : Int) = 0 then some bad else ((slices_Min_int_int.f m).bind fun t => (if t < 0 then some bad else ((slices_Max_int_int.f m).bind fun t2 => (if t2 ≥ (sz.length : Int) then some bad else ((slices_MinFunc_int_int.f k m sz).bind good))))))
   = match bestR sz m (-1) with | none => some bad | some b => good b := by
 by_cases h0 : m.length = 0
 ·rw [if_pos (by omega)]
  obtain rfl := List.eq_nil_of_length_eq_zero h0
  rfl
 ·have hp : 0 < m.length := by omega
  rw [if_neg (by omega)]
  unfold slices_Min_int_int.f slices_Max_int_int.f slices_MinFunc_int_int.f
  rw [if_pos hp, Option.bind_some]
  by_cases h1 : Lib.minOf m < 0
  ·rw [if_pos h1]
   obtain ⟨x, hx, h⟩ := (minOf_neg hp).1 h1
   rw [bestR_bad sz m (-1) ⟨x, hx, .inl h⟩]
  ·rw [if_neg h1, if_pos hp, Option.bind_some]
   by_cases h2 : Lib.maxOf m ≥ (sz.length : Int)
   ·rw [if_pos h2]
    obtain ⟨x, hx, h⟩ := (maxOf_ge hp _).1 h2
    rw [bestR_bad sz m (-1) ⟨x, hx, .inr h⟩]
   ·rw [if_neg h2]
    have hall : ∀ x ∈ m, 0 ≤ x ∧ x < (sz.length : Int) := fun x hx => by
     have a1 : ¬ x < 0 := fun h => h1 ((minOf_neg hp).2 ⟨x, hx, h⟩)
     have a2 : ¬ (sz.length : Int) ≤ x := fun h => h2 ((maxOf_ge hp _).2 ⟨x, hx, h⟩)
     omega
    rw [if_pos ⟨hp, hall⟩, Option.bind_some]
    cases m with
    | nil => simp at hp
    | cons y m =>
     have hy := hall y (by simp)
     have e : bestR sz (y :: m) (-1) = bestR sz m y := by
      simp only [bestR]
      rw [if_neg (by omega), if_pos (.inl (by decide))]
     rw [e, bestR_ok sz m y hy.1 (fun x hx => hall x (by simp [hx]))]
     have := minLoop_eq (y :: m) sz ((y :: m).length - 1) 1 y rfl
     simp only [List.getD_cons_zero]
     rw [this]
     rfl
theorem prog_outer (gs : List S35) (sz : List Int) (hg : gs.length < 1000000) :
  ∀ (n i : Nat) (acc : List Int), gs.length - i = n → i ≤ gs.length → acc.length ≤ i → Ev (fun k => groups_Represent.l0 k sz acc gs (gs.length : Int) (i : Int)) (repAll sz (gs.drop i) acc) := by
 intro n
 induction n with
 | zero =>
  intro i acc hn hi ha
  obtain rfl : i = gs.length := by omega
  rw [List.drop_eq_nil_of_le (Nat.le_refl _)]
  refine ev_step (g := fun _ => some (acc, 0)) (fun k => ?_) (ev_const _)
  simp only [groups_Represent.l0]
  rw [if_neg (by omega)]
 | succ n ih =>
  intro i acc hn hi ha
  have hlt : i < gs.length := by omega
  rw [gs_drop hlt]
  have hw : wrap64 ((i : Int) + 1) = ((i + 1 : Nat) : Int) := by rw [w64 (by omega) (by omega)]; rfl
  refine ev_step (g := fun k => match bestR sz (rd_T35 gs (i : Int)).f1 (-1) with | none => some ([], 2) | some b => groups_Represent.l0 k sz (acc ++ [b]) gs (gs.length : Int) ((i + 1 : Nat) : Int)) (fun k => ?_) ?_
  ·simp only [groups_Represent.l0]
   rw [if_pos (by omega), if_pos (by omega), if_pos (by omega), prog_group sz (rd_T35 gs (i : Int)).f1 k ([], 2)]
   cases bestR sz (rd_T35 gs (i : Int)).f1 (-1) with
   | none => rfl
   | some b =>
    show (if acc.length < 17592186044416 then _ else _) = _
    rw [if_pos (by omega), hw]
  ·simp only [repAll]
   cases bestR sz (rd_T35 gs (i : Int)).f1 (-1) with
   | none => exact ev_const _
   | some b => exact ih (i + 1) (acc ++ [b]) (by omega) (by omega) (by simp; omega)
theorem prog_ev (gs : List S35) (sz : List Int) (hg : gs.length < 1000000) : Ev (fun k => groups_Represent.f k gs sz) (repAll sz gs []) := by
 have := prog_outer gs sz hg gs.length 0 [] rfl (Nat.zero_le _) (Nat.zero_le _)
 rw [List.drop_zero] at this
 exact this
end Go.Proofs.YtndennmpnomjnaaDoor.A

/- Represent: what the program's loops and the reference's come to is one and the same. -/
import Derived.Test.YtndennmpnomjnaaDoorSh
import Derived.Test.YtndennmpnomjnaaDoorBx3
set_option linter.all false
set_option linter.unusedVariables false
namespace Go.Proofs.YtndennmpnomjnaaDoor.A
open Go.RowKit Go.Proofs.YtndennmpnomjnaaDoorW.PrintWords
theorem ev_step {α : Type} {f g : Nat → Option α} {r : α} (h : ∀ k, f (k + 1) = g k) (hg : Ev g r) : Ev f r := by
 obtain ⟨K, hK⟩ := hg
 refine ⟨K + 1, fun k hk => ?_⟩
 obtain ⟨k', rfl⟩ : ∃ k', k = k' + 1 := ⟨k - 1, by omega⟩
 rw [h]
 exact hK k' (by omega)
theorem ev_const {α : Type} (r : α) : Ev (fun _ => some r) r := ⟨0, fun _ _ => rfl⟩
theorem ev_bind {α β : Type} {f : Nat → Option α} {g : Nat → α → Option β} {a : α} {r : β} (hf : Ev f a) (hg : Ev (fun k => g k a) r) : Ev (fun k => (f k).bind (g k)) r := by
 obtain ⟨K, hK⟩ := hf
 obtain ⟨L, hL⟩ := hg
 exact ⟨max K L, fun k hk => by
  show (f k).bind (g k) = _
  rw [hK k (by omega), Option.bind_some]; exact hL k (by omega)⟩
theorem w64 {x : Int} (h0 : 0 ≤ x) (h1 : x < 4611686018427387904) : wrap64 (x + 1) = x + 1 := wrap64_small _ (by omega) (by omega)
/-- The member that stands for a group: the first with the least size; none where a member is no place. -/
def bestR (sz : List Int) : List Int → Int → Option Int
 | [], b => if b < 0 then none else some b
 | x :: m, b => if x < 0 ∨ (sz.length : Int) ≤ x then none else if b < 0 ∨ rd sz x < rd sz b then bestR sz m x else bestR sz m b
def repAll (sz : List Int) : List S35 → List Int → List Int × Int
 | [], acc => (acc, 0)
 | g :: gs, acc => match bestR sz g.f1 (-1) with
  | none => ([], 2)
  | some b => repAll sz gs (acc ++ [b])
theorem rd_drop {l : List Int} {j : Nat} (h : j < l.length) : l.drop j = rd l (j : Int) :: l.drop (j + 1) := by
 rw [List.drop_eq_getElem_cons h]
 simp [rd, h]
/-- The reference. -/
theorem ref_inner (gs : List S35) (sz : List Int) (acc : List Int) (i : Nat) (m : List Int) (hm : m.length < 4611686018427387904) (hacc : acc.length < 17592186044416) (hi : i < 4611686018427387904)
  (next : ∀ b, Ev (fun k => cupelref35_Represent.l0 k gs sz (acc ++ [b]) ((i : Int) + 1)) (repAll sz (gs.drop (i + 1)) (acc ++ [b]))) :
  ∀ (n j : Nat) (b : Int), m.length - j = n → j ≤ m.length → (b < 0 ∨ b < sz.length) → Ev (fun k => cupelref35_Represent.l1 k gs sz acc (i : Int) m b (j : Int)) (match bestR sz (m.drop j) b with | none => ([], 2) | some b => repAll sz (gs.drop (i + 1)) (acc ++ [b])) := by
 intro n
 induction n with
 | zero =>
  intro j b hn hj hb
  obtain rfl : j = m.length := by omega
  rw [List.drop_eq_nil_of_le (Nat.le_refl _)]
  by_cases h : b < 0
  ·refine ev_step (g := fun _ => some ([], 2)) (fun k => ?_) ?_
   ·simp only [cupelref35_Represent.l1]
    rw [if_neg (by omega), if_pos h]
   ·simp only [bestR, if_pos h]; exact ev_const _
  ·refine ev_step (g := fun k => cupelref35_Represent.l0 k gs sz (acc ++ [b]) ((i : Int) + 1)) (fun k => ?_) ?_
   ·simp only [cupelref35_Represent.l1]
    rw [if_neg (by omega), if_neg h, if_pos hacc, w64 (by omega) (by omega)]
   ·simp only [bestR, if_neg h]; exact next b
 | succ n ih =>
  intro j b hn hj hb
  have hlt : j < m.length := by omega
  have hz : (j : Int) < (m.length : Int) := by omega
  have h0 : 0 ≤ (j : Int) := by omega
  rw [rd_drop hlt]
  obtain ⟨x, hx⟩ : ∃ x, x = rd m (j : Int) := ⟨_, rfl⟩
  have hw : wrap64 ((j : Int) + 1) = ((j + 1 : Nat) : Int) := by rw [w64 h0 (by omega)]; rfl
  rw [← hx]
  by_cases h1 : x < 0
  ·refine ev_step (g := fun k => cupelref35_Represent.j2 k gs sz acc i m b j true) (fun k => ?_) (ev_step (g := fun _ => some ([], 2)) (fun k => ?_) ?_)
   ·simp only [cupelref35_Represent.l1]
    rw [if_pos hz, if_pos h0, ← hx, if_pos h1]
   ·simp only [cupelref35_Represent.j2, if_true]
   ·simp only [bestR]; rw [if_pos (.inl h1)]; exact ev_const _
  ·by_cases h2 : (sz.length : Int) ≤ x
   ·refine ev_step (g := fun k => cupelref35_Represent.j2 k gs sz acc i m b j true) (fun k => ?_) (ev_step (g := fun _ => some ([], 2)) (fun k => ?_) ?_)
    ·simp only [cupelref35_Represent.l1]
     rw [if_pos hz, if_pos h0, ← hx, if_neg h1, decide_eq_true h2]
    ·simp only [cupelref35_Represent.j2, if_true]
    ·simp only [bestR]; rw [if_pos (.inr h2)]; exact ev_const _
   ·have hnb : ¬ (x < 0 ∨ (sz.length : Int) ≤ x) := fun h => h.elim h1 h2
    refine ev_step (g := fun k => cupelref35_Represent.j2 k gs sz acc i m b j false) (fun k => ?_) ?_
    ·simp only [cupelref35_Represent.l1]
     rw [if_pos hz, if_pos h0, ← hx, if_neg h1, decide_eq_false h2]
    ·simp only [bestR]
     rw [if_neg hnb]
     by_cases h3 : b < 0
     ·rw [if_pos (.inl h3)]
      refine ev_step (g := fun k => cupelref35_Represent.l1 k gs sz acc i m x ((j + 1 : Nat) : Int)) (fun k => ?_) (ih (j + 1) x (by omega) (by omega) (.inr (by omega)))
      simp only [cupelref35_Represent.j2]
      rw [if_neg (by decide), if_pos h3, if_pos h0, if_pos hz, ← hx, hw]
     ·have hb' : b < sz.length := hb.resolve_left h3
      by_cases h4 : rd sz x < rd sz b
      ·rw [if_pos (.inr h4)]
       refine ev_step (g := fun k => cupelref35_Represent.l1 k gs sz acc i m x ((j + 1 : Nat) : Int)) (fun k => ?_) (ih (j + 1) x (by omega) (by omega) (.inr (by omega)))
       simp only [cupelref35_Represent.j2]
       rw [if_neg (by decide), if_neg h3, if_pos h0, if_pos hz, ← hx, if_pos (by omega), if_pos (by omega), if_pos (by omega), if_pos hb', if_pos h4, hw]
      ·rw [if_neg (fun h => h.elim h3 h4)]
       refine ev_step (g := fun k => cupelref35_Represent.l1 k gs sz acc i m b ((j + 1 : Nat) : Int)) (fun k => ?_) (ih (j + 1) b (by omega) (by omega) (.inr hb'))
       simp only [cupelref35_Represent.j2]
       rw [if_neg (by decide), if_neg h3, if_pos h0, if_pos hz, ← hx, if_pos (by omega), if_pos (by omega), if_pos (by omega), if_pos hb', if_neg h4, hw]
theorem gs_drop {gs : List S35} {i : Nat} (h : i < gs.length) : gs.drop i = rd_T35 gs (i : Int) :: gs.drop (i + 1) := by
 rw [List.drop_eq_getElem_cons h]
 simp [rd_T35, h]
theorem ref_outer (gs : List S35) (sz : List Int) (hg : gs.length < 1000000) (hm : ∀ g ∈ gs, g.f1.length < 4611686018427387904) :
  ∀ (n i : Nat) (acc : List Int), gs.length - i = n → i ≤ gs.length → acc.length ≤ i → Ev (fun k => cupelref35_Represent.l0 k gs sz acc (i : Int)) (repAll sz (gs.drop i) acc) := by
 intro n
 induction n with
 | zero =>
  intro i acc hn hi ha
  obtain rfl : i = gs.length := by omega
  rw [List.drop_eq_nil_of_le (Nat.le_refl _)]
  refine ev_step (g := fun _ => some (acc, 0)) (fun k => ?_) (ev_const _)
  simp only [cupelref35_Represent.l0]
  rw [if_neg (by omega)]
 | succ n ih =>
  intro i acc hn hi ha
  have hlt : i < gs.length := by omega
  rw [gs_drop hlt]
  have hmem : rd_T35 gs (i : Int) ∈ gs := by
   unfold rd_T35
   rw [Int.toNat_natCast, List.getD_eq_getElem?_getD, List.getElem?_eq_getElem hlt]
   exact List.getElem_mem _
  refine ev_step (g := fun k => cupelref35_Represent.l1 k gs sz acc i (rd_T35 gs i).f1 (-1) ((0 : Nat) : Int)) (fun k => ?_) ?_
  ·simp only [cupelref35_Represent.l0]
   rw [if_pos (by omega), if_pos (by omega)]
   rfl
  ·have := ref_inner gs sz acc i (rd_T35 gs i).f1 (hm _ hmem) (by omega) (by omega) (fun b => ih (i + 1) (acc ++ [b]) (by omega) (by omega) (by simp; omega)) _ 0 (-1) rfl (Nat.zero_le _) (.inl (by decide))
   rw [List.drop_zero] at this
   exact this
end Go.Proofs.YtndennmpnomjnaaDoor.A

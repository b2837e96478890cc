/- GroupsGroups in plain words: the program's groups and the reference's are one and the same; the law's function answers true. -/
import Derived.Test.YtndennmpnomjnaaDoorPb
set_option linter.all false
set_option linter.unusedVariables false
namespace Go.Proofs.YtndennmpnomjnaaDoor.A
open Go.RowKit Go.Proofs.YtndennmpnomjnaaDoorW.PrintWords
/-- One key more. -/
def gNew (gs : List S35) (s : ByteArray) : List S35 := if kfind (gs.map (·.f0)) s < gs.length then gs else gs ++ [⟨s, []⟩]
def gStep (gs : List S35) (i : Int) (s : ByteArray) : List S35 := (gNew gs s).set (kfind (gs.map (·.f0)) s) ⟨(rd_T35 (gNew gs s) (kfind (gs.map (·.f0)) s : Nat)).f0, (rd_T35 (gNew gs s) (kfind (gs.map (·.f0)) s : Nat)).f1 ++ [i]⟩
def gAll : List ByteArray → Nat → List S35 → List S35
 | [], _, gs => gs
 | s :: ks, i, gs => gAll ks (i + 1) (gStep gs (i : Int) s)
/-- So many groups, so many members. -/
def Few (n : Nat) (gs : List S35) : Prop := gs.length ≤ n ∧ ∀ g ∈ gs, g.f1.length ≤ n
theorem kfind_le' (gs : List S35) (s : ByteArray) : kfind (gs.map (·.f0)) s ≤ gs.length := by
 have := kfind_le (gs.map (·.f0)) s
 simpa using this
theorem rdT_few {n : Nat} {gs : List S35} (h : ∀ g ∈ gs, g.f1.length ≤ n) (i : Nat) : (rd_T35 gs (i : Int)).f1.length ≤ n := by
 unfold rd_T35
 rw [Int.toNat_natCast, List.getD_eq_getElem?_getD]
 by_cases hi : i < gs.length
 ·rw [List.getElem?_eq_getElem hi]; exact h _ (List.getElem_mem hi)
 ·rw [List.getElem?_eq_none (by omega)]; exact Nat.zero_le _
theorem gNew_few {n : Nat} {gs : List S35} (h : Few n gs) (s : ByteArray) : (gNew gs s).length ≤ n + 1 ∧ ∀ g ∈ gNew gs s, g.f1.length ≤ n := by
 unfold gNew
 split
 ·exact ⟨by have := h.1; omega, h.2⟩
 ·refine ⟨by rw [List.length_append]; have := h.1; simp; omega, fun g hg => ?_⟩
  rcases List.mem_append.1 hg with hg | hg
  ·exact h.2 g hg
  ·simp at hg; rw [hg]; exact Nat.zero_le _
theorem gStep_few {n : Nat} {gs : List S35} (h : Few n gs) (i : Int) (s : ByteArray) : Few (n + 1) (gStep gs i s) := by
 obtain ⟨h1, h2⟩ := gNew_few h s
 refine ⟨by unfold gStep; rw [List.length_set]; exact h1, fun g hg => ?_⟩
 unfold gStep at hg
 rcases List.mem_or_eq_of_mem_set hg with hg | hg
 ·exact Nat.le_succ_of_le (h2 g hg)
 ·rw [hg]
  have := rdT_few h2 (kfind (gs.map (·.f0)) s)
  simp only [List.length_append, List.length_cons, List.length_nil]
  omega
theorem ks_drop {ks : List ByteArray} {i : Nat} (h : i < ks.length) : ks.drop i = rdOf ByteArray.empty ks (i : Int) :: ks.drop (i + 1) := by
 rw [List.drop_eq_getElem_cons h]
 simp [rdOf, h]
theorem prog_groups (ks : List ByteArray) (hk : ks.length ≤ 1000) :
  ∀ (n i : Nat) (gs : List S35), ks.length - i = n → i ≤ ks.length → Few i gs → Ev (fun k => groups_Groups.l0 k [] gs ks (ks.length : Int) (i : Int)) (gAll (ks.drop i) i gs, 0) := by
 intro n
 induction n with
 | zero =>
  intro i gs hn hi hf
  obtain rfl : i = ks.length := by omega
  rw [List.drop_eq_nil_of_le (Nat.le_refl _)]
  refine ev_step (g := fun _ => some (gs, 0)) (fun k => ?_) (ev_const _)
  simp only [groups_Groups.l0]
  rw [if_neg (by omega)]
 | succ n ih =>
  intro i gs hn hi hf
  have hlt : i < ks.length := by omega
  rw [ks_drop hlt]
  obtain ⟨s, hs⟩ : ∃ s, s = rdOf ByteArray.empty ks (i : Int) := ⟨_, rfl⟩
  have hw : wrap64 ((i : Int) + 1) = ((i + 1 : Nat) : Int) := by rw [w64 (by omega) (by omega)]; rfl
  have hle := kfind_le' gs s
  have hgl := hf.1
  rw [← hs]
  refine ev_step (g := fun k => groups_Groups.l0 k [] (gStep gs (i : Int) s) ks (ks.length : Int) ((i + 1 : Nat) : Int)) (fun k => ?_) (ih (i + 1) _ (by omega) (by omega) (gStep_few hf _ _))
  simp only [groups_Groups.l0]
  rw [if_pos (by omega), if_pos (by omega), if_pos (by omega), if_pos (by omega), ← hs]
  unfold gfind
  by_cases c : kfind (gs.map (·.f0)) s < gs.length
  ·have hb := rdT_few hf.2 (kfind (gs.map (·.f0)) s)
   rw [if_pos (by omega), if_pos (by omega), if_pos (by omega), if_pos (by omega), hw, Int.toNat_natCast]
   unfold gStep gNew
   rw [if_pos c]
  ·obtain ⟨m, hm⟩ : ∃ m, m = kfind (gs.map (·.f0)) s := ⟨_, rfl⟩
   have e : m = gs.length := by omega
   have hb := rdT_few (gNew_few hf s).2 gs.length
   rw [if_neg (by omega), if_pos (by omega), Option.bind_some, if_pos (by omega), if_pos (by rw [List.length_append]; simp; omega)]
   have e2 : gNew gs s = gs ++ [⟨s, []⟩] := by unfold gNew; rw [if_neg c]
   rw [← e2, if_pos (by omega), hw, Int.toNat_natCast]
   unfold gStep
   rw [← hm, e]
theorem toList_inj {a b : ByteArray} : a.toList = b.toList ↔ a = b := by
 constructor
 ·intro h
  rw [Lib.toList_data, Lib.toList_data] at h
  cases a; cases b
  simpa using h
 ·rintro rfl; rfl
theorem kfind_at {gs : List S35} {s : ByteArray} {j : Nat} (hj : j < gs.length) : (j = kfind (gs.map (·.f0)) s → (rd_T35 gs (j : Int)).f0 = s) ∧ (j < kfind (gs.map (·.f0)) s → ¬ (rd_T35 gs (j : Int)).f0 = s) := by
 have e : (rd_T35 gs (j : Int)).f0 = (gs.map (·.f0))[j]'(by simpa using hj) := by
  unfold rd_T35
  rw [Int.toNat_natCast, List.getD_eq_getElem?_getD, List.getElem?_eq_getElem hj]
  simp
 rw [e]
 constructor
 ·intro h
  have hlt : List.findIdx (fun k => decide (k = s)) (gs.map (·.f0)) < (gs.map (·.f0)).length := by unfold kfind at h; rw [← h]; simpa using hj
  have := List.findIdx_getElem (w := hlt)
  simp only [decide_eq_true_eq] at this
  unfold kfind at h
  subst h
  exact this
 ·intro h e2
  have := List.not_of_lt_findIdx (p := fun k => decide (k = s)) (xs := gs.map (·.f0)) h
  simp only [decide_eq_false_iff_not] at this
  exact this e2
theorem few_nil : Few 0 [] := ⟨Nat.le_refl _, fun g h => by simp at h⟩
theorem gAll_few : ∀ (ks : List ByteArray) (i : Nat) (gs : List S35), Few i gs → Few (i + ks.length) (gAll ks i gs) := by
 intro ks
 induction ks with
 | nil => intro i gs h; exact h
 | cons s ks ih =>
  intro i gs h
  have := ih (i + 1) _ (gStep_few h (i : Int) s)
  rw [show i + (s :: ks).length = i + 1 + ks.length by simp; omega]
  exact this
/-- What both make of keys. -/
def gRes (ks : List ByteArray) : List S35 × Int := if (ks.length : Int) > 1000 then ([], 3) else (gAll ks 0 [], 0)
theorem gGroups_ev (ks : List ByteArray) (hw : ∀ s ∈ ks, s.size ≤ maxLen) : Ev (fun k => gGroups.f k ks) (gRes ks) := by
 unfold gGroups.f groups_Groups.f gRes
 simp only [not_true_eq_false, if_neg (fun h => h hw : ¬ ¬ (∀ s ∈ ks, s.size ≤ maxLen))]
 by_cases h : (ks.length : Int) > 1000
 ·simp only [if_pos h]; exact ev_const _
 ·simp only [if_neg h]
  have := prog_groups ks (by omega) ks.length 0 [] rfl (Nat.zero_le _) few_nil
  rw [List.drop_zero] at this
  exact this
theorem gRes_few (ks : List ByteArray) : Few 1000 (gRes ks).1 := by
 unfold gRes
 split
 ·exact ⟨Nat.zero_le _, fun g h => by simp at h⟩
 ·have := gAll_few ks 0 [] few_nil
  exact ⟨by have := this.1; show (gAll ks 0 []).length ≤ 1000; omega, fun g hg => by have := this.2 g hg; omega⟩
end Go.Proofs.YtndennmpnomjnaaDoor.A

/- Progress of the plain reader: a token that is taken and is not the end lies further on. -/
import Derived.Test.YtlaijeeeblcinaaDoorRw
import Derived.Test.YtlaijeeeblcinaaDoorRi
import Derived.Test.YtlaijeeeblcinaaDoorRefRows
import Derived.Test.YtlaijeeeblcinaaDoorNm
set_option linter.all false
set_option maxRecDepth 100000
namespace Go.Proofs.YtlaijeeeblcinaaDoor.A
open Go.RowKit Go.Proofs.YtlaijeeeblcinaaDoorW.PrintWords
structure GoodT (s : ByteArray) (a : Nat) (t : Tok) : Prop where
 ok : TokOk s t
 ge : a ≤ t.end_
 gt : t.sort ≠ 0 → a < t.end_
 one : t.sort ≠ 0 → t.sort ≠ 97 → t.sort ≠ 48 → t.text.size = 1
theorem GoodT.weak {s : ByteArray} {a b : Nat} {t : Tok} (h : GoodT s b t) (hab : a ≤ b) : GoodT s a t :=
 ⟨h.ok, Nat.le_trans hab h.ge, fun e => Nat.lt_of_le_of_lt hab (h.gt e), h.one⟩
theorem tokP_good {s : ByteArray} {i : Nat} {k : Tok} (hi : i ≤ s.size) (h : tokP s i = some k) : GoodT s i k := by
 have h0 := tokP_ok hi h
 have h1 := skip_ge s i
 have h2 := skip_le s i hi
 refine ⟨h0, ?_, ?_, ?_⟩ <;>
 ·unfold tokP at h
  dsimp only at h
  split at h
  ·cases h; first | exact h1 | (intro e; exact absurd rfl e)
  ·split at h
   ·cases h
    have := endOf_ge (fun b => isLow b || isDig b) s (skipP s i + 1)
    first
     | (show i ≤ wordEnd s (skipP s i + 1); unfold wordEnd; omega)
     | (intro _; show i < wordEnd s (skipP s i + 1); unfold wordEnd; omega)
     | (intro _ e; exact absurd rfl e)
   ·split at h
    ·split at h
     ·cases h
      have := endOf_ge isDig s (skipP s i + 1)
      first
       | (show i ≤ digEnd s (skipP s i + 1); unfold digEnd; omega)
       | (intro _; show i < digEnd s (skipP s i + 1); unfold digEnd; omega)
       | (intro _ _ e; exact absurd rfl e)
     ·cases h
    ·split at h
     ·cases h
      first
       | (show i ≤ skipP s i + 1; omega)
       | (intro _; show i < skipP s i + 1; omega)
       | (intro _ _ _; show (s.extract (skipP s i) (skipP s i + 1)).size = 1; rw [ByteArray.size_extract]; omega)
     ·cases h
theorem nextP_good {s : ByteArray} {a : Nat} {t k : Tok} (ht : GoodT s a t) (h : nextP s t = .ok k) : GoodT s t.end_ k := by
 unfold nextP at h
 split at h
 ·cases h; exact tokP_good ht.ok.1 ‹_›
 ·cases h
theorem wantP_good {s x : ByteArray} {a : Nat} {t k : Tok} (ht : GoodT s a t) (h : wantP s x t = .ok k) : GoodT s a k ∧ a < k.end_ := by
 unfold wantP at h
 split at h
 ·cases h
 ·rename_i c
  have hk := nextP_good ht h
  have := ht.gt (fun e => c (.inl e))
  exact ⟨hk.weak ht.ge, Nat.lt_of_lt_of_le this hk.ge⟩
theorem numberP_good {s : ByteArray} {kind : Int} {a : Nat} {t : Tok} {k : Int × Tok} (ht : GoodT s a t) (h : numberP s kind t = .ok k) : GoodT s a k.2 ∧ a < k.2.end_ := by
 unfold numberP at h
 split at h
 ·cases h
 ·rename_i c
  obtain ⟨b, h1, h2⟩ := bind_ok h
  cases h2
  have hk := nextP_good ht h1
  have h48 : t.sort = 48 := Decidable.byContradiction fun e => c (.inl e)
  have := ht.gt (by omega)
  exact ⟨hk.weak ht.ge, Nat.lt_of_lt_of_le this hk.ge⟩
theorem registerP_good {s : ByteArray} {a : Nat} {t : Tok} {k : Int × Tok} (ht : GoodT s a t) (h : registerP s t = .ok k) : GoodT s a k.2 ∧ 0 ≤ k.1 ∧ k.1 < 10 := by
 unfold registerP at h
 split at h
 ·cases h
 ·rename_i c
  obtain ⟨b, h1, h2⟩ := bind_ok h
  cases h2
  refine ⟨(nextP_good ht h1).weak ht.ge, ?_⟩
  have c' : isRegP t = true := by simpa using c
  unfold isRegP at c'
  simp only [Bool.and_eq_true] at c'
  have := c'.2
  unfold isDig at this
  simp only [Bool.and_eq_true, decide_eq_true_eq] at this
  omega
theorem placeP_good {s : ByteArray} {a : Nat} {t : Tok} {k : (Int × Int) × Tok} (ht : GoodT s a t) (h : placeP s t = .ok k) : GoodT s a k.2 ∧ 0 ≤ k.1.2 ∧ k.1.2 < 10 := by
 unfold placeP at h
 obtain ⟨b, h1, h⟩ := bind_ok h
 obtain ⟨c, h2, h⟩ := bind_ok h
 obtain ⟨d, h3, h⟩ := bind_ok h
 obtain ⟨e, h4, h⟩ := bind_ok h
 cases h
 have g1 := numberP_good ht h1
 have g2 := wantP_good g1.1 h2
 have g3 := registerP_good g2.1 h3
 have g4 := wantP_good g3.1 h4
 exact ⟨g4.1, g3.2⟩
theorem commaP_good {s : ByteArray} {a : Nat} {f : Bool} {t k : Tok} (ht : GoodT s a t) (h : commaP s f t = .ok k) : GoodT s a k := by
 unfold commaP at h
 split at h
 ·cases h; exact ht
 ·exact (wantP_good ht h).1
theorem optRegP_good {s : ByteArray} {a : Nat} {u f : Bool} {t : Tok} {k : Int × Bool × Tok} (ht : GoodT s a t) (h : optRegP s u f t = .ok k) : GoodT s a k.2.2 ∧ 0 ≤ k.1 ∧ k.1 < 10 := by
 unfold optRegP at h
 split at h
 ·obtain ⟨b, h1, h⟩ := bind_ok h
  obtain ⟨c, h2, h⟩ := bind_ok h
  cases h
  exact registerP_good (commaP_good ht h1) h2
 ·cases h; exact ⟨ht, Int.le_refl 0, (by decide : (0 : Int) < 10)⟩
theorem instrP_good {s : ByteArray} {x : Row20} {a : Nat} {t : Tok} {k : MI × Tok} (ht : GoodT s a t) (h : instrP s x t = .ok k) :
  GoodT s a k.2 ∧ a < k.2.end_ ∧ k.1.1 = x.1 ∧ (0 ≤ k.1.2.1 ∧ k.1.2.1 < 10) ∧ (0 ≤ k.1.2.2.1 ∧ k.1.2.2.1 < 10) ∧ (0 ≤ k.1.2.2.2.1 ∧ k.1.2.2.2.1 < 10) := by
 unfold instrP at h
 split at h
 ·rename_i c4
  obtain ⟨b, h1, h⟩ := bind_ok h
  obtain ⟨c, h2, h⟩ := bind_ok h
  obtain ⟨d, h3, h⟩ := bind_ok h
  obtain ⟨e, h4, h⟩ := bind_ok h
  cases h
  have g1 := registerP_good ht h1
  have g2 := wantP_good g1.1 h2
  have g3 := placeP_good g2.1 h3
  have g4 := wantP_good g3.1 h4
  exact ⟨g4.1, g4.2, c4.symm, g1.2, g3.2, Int.le_refl 0, (by decide : (0 : Int) < 10)⟩
 ·split at h
  ·rename_i c4 c5
   obtain ⟨b, h1, h⟩ := bind_ok h
   obtain ⟨c, h2, h⟩ := bind_ok h
   obtain ⟨d, h3, h⟩ := bind_ok h
   obtain ⟨e, h4, h⟩ := bind_ok h
   cases h
   have g1 := placeP_good ht h1
   have g2 := wantP_good g1.1 h2
   have g3 := registerP_good g2.1 h3
   have g4 := wantP_good g3.1 h4
   exact ⟨g4.1, g4.2, c5.symm, ⟨Int.le_refl 0, (by decide : (0 : Int) < 10)⟩, g1.2, g3.2⟩
  ·obtain ⟨b, h1, h⟩ := bind_ok h
   obtain ⟨c, h2, h⟩ := bind_ok h
   obtain ⟨d, h3, h⟩ := bind_ok h
   obtain ⟨e, h4, h⟩ := bind_ok h
   obtain ⟨f, h5, h⟩ := bind_ok h
   cases h
   have g1 := optRegP_good ht h1
   have g2 := optRegP_good g1.1 h2
   have g3 := optRegP_good g2.1 h3
   have g4 : GoodT s a e.2 := by
    split at h4
    ·cases h4; exact g3.1
    ·obtain ⟨z, h6, h4⟩ := bind_ok h4
     exact (numberP_good (commaP_good g3.1 h6) h4).1
   have g5 := wantP_good g4 h5
   exact ⟨g5.1, g5.2, rfl, g1.2, g2.2, g3.2⟩
end Go.Proofs.YtlaijeeeblcinaaDoor.A
set_option linter.all false
set_option maxRecDepth 100000
namespace Go.Proofs.YtlaijeeeblcinaaDoor.A
open Go.RowKit Go.Lib Go.Proofs.YtlaijeeeblcinaaDoorW.PrintWords
def rowsS : List S56 := simpleS ++ binsS 14
def r20 (x : S56) : Row20 := (x.f0, x.f1, x.f2, x.f3, x.f4, x.f5)
/-- the first row with a word -/
def refRow (s : ByteArray) : Option S56 := rowsS.find? fun x => decide (s = x.f1)
def sameRow (s : ByteArray) : Bool := match refRow s with
 | some x => (namedP s).2 && decide ((namedP s).1.1 = x.f0) && decide ((namedP s).1.2.1 = x.f1) && ((namedP s).1.2.2.1 == x.f2) && ((namedP s).1.2.2.2.1 == x.f3) && ((namedP s).1.2.2.2.2.1 == x.f4) && decide ((namedP s).1.2.2.2.2.2 = x.f5)
 | none => !(namedP s).2
theorem same_words : rowsS.all (fun x => sameRow x.f1) = true := by decide +kernel
theorem trow_words : (List.range 14).all (fun i => rowsS.any fun x => decide ((trowAt i).2.1 = x.f1)) = true := by decide +kernel
theorem op_words : (List.range 14).all (fun i => rowsS.any (fun x => decide (opAt i = x.f1)) && rowsS.any (fun x => decide (opAt i ++ ⟨#[105]⟩ = x.f1))) = true := by decide +kernel
theorem rowFrom_none (s : ByteArray) (h : ∀ i, i < 14 → (trowAt i).2.1 ≠ s) : ∀ n i, i + n ≤ 14 → rowFrom s n i = none := by
 intro n
 induction n with
 | zero => intro i _; rfl
 | succ n ih =>
  intro i hi
  unfold rowFrom
  rw [if_neg (fun e => h i (by omega) (tl_inj.1 e))]
  exact ih (i + 1) (by omega)
theorem idx_none (s : ByteArray) (h : ∀ i, i < 14 → opAt i ≠ s) : ∀ n i, i + n ≤ 14 → idxFrom s n i = -1 := by
 intro n
 induction n with
 | zero => intro i _; rfl
 | succ n ih =>
  intro i hi
  unfold idxFrom
  rw [if_neg (fun e => h i (by omega) (tl_inj.1 e).symm)]
  exact ih (i + 1) (by omega)
theorem split_last (s : ByteArray) (h1 : 1 ≤ s.size) (h2 : (s.extract (s.size - 1) s.size).toList = [105]) : s = s.extract 0 (s.size - 1) ++ ⟨#[105]⟩ := by
 have h3 : s.extract (s.size - 1) s.size = ⟨#[105]⟩ := by
  apply tl_inj.1; rw [h2, Go.ByteArray.toList_eq]
 rw [← h3]
 apply tl_inj.1
 rw [Go.ByteArray.toList_eq, Go.ByteArray.toList_eq, ByteArray.data_append, Array.toList_append, ex_list, ex_list]
 have hl : s.data.toList.length = s.size := by rw [Array.length_toList]; rfl
 rw [List.drop_zero, Nat.sub_zero, List.take_of_length_le (l := s.data.toList.drop (s.size - 1)) (by rw [List.length_drop]; omega), List.take_append_drop]
theorem named_none (s : ByteArray) (h : ∀ x ∈ rowsS, s ≠ x.f1) : (namedP s).2 = false := by
 have ht : ∀ i, i < 14 → (trowAt i).2.1 ≠ s := by
  intro i hi e
  have := List.all_eq_true.1 trow_words i (List.mem_range.2 hi)
  obtain ⟨x, hx, hx2⟩ := List.any_eq_true.1 this
  exact h x hx (e.symm.trans (of_decide_eq_true hx2))
 have ho : ∀ i, i < 14 → opAt i ≠ s ∧ opAt i ++ ⟨#[105]⟩ ≠ s := by
  intro i hi
  have := List.all_eq_true.1 op_words i (List.mem_range.2 hi)
  rw [Bool.and_eq_true] at this
  obtain ⟨x, hx, hx2⟩ := List.any_eq_true.1 this.1
  obtain ⟨y, hy, hy2⟩ := List.any_eq_true.1 this.2
  exact ⟨fun e => h x hx (e.symm.trans (of_decide_eq_true hx2)), fun e => h y hy (e.symm.trans (of_decide_eq_true hy2))⟩
 have h1 := rowFrom_none s ht 14 0 (by decide)
 have h2 : opIdx s = -1 := idx_none s (fun i hi => (ho i hi).1) 14 0 (by decide)
 have h3 : opIdx (trimI s) = -1 := by
  unfold trimI
  by_cases c : 1 ≤ s.size ∧ (s.extract (s.size - 1) s.size).toList = [105]
  ·rw [if_pos c]
   refine idx_none _ (fun i hi e => (ho i hi).2 ?_) 14 0 (by decide)
   rw [e]; exact (split_last s c.1 c.2).symm
  ·rw [if_neg c]; exact h2
 unfold namedP
 rw [h1, h2, h3]; rfl
theorem named_ref (s : ByteArray) : match refRow s with
  | some x => namedP s = (r20 x, true)
  | none => (namedP s).2 = false := by
 cases hr : refRow s with
 | none =>
  refine named_none s fun x hx e => ?_
  have := List.find?_eq_none.1 hr x hx
  exact this (decide_eq_true e)
 | some x =>
  have hx := List.mem_of_find?_eq_some hr
  have hr2 : rowsS.find? (fun x => decide (s = x.f1)) = some x := hr
  have he : s = x.f1 := by simpa using List.find?_some hr2
  have := List.all_eq_true.1 same_words x hx
  rw [← he] at this
  unfold sameRow at this
  rw [hr] at this
  simp only [Bool.and_eq_true, decide_eq_true_eq, beq_iff_eq] at this
  obtain ⟨⟨⟨⟨⟨⟨a, b⟩, c⟩, d⟩, e⟩, f⟩, g⟩ := this
  show namedP s = (r20 x, true)
  unfold r20
  rw [← b, ← c, ← d, ← e, ← f, ← g, ← a]
end Go.Proofs.YtlaijeeeblcinaaDoor.A

/- Progress of the plain reader: a token that is taken and is not the end lies further on. -/
import Derived.Test.YtlaijeeeblcinaaDoorRw
set_option linter.all false
set_option maxRecDepth 100000
namespace Go.Proofs.YtlaijeeeblcinaaDoor.A
open Go.RowKit Go.Proofs.YtlaijeeeblcinaaDoorW.PrintWords
structure GoodT (s : ByteArray) (a : Nat) (t : Tok) : Prop where
 ok : TokOk s t
 ge : a ≤ t.end_
 gt : t.sort ≠ 0 → a < t.end_
 one : t.sort ≠ 0 → t.sort ≠ 97 → t.sort ≠ 48 → t.text.size = 1
theorem GoodT.weak {s : ByteArray} {a b : Nat} {t : Tok} (h : GoodT s b t) (hab : a ≤ b) : GoodT s a t :=
 ⟨h.ok, Nat.le_trans hab h.ge, fun e => Nat.lt_of_le_of_lt hab (h.gt e), h.one⟩
theorem tokP_good {s : ByteArray} {i : Nat} {k : Tok} (hi : i ≤ s.size) (h : tokP s i = some k) : GoodT s i k := by
 have h0 := tokP_ok hi h
 have h1 := skip_ge s i
 have h2 := skip_le s i hi
 refine ⟨h0, ?_, ?_, ?_⟩ <;>
 ·unfold tokP at h
  dsimp only at h
  split at h
  ·cases h; first | exact h1 | (intro e; exact absurd rfl e)
  ·split at h
   ·cases h
    have := endOf_ge (fun b => isLow b || isDig b) s (skipP s i + 1)
    first
     | (show i ≤ wordEnd s (skipP s i + 1); unfold wordEnd; omega)
     | (intro _; show i < wordEnd s (skipP s i + 1); unfold wordEnd; omega)
     | (intro _ e; exact absurd rfl e)
   ·split at h
    ·split at h
     ·cases h
      have := endOf_ge isDig s (skipP s i + 1)
      first
       | (show i ≤ digEnd s (skipP s i + 1); unfold digEnd; omega)
       | (intro _; show i < digEnd s (skipP s i + 1); unfold digEnd; omega)
       | (intro _ _ e; exact absurd rfl e)
     ·cases h
    ·split at h
     ·cases h
      first
       | (show i ≤ skipP s i + 1; omega)
       | (intro _; show i < skipP s i + 1; omega)
       | (intro _ _ _; show (s.extract (skipP s i) (skipP s i + 1)).size = 1; rw [ByteArray.size_extract]; omega)
     ·cases h
theorem nextP_good {s : ByteArray} {a : Nat} {t k : Tok} (ht : GoodT s a t) (h : nextP s t = .ok k) : GoodT s t.end_ k := by
 unfold nextP at h
 split at h
 ·cases h; exact tokP_good ht.ok.1 ‹_›
 ·cases h
theorem wantP_good {s x : ByteArray} {a : Nat} {t k : Tok} (ht : GoodT s a t) (h : wantP s x t = .ok k) : GoodT s a k ∧ a < k.end_ := by
 unfold wantP at h
 split at h
 ·cases h
 ·rename_i c
  have hk := nextP_good ht h
  have := ht.gt (fun e => c (.inl e))
  exact ⟨hk.weak ht.ge, Nat.lt_of_lt_of_le this hk.ge⟩
theorem numberP_good {s : ByteArray} {kind : Int} {a : Nat} {t : Tok} {k : Int × Tok} (ht : GoodT s a t) (h : numberP s kind t = .ok k) : GoodT s a k.2 ∧ a < k.2.end_ := by
 unfold numberP at h
 split at h
 ·cases h
 ·rename_i c
  obtain ⟨b, h1, h2⟩ := bind_ok h
  cases h2
  have hk := nextP_good ht h1
  have h48 : t.sort = 48 := Decidable.byContradiction fun e => c (.inl e)
  have := ht.gt (by omega)
  exact ⟨hk.weak ht.ge, Nat.lt_of_lt_of_le this hk.ge⟩
theorem registerP_good {s : ByteArray} {a : Nat} {t : Tok} {k : Int × Tok} (ht : GoodT s a t) (h : registerP s t = .ok k) : GoodT s a k.2 ∧ 0 ≤ k.1 ∧ k.1 < 10 := by
 unfold registerP at h
 split at h
 ·cases h
 ·rename_i c
  obtain ⟨b, h1, h2⟩ := bind_ok h
  cases h2
  refine ⟨(nextP_good ht h1).weak ht.ge, ?_⟩
  have c' : isRegP t = true := by simpa using c
  unfold isRegP at c'
  simp only [Bool.and_eq_true] at c'
  have := c'.2
  unfold isDig at this
  simp only [Bool.and_eq_true, decide_eq_true_eq] at this
  omega
theorem placeP_good {s : ByteArray} {a : Nat} {t : Tok} {k : (Int × Int) × Tok} (ht : GoodT s a t) (h : placeP s t = .ok k) : GoodT s a k.2 ∧ 0 ≤ k.1.2 ∧ k.1.2 < 10 := by
 unfold placeP at h
 obtain ⟨b, h1, h⟩ := bind_ok h
 obtain ⟨c, h2, h⟩ := bind_ok h
 obtain ⟨d, h3, h⟩ := bind_ok h
 obtain ⟨e, h4, h⟩ := bind_ok h
 cases h
 have g1 := numberP_good ht h1
 have g2 := wantP_good g1.1 h2
 have g3 := registerP_good g2.1 h3
 have g4 := wantP_good g3.1 h4
 exact ⟨g4.1, g3.2⟩
theorem commaP_good {s : ByteArray} {a : Nat} {f : Bool} {t k : Tok} (ht : GoodT s a t) (h : commaP s f t = .ok k) : GoodT s a k := by
 unfold commaP at h
 split at h
 ·cases h; exact ht
 ·exact (wantP_good ht h).1
theorem optRegP_good {s : ByteArray} {a : Nat} {u f : Bool} {t : Tok} {k : Int × Bool × Tok} (ht : GoodT s a t) (h : optRegP s u f t = .ok k) : GoodT s a k.2.2 ∧ 0 ≤ k.1 ∧ k.1 < 10 := by
 unfold optRegP at h
 split at h
 ·obtain ⟨b, h1, h⟩ := bind_ok h
  obtain ⟨c, h2, h⟩ := bind_ok h
  cases h
  exact registerP_good (commaP_good ht h1) h2
 ·cases h; exact ⟨ht, Int.le_refl 0, (by decide : (0 : Int) < 10)⟩
theorem instrP_good {s : ByteArray} {x : Row20} {a : Nat} {t : Tok} {k : MI × Tok} (ht : GoodT s a t) (h : instrP s x t = .ok k) :
  GoodT s a k.2 ∧ a < k.2.end_ ∧ k.1.1 = x.1 ∧ (0 ≤ k.1.2.1 ∧ k.1.2.1 < 10) ∧ (0 ≤ k.1.2.2.1 ∧ k.1.2.2.1 < 10) ∧ (0 ≤ k.1.2.2.2.1 ∧ k.1.2.2.2.1 < 10) := by
 unfold instrP at h
 split at h
 ·rename_i c4
  obtain ⟨b, h1, h⟩ := bind_ok h
  obtain ⟨c, h2, h⟩ := bind_ok h
  obtain ⟨d, h3, h⟩ := bind_ok h
  obtain ⟨e, h4, h⟩ := bind_ok h
  cases h
  have g1 := registerP_good ht h1
  have g2 := wantP_good g1.1 h2
  have g3 := placeP_good g2.1 h3
  have g4 := wantP_good g3.1 h4
  exact ⟨g4.1, g4.2, c4.symm, g1.2, g3.2, Int.le_refl 0, (by decide : (0 : Int) < 10)⟩
 ·split at h
  ·rename_i c4 c5
   obtain ⟨b, h1, h⟩ := bind_ok h
   obtain ⟨c, h2, h⟩ := bind_ok h
   obtain ⟨d, h3, h⟩ := bind_ok h
   obtain ⟨e, h4, h⟩ := bind_ok h
   cases h
   have g1 := placeP_good ht h1
   have g2 := wantP_good g1.1 h2
   have g3 := registerP_good g2.1 h3
   have g4 := wantP_good g3.1 h4
   exact ⟨g4.1, g4.2, c5.symm, ⟨Int.le_refl 0, (by decide : (0 : Int) < 10)⟩, g1.2, g3.2⟩
  ·obtain ⟨b, h1, h⟩ := bind_ok h
   obtain ⟨c, h2, h⟩ := bind_ok h
   obtain ⟨d, h3, h⟩ := bind_ok h
   obtain ⟨e, h4, h⟩ := bind_ok h
   obtain ⟨f, h5, h⟩ := bind_ok h
   cases h
   have g1 := optRegP_good ht h1
   have g2 := optRegP_good g1.1 h2
   have g3 := optRegP_good g2.1 h3
   have g4 : GoodT s a e.2 := by
    split at h4
    ·cases h4; exact g3.1
    ·obtain ⟨z, h6, h4⟩ := bind_ok h4
     exact (numberP_good (commaP_good g3.1 h6) h4).1
   have g5 := wantP_good g4 h5
   exact ⟨g5.1, g5.2, rfl, g1.2, g2.2, g3.2⟩
end Go.Proofs.YtlaijeeeblcinaaDoor.A

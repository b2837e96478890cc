/- TargetDecodes in plain Lean. -/
import Derived.Test.YtlaijeeeblcinaaDoorRk
import Derived.Test.YtlaijeeeblcinaaDoorBx5
import Derived.Test.YtlaijeeeblcinaaDoorBx4
set_option linter.all false
set_option linter.unusedVariables false
set_option linter.unusedSimpArgs false
set_option maxRecDepth 100000
namespace Go.Proofs.YtlaijeeeblcinaaDoor.A
open Go.RowKit Go.Proofs.YtlaijeeeblcinaaDoorW.PrintWords
theorem awake_30 : cupellaw20_awake.f 30 = some true := by decide +kernel
theorem awake_ge (k : Nat) (h : 30 ≤ k) : cupellaw20_awake.f k = some true := by
 obtain ⟨d, rfl⟩ : ∃ d, k = 30 + d := ⟨k - 30, by omega⟩
 clear h
 induction d with
 | zero => exact awake_30
 | succ d ih => exact cupellaw20_awake.mono _ _ ih
end Go.Proofs.YtlaijeeeblcinaaDoor.A
set_option linter.all false
set_option linter.unusedVariables false
set_option linter.unusedSimpArgs false
set_option maxRecDepth 100000
namespace Go.Proofs.YtlaijeeeblcinaaDoor.A
open Go.RowKit Go.Proofs.YtlaijeeeblcinaaDoorW.PrintWords
def okS (x : S26) : Bool := (target_Valid.f x.f0 x.f1 x.f2 x.f3 x.f4).getD false
theorem okS_some (x : S26) : target_Valid.f x.f0 x.f1 x.f2 x.f3 x.f4 = some (okS x) := by
 obtain ⟨r, hr, _⟩ := valid_total x.f0 x.f1 x.f2 x.f3 x.f4
 unfold okS; rw [hr]; rfl
theorem okS_parts {x : S26} (h : okS x = true) : Parts x.f0 x.f1 x.f2 x.f3 := by
 obtain ⟨r, hr, hp⟩ := valid_total x.f0 x.f1 x.f2 x.f3 x.f4
 have := (okS_some x).symm.trans hr
 exact hp (by rw [← Option.some.inj this]; exact h)
/-- the words of an instruction -/
def wordsS (x : S26) : List Int := (cupelref20_words.f x.f0 x.f1 x.f2 x.f3 x.f4).getD []
theorem wordsS_ref (x : S26) : cupelref20_words.f x.f0 x.f1 x.f2 x.f3 x.f4 = some (wordsS x) := by
 obtain ⟨ws, h, _⟩ := words_some x.f0 x.f1 x.f2 x.f3 x.f4
 unfold wordsS; rw [h]; rfl
theorem wordsS_len (x : S26) : (wordsS x).length = if x.f0 = 3 then 2 else 1 := by
 obtain ⟨ws, h, hl⟩ := words_some x.f0 x.f1 x.f2 x.f3 x.f4
 unfold wordsS; rw [h]; exact hl
theorem words_app (l : List Int) (hl : l.length ≤ 1000000) (a b c d e : Int) (ws : List Int) (h : target_words.f [] a b c d e = some ws) : target_words.f l a b c d e = some (l ++ ws) := by
 unfold target_words.f at h ⊢
 by_cases c3 : a = 3
 ·rw [if_pos c3] at h ⊢
  simp only [Option.bind_some, List.length_cons, List.length_nil, List.nil_append] at h ⊢
  rw [if_pos (by omega)] at h
  rw [if_pos (by omega)]
  cases h; rfl
 ·rw [if_neg c3] at h ⊢
  simp only [List.length_nil, List.nil_append] at h ⊢
  rw [if_pos (by omega)] at h
  rw [if_pos (by omega)]
  cases h; rfl
theorem words_valid {x : S26} (h : okS x = true) (l : List Int) (hl : l.length ≤ 1000000) : target_words.f l x.f0 x.f1 x.f2 x.f3 x.f4 = some (l ++ wordsS x) := by
 obtain ⟨h0, h1, h2, h3, h4, h5, h6⟩ := okS_parts h
 refine words_app l hl _ _ _ _ _ _ ?_
 rw [words_eq _ _ _ _ _ (by omega) ⟨h1, h2⟩ ⟨h3, h4⟩ ⟨h5, h6⟩]
 exact wordsS_ref x
/-- what Encode answers -/
def encP (l : List S26) : List Int × Int := if l.all okS then (if 20000 < (l.flatMap wordsS).length then ([], 3) else (l.flatMap wordsS, 0)) else ([], 2)
theorem rdS (l : List S26) (i : Nat) (h : i < l.length) : rd_T26 l (i : Int) = l[i] := by
 unfold rd_T26
 simp [List.getD_eq_getElem?_getD, h]
theorem wordsS_le (x : S26) : (wordsS x).length ≤ 2 := by rw [wordsS_len]; split <;> omega
theorem drop_cons_S (l : List S26) (i : Nat) (h : i < l.length) : l.drop i = l[i] :: l.drop (i + 1) := List.drop_eq_getElem_cons h
def fin (acc : List Int) : List Int × Int := if 20000 < acc.length then ([], 3) else (acc, 0)
theorem enc_T (l : List S26) (hl : l.length ≤ 300) : ∀ (m i k : Nat) (acc : List Int), i + m = l.length → m < k → acc.length ≤ 2 * i →
  target_Encode.l0 k acc l (l.length : Int) (i : Int) = some (if (l.drop i).all okS then fin (acc ++ (l.drop i).flatMap wordsS) else ([], 2)) := by
 intro m
 induction m with
 | zero =>
  intro i k acc h hk ha
  obtain ⟨k, rfl⟩ : ∃ q, k = q + 1 := ⟨k - 1, by omega⟩
  simp only [target_Encode.l0]
  rw [if_neg (by omega), List.drop_of_length_le (by omega)]
  simp only [List.all_nil, if_true, List.flatMap_nil, List.append_nil, fin]
  by_cases c : 20000 < acc.length
  ·rw [if_pos (by omega), if_pos c]
  ·rw [if_neg (by omega), if_neg c]
 | succ m ih =>
  intro i k acc h hk ha
  obtain ⟨k, rfl⟩ : ∃ q, k = q + 1 := ⟨k - 1, by omega⟩
  have hi : i < l.length := by omega
  simp only [target_Encode.l0]
  rw [if_pos (by omega), if_pos (by omega), if_pos (by omega), rdS l i hi, drop_cons_S l i hi]
  unfold et_Valid.f
  rw [okS_some, Option.bind_some]
  simp only [List.all_cons, List.flatMap_cons]
  cases hv : okS l[i] with
  | false => simp
  | true =>
   rw [if_pos rfl, words_valid hv acc (by omega), Option.bind_some, show wrap64 ((i : Int) + 1) = ((i + 1 : Nat) : Int) by unfold wrap64; omega]
   rw [ih (i + 1) k _ (by omega) (by omega) (by rw [List.length_append]; have := wordsS_le l[i]; omega)]
   simp only [Bool.true_and, List.append_assoc]
theorem encP_eq (l : List S26) : encP l = if l.all okS then fin (l.flatMap wordsS) else ([], 2) := rfl
theorem enc_target (l : List S26) (hl : l.length ≤ 300) (k : Nat) (hk : 700 ≤ k) : target_Encode.f k l = some (encP l) := by
 have := enc_T l hl l.length 0 k [] (by omega) (by omega) (by simp)
 unfold target_Encode.f; rw [encP_eq]; simpa using this
theorem same_refl (a : List Int) : ∀ (m i k : Nat), i + m = a.length → a.length ≤ 100000 → 2 * m + 2 ≤ k → cupellaw20_sameWords.l0 k a a (i : Int) = some true := by
 intro m
 induction m with
 | zero =>
  intro i k h ha hk
  obtain ⟨k, rfl⟩ : ∃ q, k = q + 2 := ⟨k - 2, by omega⟩
  simp only [cupellaw20_sameWords.l0]
  rw [if_neg (by omega)]
  simp only [cupellaw20_sameWords.j1]
  rw [if_neg (by decide)]
  simp
 | succ m ih =>
  intro i k h ha hk
  obtain ⟨k, rfl⟩ : ∃ q, k = q + 2 := ⟨k - 2, by omega⟩
  simp only [cupellaw20_sameWords.l0]
  rw [if_pos (by omega)]
  simp only [cupellaw20_sameWords.j1]
  rw [if_pos (by simp; omega), if_pos (by omega), if_pos (by omega), if_pos (by omega)]
  simp only [if_true]
  rw [show wrap64 ((i : Int) + 1) = ((i + 1 : Nat) : Int) by unfold wrap64; omega]
  exact ih (i + 1) k (by omega) ha (by omega)
theorem same_f (a : List Int) (ha : a.length ≤ 10000) (k : Nat) (hk : 2 * a.length + 2 ≤ k) : cupellaw20_sameWords.f k a a = some true := same_refl a a.length 0 k (by omega) (by omega) hk
end Go.Proofs.YtlaijeeeblcinaaDoor.A

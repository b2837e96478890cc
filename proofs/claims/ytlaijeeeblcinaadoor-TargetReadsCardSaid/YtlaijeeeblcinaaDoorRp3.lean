/- The reference's Parse as functions of the reader's state. -/
import Derived.Test.YtlaijeeeblcinaaDoorRt
import Derived.Test.YtlaijeeeblcinaaDoorAx11
import Derived.Test.YtlaijeeeblcinaaDoorPa1
import Derived.Test.YtlaijeeeblcinaaDoorRk
import Derived.Test.YtlaijeeeblcinaaDoorLe
set_option linter.all false
set_option maxRecDepth 100000
namespace Go.Proofs.YtlaijeeeblcinaaDoor.A
open Go.RowKit Go.Lib Go.Proofs.YtlaijeeeblcinaaDoorW.PrintWords
abbrev LI := List Int
def l0R (k : Nat) (q : RS) (d : LI) (en : Int) : Option PRes := cupelref20_Parse.l0 k q.1 q.2.1 q.2.2.1 q.2.2.2.1 q.2.2.2.2.1 q.2.2.2.2.2.1 q.2.2.2.2.2.2.1 q.2.2.2.2.2.2.2 d en
def l1R (k : Nat) (T : List S56) (q : RS) (c d : LI) (en : Int) : Option PRes := cupelref20_Parse.l1 k T q.1 q.2.1 q.2.2.1 q.2.2.2.1 q.2.2.2.2.1 q.2.2.2.2.2.1 q.2.2.2.2.2.2.1 q.2.2.2.2.2.2.2 c d en
def pj2R (k : Nat) (T : List S56) (f : Bool) (q : RS) (c d : LI) (en : Int) : Option PRes := cupelref20_Parse.j2 k T f q.1 q.2.1 q.2.2.1 q.2.2.2.1 q.2.2.2.2.1 q.2.2.2.2.2.1 q.2.2.2.2.2.2.1 q.2.2.2.2.2.2.2 c d en
def l2R (k : Nat) (T : List S56) (f : Bool) (i : Int) (q : RS) (c d : LI) (en : Int) : Option PRes := cupelref20_Parse.l2 k T f i q.1 q.2.1 q.2.2.1 q.2.2.2.1 q.2.2.2.2.1 q.2.2.2.2.2.1 q.2.2.2.2.2.2.1 q.2.2.2.2.2.2.2 c d en
def j4R (k : Nat) (T : List S56) (f : Bool) (i : Int) (g : Bool) (q : RS) (c d : LI) (en : Int) : Option PRes := cupelref20_Parse.j4 k T f i g q.1 q.2.1 q.2.2.1 q.2.2.2.1 q.2.2.2.2.1 q.2.2.2.2.2.1 q.2.2.2.2.2.2.1 q.2.2.2.2.2.2.2 c d en
theorem l0_eq (k : Nat) (q : RS) (d : LI) (en : Int) : l0R (k + 1) q d en = (takeR k q dataW).bind fun b => if b.1 = true then (numberR k b.2 2).bind fun n => if d.length < 17592186044416 then (wantR k n.2 ⟨#[59]⟩).bind fun w => l0R k w (d ++ [n.1]) en else none else (cupelref20_rows.f).bind fun T => l1R k T b.2 [] d en := by
 unfold l0R; simp only [cupelref20_Parse.l0]; rfl
theorem l1_eq (k : Nat) (T : List S56) (q : RS) (c d : LI) (en : Int) : l1R (k + 1) T q c d en = if q.2.2.2.2.2.2.1 = true then pj2R k T false q c d en else pj2R k T (q.2.2.2.1 != 46) q c d en := by
 unfold l1R; simp only [cupelref20_Parse.l1]; rfl
theorem pj2_eq (k : Nat) (T : List S56) (f : Bool) (q : RS) (c d : LI) (en : Int) : pj2R (k + 1) T f q c d en = if f = true then l2R k T false 0 q c d en else if q.2.2.2.2.2.2.1 = true then some ([], [], 0, q.2.2.2.2.2.2.2, 6) else (cupelref20_Check.f k c d en).bind fun e => if e = 0 then some (c, d, en, 0, 0) else some ([], [], 0, 0, e) := by
 unfold pj2R; simp only [cupelref20_Parse.j2]; rfl
theorem l2_eq (k : Nat) (T : List S56) (f : Bool) (i : Int) (q : RS) (c d : LI) (en : Int) : l2R (k + 1) T f i q c d en = if i < (T.length : Int) then j4R k T f i (!f) q c d en else j4R k T f i false q c d en := by
 unfold l2R; simp only [cupelref20_Parse.l2]; rfl
theorem j4_eq (k : Nat) (T : List S56) (f : Bool) (i : Int) (g : Bool) (q : RS) (c d : LI) (en : Int) : j4R (k + 1) T f i g q c d en = if g = true then (if 0 ≤ i then (if i < (T.length : Int) then (takeR k q (rd_T56 T i).f1).bind fun b => if b.1 = true then (instrR k b.2 (r20 (rd_T56 T i))).bind fun m =>
   if m.2.2.2.2.2.2.2.2.2.2.2.1 = true then l2R k T true (wrap64 (i + 1)) m.2.2.2.2.2 c d en else (cupelref20_words.f m.1 m.2.1 m.2.2.1 m.2.2.2.1 m.2.2.2.2.1).bind fun ws => if c.length + ws.length < 17592186044416 then l2R k T true (wrap64 (i + 1)) m.2.2.2.2.2 (c ++ ws) d en else none
   else l2R k T f (wrap64 (i + 1)) b.2 c d en else none) else none)
  else if f = true then l1R k T q c d en else (wrongR q).bind fun b => l1R k T b c d en := by
 unfold j4R; simp only [cupelref20_Parse.j4]; rfl
/-- in a bad state -/
theorem l1_bad {p : Int} {q : RS} (h : IsB p q) (k : Nat) (hk : 2 ≤ k) (T : List S56) (c d : LI) (en : Int) : l1R k T q c d en = some (bad p) := by
 obtain ⟨k, rfl⟩ : ∃ z, k = z + 2 := ⟨k - 2, by omega⟩
 rw [l1_eq, if_pos h.1, pj2_eq, if_neg (by decide), if_pos h.1, h.2]; rfl
theorem l0_bad {p : Int} {q : RS} (h : IsB p q) (k : Nat) (hk : 3 ≤ k) (d : LI) (en : Int) : l0R k q d en = some (bad p) := by
 obtain ⟨k, rfl⟩ : ∃ z, k = z + 1 := ⟨k - 1, by omega⟩
 rw [l0_eq, take_bad h, Option.bind_some, if_neg (by simp)]
 exact l1_bad h k (by omega) _ _ _ _
/-- a row has been found -/
theorem l2_found (k : Nat) (T : List S56) (i : Int) (q : RS) (c d : LI) (en : Int) : l2R (k + 2) T true i q c d en = l1R k T q c d en := by
 rw [l2_eq, show (!true) = false from rfl, ite_self, j4_eq, if_neg (by decide), if_pos rfl]
end Go.Proofs.YtlaijeeeblcinaaDoor.A
set_option linter.all false
set_option maxRecDepth 100000
namespace Go.Proofs.YtlaijeeeblcinaaDoor.A
open Go.RowKit Go.Lib Go.Proofs.YtlaijeeeblcinaaDoorW.PrintWords
theorem not_word {s : ByteArray} {a : Nat} {t : Tok} (hg : GoodT s a t) (x : ByteArray) (hx : x.size ≠ 1) (h : ¬ (t.sort = 97 ∧ t.text = x)) : t.sort = 0 ∨ t.sort = 48 ∨ t.text ≠ x := by
 by_cases c0 : t.sort = 0
 ·exact .inl c0
 by_cases c1 : t.sort = 48
 ·exact .inr (.inl c1)
 refine .inr (.inr fun e => ?_)
 by_cases c2 : t.sort = 97
 ·exact h ⟨c2, e⟩
 ·have := hg.one c0 c2 c1
  rw [e] at this; exact hx this
def DataR (s : ByteArray) (n : Nat) (t : Tok) (d : LI) (en : Int) (R : Except Int (LI × Tok)) : Prop := ∀ kk, n + 4 * s.size + 30 ≤ kk → match R with
 | .error p => l0R kk (stG s t) d en = some (bad p)
 | .ok x => (∃ a, GoodT s a x.2) ∧ ∃ k2, kk ≤ k2 + n + 1 ∧ l0R kk (stG s t) d en = l1R k2 rowsS (stG s x.2) [] x.1 en
theorem data_ref (s : ByteArray) (hs : s.size ≤ 600000) (en : Int) : ∀ (n a : Nat) (t : Tok) (d : LI), GoodT s a t → s.size - t.end_ < n → d.length ≤ t.end_ → ∀ k, n ≤ k →
  ∃ R, dataF s k d t = some R ∧ DataR s n t d en R := by
 intro n
 induction n with
 | zero => intro a t d hg h; omega
 | succ n ih =>
  intro a t d hg h hd k hk
  obtain ⟨k, rfl⟩ : ∃ z, k = z + 1 := ⟨k - 1, by omega⟩
  unfold dataF
  by_cases c : t.sort = 97 ∧ t.text.toList = dataW.toList
  ·rw [if_pos c]
   have hx : t.text = dataW := tl_inj.1 c.2
   have hyes : ¬ (t.sort = 0 ∨ t.sort = 48 ∨ t.text ≠ dataW) := by
    rintro (e | e | e)
    ·omega
    ·omega
    ·exact e hx
   have hle := hg.ok.1
   have key : ∀ kk, 4 * s.size + 30 ≤ kk → ∃ v q3, l0R (kk + 1) (stG s t) d en = l0R kk q3 (d ++ [v]) en ∧
     VE s ((nextP s t).bind fun x => (numberP s 2 x).bind fun b => (wantP s ⟨#[59]⟩ b.2).bind fun e => .ok (b.1, e)) v q3 := by
    intro kk hkk
    obtain ⟨q1, e1, h1⟩ := take_yes s hs t hg.ok kk (by omega) dataW hyes
    obtain ⟨v, q2, e2, h2⟩ := number_any hs h1 kk (by omega) 2
    obtain ⟨q3, e3, h3⟩ := want_any hs h2.st kk (by omega) ⟨#[59]⟩
    refine ⟨v, q3, ?_, ?_⟩
    ·rw [l0_eq, e1, Option.bind_some, if_pos rfl]
     dsimp only
     rw [e2, Option.bind_some, if_pos (by omega), e3, Option.bind_some]
    ·clear e1 e2 e3
     revert h1 h2 h3
     cases nextP s t with
     | error p => exact fun _ _ h => h
     | ok x =>
      simp only [Except.bind]
      intro _
      cases numberP s 2 x with
      | error p => exact fun _ h => h
      | ok b =>
       simp only [Except.bind]
       intro h2
       cases wantP s ⟨#[59]⟩ b.2 with
       | error p => exact fun h => h
       | ok e => exact fun h => ⟨h2.1, h.1, h.2⟩
   cases h1 : nextP s t with
   | error p =>
    refine ⟨_, rfl, fun kk hkk => ?_⟩
    obtain ⟨kk, rfl⟩ : ∃ z, kk = z + 1 := ⟨kk - 1, by omega⟩
    obtain ⟨v, q3, e, hV⟩ := key kk (by omega)
    rw [h1] at hV
    show l0R (kk + 1) (stG s t) d en = some (bad p)
    rw [e]; exact l0_bad hV kk (by omega) _ _
   | ok x =>
    dsimp only
    cases h2 : numberP s 2 x with
    | error p =>
     refine ⟨_, rfl, fun kk hkk => ?_⟩
     obtain ⟨kk, rfl⟩ : ∃ z, kk = z + 1 := ⟨kk - 1, by omega⟩
     obtain ⟨v, q3, e, hV⟩ := key kk (by omega)
     rw [h1] at hV
     simp only [Except.bind, h2] at hV
     show l0R (kk + 1) (stG s t) d en = some (bad p)
     rw [e]; exact l0_bad hV kk (by omega) _ _
    | ok b =>
     dsimp only
     rw [if_pos (by omega)]
     cases h3 : wantP s ⟨#[59]⟩ b.2 with
     | error p =>
      refine ⟨_, rfl, fun kk hkk => ?_⟩
      obtain ⟨kk, rfl⟩ : ∃ z, kk = z + 1 := ⟨kk - 1, by omega⟩
      obtain ⟨v, q3, e, hV⟩ := key kk (by omega)
      rw [h1] at hV
      simp only [Except.bind, h2, h3] at hV
      show l0R (kk + 1) (stG s t) d en = some (bad p)
      rw [e]; exact l0_bad hV kk (by omega) _ _
     | ok y =>
      dsimp only
      have g1 := nextP_good hg h1
      have g2 := numberP_good g1 h2
      have g3 := wantP_good g2.1 h3
      have hy := g3.1.ok.1
      obtain ⟨R, hR, hD⟩ := ih t.end_ y (d ++ [b.1]) g3.1 (by omega) (by rw [List.length_append]; simp only [List.length_cons, List.length_nil]; omega) k (by omega)
      refine ⟨R, hR, fun kk hkk => ?_⟩
      obtain ⟨kk, rfl⟩ : ∃ z, kk = z + 1 := ⟨kk - 1, by omega⟩
      obtain ⟨v, q3, e, hV⟩ := key kk (by omega)
      rw [h1] at hV
      simp only [Except.bind, h2, h3] at hV
      obtain ⟨hv, hq, _⟩ := hV
      have hDk := hD kk (by omega)
      dsimp only at hv hq
      rw [e, hv, hq]
      cases R with
      | error p => exact hDk
      | ok z =>
       obtain ⟨ha, k2, hk2, he⟩ := hDk
       exact ⟨ha, k2, by omega, he⟩
  ·rw [if_neg c]
   refine ⟨_, rfl, fun kk hkk => ⟨⟨a, hg⟩, kk - 1, by omega, ?_⟩⟩
   obtain ⟨kk, rfl⟩ : ∃ z, kk = z + 1 := ⟨kk - 1, by omega⟩
   rw [l0_eq, take_no s t kk dataW (not_word hg dataW (by decide) (fun e => c ⟨e.1, tl_inj.2 e.2⟩)), Option.bind_some, if_neg (by simp)]
   rfl
end Go.Proofs.YtlaijeeeblcinaaDoor.A
set_option linter.all false
set_option maxRecDepth 100000
namespace Go.Proofs.YtlaijeeeblcinaaDoor.A
open Go.RowKit Go.Lib Go.Proofs.YtlaijeeeblcinaaDoorW.PrintWords
theorem rows_len : rowsS.length = 42 := by decide +kernel
theorem rows_size : rowsS.all (fun x => decide (x.f1.size ≠ 1) && decide (0 ≤ x.f0) && decide (x.f0 < 256)) = true := by decide +kernel
theorem rows_mem {x : S56} (h : x ∈ rowsS) : x.f1.size ≠ 1 ∧ 0 ≤ x.f0 ∧ x.f0 < 256 := by
 have := List.all_eq_true.1 rows_size x h
 simp only [Bool.and_eq_true, decide_eq_true_eq] at this
 exact ⟨this.1.1, this.1.2, this.2⟩
theorem rdT (l : List S56) (i : Nat) (h : i < l.length) : rd_T56 l (i : Int) = l[i] := by
 unfold rd_T56
 simp [List.getD_eq_getElem?_getD, h]
theorem rt_zero (t : Tok) (h : t.sort = 0) : (rt t).2.2.1 = 46 := by unfold rt; rw [if_pos h]
theorem rt_nzero (t : Tok) (h : t.sort ≠ 0) : (rt t).2.2.1 ≠ 46 := by
 unfold rt
 rw [if_neg h]
 split
 ·simp
 ·split <;> simp
theorem scan_none {s : ByteArray} {a : Nat} {t : Tok} (hg : GoodT s a t) (c d : LI) (en : Int) : ∀ (m i k : Nat), i + m = rowsS.length → 2 * m + 5 ≤ k →
  (∀ x ∈ rowsS.drop i, ¬ (t.sort = 97 ∧ t.text = x.f1)) → l2R k rowsS false (i : Int) (stG s t) c d en = some (bad t.at_) := by
 intro m
 induction m with
 | zero =>
  intro i k h hk hx
  obtain ⟨k, rfl⟩ : ∃ z, k = z + 2 := ⟨k - 2, by omega⟩
  rw [l2_eq, if_neg (by omega), j4_eq, if_neg (by decide), if_neg (by decide)]
  obtain ⟨q, e, hb⟩ := wrong_good s t
  rw [e, Option.bind_some]
  exact l1_bad hb k (by omega) _ _ _ _
 | succ m ih =>
  intro i k h hk hx
  obtain ⟨k, rfl⟩ : ∃ z, k = z + 2 := ⟨k - 2, by omega⟩
  have hi : i < rowsS.length := by omega
  rw [l2_eq, if_pos (by omega), j4_eq, if_pos (by decide), if_pos (by omega), if_pos (by omega), rdT rowsS i hi]
  rw [List.drop_eq_getElem_cons hi] at hx
  have h0 := hx _ (List.mem_cons_self)
  rw [take_no s t k _ (not_word hg _ (rows_mem (List.getElem_mem hi)).1 h0), Option.bind_some, if_neg (by simp)]
  rw [wrap_succ i (by have := rows_len; omega)]
  exact ih (i + 1) k (by omega) (by omega) (fun x hm => hx x (List.mem_cons_of_mem _ hm))
def foundR (k : Nat) (x : S56) (j : Int) (q : RS) (c d : LI) (en : Int) : Option PRes :=
 (instrR k q (r20 x)).bind fun m => if m.2.2.2.2.2.2.2.2.2.2.2.1 = true then l2R k rowsS true j m.2.2.2.2.2 c d en else (cupelref20_words.f m.1 m.2.1 m.2.2.1 m.2.2.2.1 m.2.2.2.2.1).bind fun ws => if c.length + ws.length < 17592186044416 then l2R k rowsS true j m.2.2.2.2.2 (c ++ ws) d en else none
theorem scan_some {s : ByteArray} (hs : s.size ≤ 600000) {a : Nat} {t : Tok} (hg : GoodT s a t) (h97 : t.sort = 97) (c d : LI) (en : Int) (x : S56) : ∀ (m i k : Nat), i + m = rowsS.length → 2 * m + 4 * s.size + 12 ≤ k →
  (rowsS.drop i).find? (fun x => decide (t.text = x.f1)) = some x → ∃ k2 j q, k ≤ k2 + 2 * m ∧ l2R k rowsS false (i : Int) (stG s t) c d en = foundR k2 x j q c d en ∧ StE s (nextP s t) q := by
 intro m
 induction m with
 | zero =>
  intro i k h hk hx
  rw [List.drop_of_length_le (by omega)] at hx
  cases hx
 | succ m ih =>
  intro i k h hk hx
  obtain ⟨k, rfl⟩ : ∃ z, k = z + 2 := ⟨k - 2, by omega⟩
  have hi : i < rowsS.length := by omega
  rw [l2_eq, if_pos (by omega), j4_eq, if_pos (by decide), if_pos (by omega), if_pos (by omega), rdT rowsS i hi]
  rw [List.drop_eq_getElem_cons hi, List.find?_cons] at hx
  by_cases h0 : t.text = rowsS[i].f1
  ·rw [decide_eq_true h0] at hx
   cases hx
   obtain ⟨q, e, hq⟩ := take_yes s hs t hg.ok k (by omega) _ (by
    rintro (e | e | e)
    ·omega
    ·omega
    ·exact e h0)
   refine ⟨k, wrap64 ((i : Int) + 1), q, by omega, ?_, hq⟩
   rw [e, Option.bind_some, if_pos rfl]
   rfl
  ·rw [decide_eq_false h0] at hx
   rw [take_no s t k _ (not_word hg _ (rows_mem (List.getElem_mem hi)).1 (fun e => h0 e.2)), Option.bind_some, if_neg (by simp)]
   rw [wrap_succ i (by have := rows_len; omega)]
   obtain ⟨k2, j, q, h1, h2, h3⟩ := ih (i + 1) k (by omega) (by omega) hx
   exact ⟨k2, j, q, by omega, h2, h3⟩
/-- the words that are added -/
theorem words_both (l : LI) (hl : l.length ≤ 1000000) (v : MI) (h1 : 0 ≤ v.1 ∧ v.1 < 256) (h2 : 0 ≤ v.2.1 ∧ v.2.1 < 10) (h3 : 0 ≤ v.2.2.1 ∧ v.2.2.1 < 10) (h4 : 0 ≤ v.2.2.2.1 ∧ v.2.2.2.1 < 10) :
  ∃ ws, ws.length ≤ 2 ∧ cupelref20_words.f v.1 v.2.1 v.2.2.1 v.2.2.2.1 v.2.2.2.2 = some ws ∧ target_words.f l v.1 v.2.1 v.2.2.1 v.2.2.2.1 v.2.2.2.2 = some (l ++ ws) := by
 obtain ⟨ws, h, hn⟩ := words_some v.1 v.2.1 v.2.2.1 v.2.2.2.1 v.2.2.2.2
 refine ⟨ws, by rw [hn]; split <;> omega, h, words_app l hl _ _ _ _ _ ws ?_⟩
 rw [words_eq _ _ _ _ _ h1 h2 h3 h4]; exact h
def checkR (k : Nat) (c d : LI) (en : Int) : Option PRes := (cupelref20_Check.f k c d en).bind fun e => if e = 0 then some (c, d, en, 0, 0) else some ([], [], 0, 0, e)
def CodeR (s : ByteArray) (n : Nat) (t : Tok) (c d : LI) (en : Int) (R : Except Int LI) : Prop := ∀ kk, 120 * n + 4 * s.size + 20300 ≤ kk → match R with
 | .error p => l1R kk rowsS (stG s t) c d en = some (bad p)
 | .ok c' => ∃ k2, 20100 ≤ k2 ∧ l1R kk rowsS (stG s t) c d en = checkR k2 c' d en
theorem l1_row {s : ByteArray} {t : Tok} (h : t.sort ≠ 0) (k : Nat) (c d : LI) (en : Int) : l1R (k + 2) rowsS (stG s t) c d en = l2R k rowsS false 0 (stG s t) c d en := by
 rw [l1_eq, if_neg (show ¬ (stG s t).2.2.2.2.2.2.1 = true from Bool.false_ne_true), pj2_eq, if_pos]
 show ((rt t).2.2.1 != 46) = true
 have := rt_nzero t h
 simp [this]
theorem code_ref (s : ByteArray) (hs : s.size ≤ 5000) (d : LI) (en : Int) : ∀ (n a : Nat) (t : Tok) (c : LI), GoodT s a t → s.size - t.end_ < n → c.length ≤ 2 * t.end_ → ∀ k, n ≤ k →
  ∃ R, codeF s k c t = some R ∧ CodeR s n t c d en R := by
 intro n
 induction n with
 | zero => intro a t c hg h; omega
 | succ n ih =>
  intro a t c hg h hc k hk
  obtain ⟨k, rfl⟩ : ∃ z, k = z + 1 := ⟨k - 1, by omega⟩
  have hle := hg.ok.1
  unfold codeF
  by_cases c0 : t.sort = 0
  ·rw [if_pos c0]
   refine ⟨_, rfl, fun kk hkk => ⟨kk - 2, by omega, ?_⟩⟩
   obtain ⟨kk, rfl⟩ : ∃ z, kk = z + 2 := ⟨kk - 2, by omega⟩
   have hf : ((stG s t).2.2.2.1 != 46) = false := by
    show ((rt t).2.2.1 != 46) = false
    rw [rt_zero t c0]; rfl
   rw [l1_eq, if_neg (show ¬ (stG s t).2.2.2.2.2.2.1 = true from Bool.false_ne_true), hf, pj2_eq, if_neg (by decide), if_neg (show ¬ (stG s t).2.2.2.2.2.2.1 = true from Bool.false_ne_true)]
   rfl
  rw [if_neg c0]
  have hn := named_ref t.text
  by_cases c1 : t.sort ≠ 97 ∨ (namedP t.text).2 = false
  ·rw [if_pos c1]
   refine ⟨_, rfl, fun kk hkk => ?_⟩
   obtain ⟨kk, rfl⟩ : ∃ z, kk = z + 2 := ⟨kk - 2, by omega⟩
   show l1R (kk + 2) rowsS (stG s t) c d en = some (bad t.at_)
   rw [l1_row c0]
   refine scan_none hg c d en 42 0 kk (by rw [rows_len]) (by omega) fun x hx => ?_
   rintro ⟨e1, e2⟩
   rcases c1 with c1 | c1
   ·exact c1 e1
   ·cases hr : refRow t.text with
    | none => exact List.find?_eq_none.1 hr x hx (decide_eq_true e2)
    | some y =>
     rw [hr] at hn
     have hn' : namedP t.text = (r20 y, true) := hn
     rw [hn'] at c1; cases c1
  ·rw [if_neg c1]
   have h97 : t.sort = 97 := Decidable.byContradiction fun e => c1 (.inl e)
   cases hr : refRow t.text with
   | none => rw [hr] at hn; exact absurd (.inr hn) c1
   | some x =>
    rw [hr] at hn
    have hn' : namedP t.text = (r20 x, true) := hn
    have hx := List.mem_of_find?_eq_some hr
    have hm := rows_mem hx
    rw [hn']
    have key : ∀ kk, 120 + 4 * s.size + 30 ≤ kk → ∃ k2 j v q, kk ≤ k2 + 100 ∧ VE s ((nextP s t).bind (instrP s (r20 x))) v q ∧ l1R kk rowsS (stG s t) c d en =
      if q.2.2.2.2.2.2.1 = true then l2R (k2 + 2) rowsS true j q c d en else (cupelref20_words.f v.1 v.2.1 v.2.2.1 v.2.2.2.1 v.2.2.2.2).bind fun ws => if c.length + ws.length < 17592186044416 then l2R (k2 + 2) rowsS true j q (c ++ ws) d en else none := by
     intro kk hkk
     obtain ⟨kk, rfl⟩ : ∃ z, kk = z + 2 := ⟨kk - 2, by omega⟩
     obtain ⟨k2, j, q1, h1, h2, h3⟩ := scan_some (by omega) hg h97 c d en x 42 0 kk (by rw [rows_len]) (by omega) hr
     obtain ⟨v, q, e, hv⟩ := instr_any (by omega) h3 k2 (by omega) (r20 x)
     obtain ⟨k2, rfl⟩ : ∃ z, k2 = z + 2 := ⟨k2 - 2, by omega⟩
     refine ⟨k2, j, v, q, by omega, hv, ?_⟩
     rw [l1_row c0]
     refine h2.trans ?_
     unfold foundR
     rw [e, Option.bind_some]
    have herr : ∀ p, (nextP s t).bind (instrP s (r20 x)) = .error p → CodeR s (n + 1) t c d en (.error p) := by
     intro p hp kk hkk
     show l1R kk rowsS (stG s t) c d en = some (bad p)
     obtain ⟨k2, j, v, q, hk2, hv, he⟩ := key kk (by omega)
     rw [hp] at hv
     rw [he, if_pos hv.1, l2_found]
     exact l1_bad hv k2 (by omega) _ _ _ _
    cases h1 : nextP s t with
    | error p => exact ⟨_, rfl, herr p (by rw [h1]; rfl)⟩
    | ok b0 =>
     dsimp only
     cases h2 : instrP s (r20 x) b0 with
     | error p => exact ⟨_, rfl, herr p (by rw [h1]; exact h2)⟩
     | ok b =>
      dsimp only
      have g1 := nextP_good hg h1
      obtain ⟨g2, g3, g4, g5, g6, g7⟩ := instrP_good g1 h2
      have hop : b.1.1 = x.f0 := g4
      obtain ⟨ws, hw1, hw2, hw3⟩ := words_both c (by omega) b.1 (by rw [hop]; exact hm.2) g5 g6 g7
      rw [hw3, Option.bind_some]
      have hy := g2.ok.1
      obtain ⟨R, hR, hD⟩ := ih t.end_ b.2 (c ++ ws) g2 (by omega) (by rw [List.length_append]; omega) k (by omega)
      refine ⟨R, hR, fun kk hkk => ?_⟩
      obtain ⟨k2, j, v, q, hk2, hv, he⟩ := key kk (by omega)
      rw [h1] at hv
      have hv' : VE s (instrP s (r20 x) b0) v q := hv
      rw [h2] at hv'
      obtain ⟨hv1, hq, _⟩ := hv'
      have hDk := hD k2 (by omega)
      rw [hv1, hq, if_neg (show ¬ (stG s b.2).2.2.2.2.2.2.1 = true from Bool.false_ne_true), hw2, Option.bind_some, if_pos (by omega), l2_found] at he
      rw [he]
      exact hDk
end Go.Proofs.YtlaijeeeblcinaaDoor.A
set_option linter.all false
set_option maxRecDepth 100000
namespace Go.Proofs.YtlaijeeeblcinaaDoor.A
open Go.RowKit Go.Lib Go.Proofs.YtlaijeeeblcinaaDoorW.PrintWords
theorem tok0_good (s : ByteArray) : GoodT s 0 tok0 := ⟨⟨Nat.zero_le _, Nat.zero_le _⟩, Nat.le_refl _, fun h => absurd rfl h, fun h => absurd rfl h⟩
theorem check_ok {k : Nat} {c d : LI} {e : Int} (h : target_Check.f k c d e = some 0) : c.length ≤ 20000 ∧ d.length ≤ 20000 := by
 unfold target_Check.f at h
 by_cases c1 : (c.length : Int) > 20000
 ·rw [if_pos c1] at h; cases h
 rw [if_neg c1] at h
 by_cases c2 : (d.length : Int) > 20000
 ·rw [if_pos c2] at h; cases h
 omega
theorem pf_eq (k : Nat) (s : ByteArray) (h : ¬ (s.size : Int) > 600000) : cupelref20_Parse.f k s = (nextR k (s, 0, 0, 0, ⟨#[]⟩, 0, false, 0)).bind fun a => (wantR k a entryW).bind fun b => (numberR k b 3).bind fun c => (wantR k c.2 ⟨#[59]⟩).bind fun d => l0R k d [] c.1 := by
 unfold cupelref20_Parse.f
 rw [if_neg h]
 rfl
theorem head_any (s : ByteArray) (hs : s.size ≤ 600000) (k : Nat) (hk : 4 * s.size + 11 ≤ k) : ∃ v q, cupelref20_Parse.f k s = l0R k q [] v ∧ VE s (headP s) v q := by
 obtain ⟨q1, e1, h1⟩ := next_at s hs 0 (Nat.zero_le _) tok0 rfl 0 0 ⟨#[]⟩ 0 0 k (by omega)
 have h1 := h1 rfl (tok0_good s).ok
 obtain ⟨q2, e2, h2⟩ := want_any hs h1 k (by omega) entryW
 obtain ⟨v, q3, e3, h3⟩ := number_any hs h2 k (by omega) 3
 obtain ⟨q4, e4, h4⟩ := want_any hs h3.st k (by omega) ⟨#[59]⟩
 refine ⟨v, q4, ?_, ?_⟩
 ·rw [pf_eq k s (by omega)]
  have e1' : nextR k (s, 0, 0, 0, ⟨#[]⟩, 0, false, 0) = some q1 := e1
  rw [e1', Option.bind_some, e2, Option.bind_some, e3, Option.bind_some, e4, Option.bind_some]
 ·unfold headP
  clear e1 e2 e3 e4
  revert h1 h2 h3 h4
  cases nextP s tok0 with
  | error p => exact fun _ _ _ h => h
  | ok x =>
   simp only [Except.bind]
   intro _
   cases wantP s entryW x with
   | error p => exact fun _ _ h => h
   | ok y =>
    simp only [Except.bind]
    intro _
    cases numberP s 3 y with
    | error p => exact fun _ h => h
    | ok z =>
     simp only [Except.bind]
     intro h3
     cases wantP s ⟨#[59]⟩ z.2 with
     | error p => exact fun h => h
     | ok u => exact fun h => ⟨h3.1, h.1, h.2⟩
theorem headP_good {s : ByteArray} {h : Int × Tok} (e : headP s = .ok h) : ∃ a, GoodT s a h.2 := by
 unfold headP at e
 obtain ⟨a, h1, e⟩ := bind_ok e
 obtain ⟨b, h2, e⟩ := bind_ok e
 obtain ⟨c, h3, e⟩ := bind_ok e
 obtain ⟨d, h4, e⟩ := bind_ok e
 cases e
 have g1 := nextP_good (tok0_good s) h1
 have g2 := wantP_good g1 h2
 have g3 := numberP_good g2.1 h3
 have g4 := wantP_good g3.1 h4
 exact ⟨_, g4.1⟩
theorem parse_ref (s : ByteArray) (hs : s.size ≤ 5000) (k kk : Nat) (hk : 30000 ≤ k) (hkk : 700000 ≤ kk) : ∃ r, parseP k s = some r ∧ cupelref20_Parse.f kk s = some r ∧ r.1.length ≤ 20000 ∧ r.2.1.length ≤ 20000 := by
 obtain ⟨v, q, he, hv⟩ := head_any s (by omega) kk (by omega)
 rw [he]
 unfold parseP
 rw [if_neg (by omega)]
 cases hh : headP s with
 | error p =>
  rw [hh] at hv
  exact ⟨bad p, rfl, l0_bad hv kk (by omega) _ _, Nat.zero_le _, Nat.zero_le _⟩
 | ok h =>
  rw [hh] at hv
  obtain ⟨hv1, hq, _⟩ := hv
  obtain ⟨a, hg⟩ := headP_good hh
  have hle := hg.ok.1
  dsimp only
  obtain ⟨R, hR, hD⟩ := data_ref s (by omega) h.1 (s.size + 1) a h.2 [] hg (by omega) (Nat.zero_le _) k (by omega)
  have hDk := hD kk (by omega)
  rw [hv1, hq, hR, Option.bind_some]
  cases R with
  | error p => exact ⟨bad p, rfl, hDk, Nat.zero_le _, Nat.zero_le _⟩
  | ok x =>
   obtain ⟨⟨b, hb⟩, k2, hk2, e2⟩ := hDk
   have hle2 := hb.ok.1
   obtain ⟨R2, hR2, hC⟩ := code_ref s hs x.1 h.1 (s.size + 1) b x.2 [] hb (by omega) (Nat.zero_le _) k (by omega)
   have hCk := hC k2 (by omega)
   dsimp only
   rw [e2, hR2, Option.bind_some]
   cases R2 with
   | error p => exact ⟨bad p, rfl, hCk, Nat.zero_le _, Nat.zero_le _⟩
   | ok c =>
    obtain ⟨k3, hk3, e3⟩ := hCk
    obtain ⟨r, hr1, hr2⟩ := check_both c x.1 h.1 k k3 (by omega) hk3
    dsimp only
    rw [e3, hr1]
    unfold checkR
    rw [hr2]
    simp only [Option.bind_some]
    by_cases c0 : r = 0
    ·simp only [if_pos c0]
     subst c0
     have := check_ok hr1
     exact ⟨(c, x.1, h.1, 0, 0), rfl, rfl, this⟩
    ·simp only [if_neg c0]
     exact ⟨([], [], 0, 0, r), rfl, rfl, Nat.zero_le _, Nat.zero_le _⟩
theorem parse_over (s : ByteArray) (hs : 600000 < s.size) (k kk : Nat) : parseP k s = some ([], [], 0, 0, 3) ∧ cupelref20_Parse.f kk s = some ([], [], 0, 0, 3) := by
 unfold parseP cupelref20_Parse.f
 rw [if_pos hs, if_pos (by omega)]
 exact ⟨rfl, rfl⟩
end Go.Proofs.YtlaijeeeblcinaaDoor.A

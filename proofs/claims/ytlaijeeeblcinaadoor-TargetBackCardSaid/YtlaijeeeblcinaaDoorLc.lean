/- Texts as lists of bytes, and the tokens that are read out of them. -/
import Derived.Test.YtlaijeeeblcinaaDoorPp
import Derived.Test.YtlaijeeeblcinaaDoorRs
import Derived.Test.YtlaijeeeblcinaaDoorNm
import Derived.Test.YtlaijeeeblcinaaDoorLe
import Derived.Test.YtlaijeeeblcinaaDoorRv
import Derived.Test.YtlaijeeeblcinaaDoorDx4
set_option linter.all false
set_option maxRecDepth 100000
namespace Go.Proofs.YtlaijeeeblcinaaDoor.A
open Go.RowKit Go.Lib Go.Proofs.YtlaijeeeblcinaaDoorW.PrintWords
abbrev Bs := List UInt8
/-- from place i on the text is l -/
def Rst (s : ByteArray) (i : Nat) (l : Bs) : Prop := i ≤ s.size ∧ s.data.toList.drop i = l
theorem len_ba (s : ByteArray) : s.data.toList.length = s.size := by rw [Array.length_toList]; rfl
theorem Rst.len {s : ByteArray} {i : Nat} {l : Bs} (h : Rst s i l) : s.size = i + l.length := by
 have := congrArg List.length h.2
 rw [List.length_drop, len_ba] at this
 have := h.1
 omega
theorem Rst.end_ {s : ByteArray} {i : Nat} (h : Rst s i []) : i = s.size := by have := h.len; simp at this; exact this.symm
theorem Rst.lt {s : ByteArray} {i : Nat} {c : UInt8} {l : Bs} (h : Rst s i (c :: l)) : i < s.size := by have := h.len; simp only [List.length_cons] at this; omega
theorem Rst.head {s : ByteArray} {i : Nat} {c : UInt8} {l : Bs} (h : Rst s i (c :: l)) : bt s (i : Int) = (c.toNat : Int) := by
 have hi : i < s.data.toList.length := by rw [len_ba]; exact h.lt
 rw [bt_list s i hi]
 have h2 := h.2
 rw [List.drop_eq_getElem_cons hi] at h2
 rw [(List.cons.inj h2).1]
theorem Rst.step {s : ByteArray} {i : Nat} {c : UInt8} {l : Bs} (h : Rst s i (c :: l)) : Rst s (i + 1) l := by
 refine ⟨h.lt, ?_⟩
 have hi : i < s.data.toList.length := by rw [len_ba]; exact h.lt
 have h2 := h.2
 rw [List.drop_eq_getElem_cons hi] at h2
 exact (List.cons.inj h2).2
theorem Rst.skip {s : ByteArray} : ∀ {w : Bs} {i : Nat} {l : Bs}, Rst s i (w ++ l) → Rst s (i + w.length) l := by
 intro w
 induction w with
 | nil => intro i l h; exact h
 | cons c w ih =>
  intro i l h
  have := ih (h.step)
  rw [List.length_cons, show i + (w.length + 1) = i + 1 + w.length by omega]
  exact this
theorem Rst.cut {s : ByteArray} {w : Bs} {i : Nat} {l : Bs} (h : Rst s i (w ++ l)) : s.extract i (i + w.length) = ⟨w.toArray⟩ := by
 apply ba_eq
 rw [ex_list, h.2, show i + w.length - i = w.length by omega, List.take_left']
 rfl
/-- where a run ends -/
def Stops (p : Int → Bool) (l : Bs) : Prop := ∀ c r, l = c :: r → p (c.toNat : Int) = false
theorem run_end {p : Int → Bool} {s : ByteArray} : ∀ {w : Bs} {i : Nat} {l : Bs}, Rst s i (w ++ l) → (∀ c ∈ w, p (c.toNat : Int) = true) → Stops p l → endOf_ p s i = i + w.length := by
 intro w
 induction w with
 | nil =>
  intro i l h _ hs
  rw [List.nil_append] at h
  cases l with
  | nil => exact endOf_end (Nat.le_of_eq h.end_.symm)
  | cons c r => exact endOf_stop (by rw [h.head]; exact hs c r rfl)
 | cons c w ih =>
  intro i l h hw hs
  rw [List.cons_append] at h
  rw [endOf_step h.lt (by rw [h.head]; exact hw c List.mem_cons_self), ih h.step (fun x hx => hw x (List.mem_cons_of_mem _ hx)) hs, List.length_cons]
  omega
def isB (c : UInt8) : Bool := isBlk (c.toNat : Int)
/-- what begins no blank and no remark -/
def Solid (l : Bs) : Prop := ∀ c r, l = c :: r → isBlk (c.toNat : Int) = false ∧ (c.toNat : Int) ≠ 35
theorem skipN_run {s : ByteArray} : ∀ (b : Bs) (i n : Nat) (l : Bs), Rst s i (b ++ l) → (∀ c ∈ b, isB c = true) → Solid l → b.length + l.length ≤ n → skipN s n i = i + b.length := by
 intro b
 induction b with
 | nil =>
  intro i n l h _ hs hn
  rw [List.nil_append] at h
  cases n with
  | zero => rfl
  | succ n =>
   unfold skipN
   cases l with
   | nil => rw [if_neg (by have := h.end_; omega)]; rfl
   | cons c r =>
    have := hs c r rfl
    rw [if_pos h.lt, h.head, if_neg (by rw [this.1]; decide), if_neg (by simpa using this.2)]; rfl
 | cons c b ih =>
  intro i n l h hb hs hn
  rw [List.cons_append] at h
  cases n with
  | zero => simp only [List.length_cons] at hn; omega
  | succ n =>
   unfold skipN
   rw [if_pos h.lt, h.head, if_pos (show isBlk (c.toNat : Int) = true from hb c List.mem_cons_self), ih (i + 1) n l h.step (fun x hx => hb x (List.mem_cons_of_mem _ hx)) hs (by simp only [List.length_cons] at hn; omega), List.length_cons]
   omega
theorem skip_run {s : ByteArray} {b : Bs} {i : Nat} {l : Bs} (h : Rst s i (b ++ l)) (hb : ∀ c ∈ b, isB c = true) (hs : Solid l) : skipP s i = i + b.length := by
 unfold skipP
 exact skipN_run b i _ l h hb hs (by have := h.len; rw [List.length_append] at this; omega)
/-- a token's sort, text and value -/
abbrev K := Int × Bs × Int
def KIs (t : Tok) (k : K) : Prop := t.sort = k.1 ∧ t.text = ⟨k.2.1.toArray⟩ ∧ t.val = k.2.2
/-- the tokens that come from a place on -/
def Str (s : ByteArray) : List K → Nat → Prop
 | [], _ => True
 | k :: ks, i => ∃ t, tokP s i = some t ∧ KIs t k ∧ Str s ks t.end_
/-- .. out of these bytes, wherever they stand at the end of a text -/
def Lex (l : Bs) (ks : List K) : Prop := ∀ s i, Rst s i l → Str s ks i
def kW (w : Bs) : K := (97, w, 0)
def kS (c : UInt8) : K := ((c.toNat : Int), [c], 0)
def kN (v : Int) : K := (48, itoa v, v)
def kE : K := (0, [], 0)
theorem lex_end (b : Bs) (hb : ∀ c ∈ b, isB c = true) : Lex b [kE] := by
 intro s i h
 have h' : Rst s i (b ++ []) := by rw [List.append_nil]; exact h
 have e := skip_run h' hb (fun c r h => by cases h)
 have e2 := h'.skip.end_
 refine ⟨⟨skipP s i, skipP s i, 0, ByteArray.empty, 0⟩, ?_, ⟨rfl, rfl, rfl⟩, trivial⟩
 unfold tokP
 dsimp only
 rw [if_pos (by rw [e, e2])]
def lowB (c : UInt8) : Bool := isLow (c.toNat : Int)
def alnB (c : UInt8) : Bool := isLow (c.toNat : Int) || isDig (c.toNat : Int)
theorem low_solid {c : UInt8} (h : lowB c = true) : isBlk (c.toNat : Int) = false ∧ (c.toNat : Int) ≠ 35 := by
 unfold lowB isLow at h
 simp only [Bool.and_eq_true, decide_eq_true_eq] at h
 refine ⟨?_, by omega⟩
 unfold isBlk
 simp only [Bool.or_eq_false_iff, beq_eq_false_iff_ne]
 omega
theorem lex_word (b : Bs) (hb : ∀ c ∈ b, isB c = true) (c : UInt8) (w : Bs) (hc : lowB c = true) (hw : ∀ x ∈ w, alnB x = true) (l : Bs) (hl : Stops (fun b => isLow b || isDig b) l) {ks : List K} (h : Lex l ks) : Lex (b ++ (c :: w ++ l)) (kW (c :: w) :: ks) := by
 intro s i hr
 have e := skip_run hr hb (fun x r hx => by cases hx; exact low_solid hc)
 have h1 := hr.skip
 have h2 : Rst s (i + b.length + 1) (w ++ l) := h1.step
 have e2 : wordEnd s (i + b.length + 1) = i + b.length + 1 + w.length := run_end h2 (fun x hx => hw x hx) hl
 have h3 := h2.skip
 refine ⟨⟨i + b.length, i + b.length + 1 + w.length, 97, s.extract (i + b.length) (i + b.length + 1 + w.length), 0⟩, ?_, ⟨rfl, ?_, rfl⟩, h s _ h3⟩
 ·unfold tokP
  dsimp only
  rw [e, if_neg (by have := h1.lt; omega), h1.head, if_pos (show isLow (c.toNat : Int) = true from hc), e2]
 ·have := h1.cut
  rw [List.length_cons, show i + b.length + (w.length + 1) = i + b.length + 1 + w.length by omega] at this
  exact this
theorem lex_sign (b : Bs) (hb : ∀ c ∈ b, isB c = true) (c : UInt8) (hc : c = 44 ∨ c = 59 ∨ c = 40 ∨ c = 41) (l : Bs) {ks : List K} (h : Lex l ks) : Lex (b ++ (c :: l)) (kS c :: ks) := by
 intro s i hr
 have hq : isBlk (c.toNat : Int) = false ∧ (c.toNat : Int) ≠ 35 ∧ isLow (c.toNat : Int) = false ∧ (isDig (c.toNat : Int) || (c.toNat : Int) == 45) = false ∧ ((c.toNat : Int) == 44 || (c.toNat : Int) == 59 || (c.toNat : Int) == 40 || (c.toNat : Int) == 41) = true := by
  rcases hc with rfl | rfl | rfl | rfl <;> decide
 have e := skip_run hr hb (fun x r hx => by cases hx; exact ⟨hq.1, hq.2.1⟩)
 have h1 := hr.skip
 refine ⟨⟨i + b.length, i + b.length + 1, (c.toNat : Int), s.extract (i + b.length) (i + b.length + 1), 0⟩, ?_, ⟨rfl, ?_, rfl⟩, h s _ h1.step⟩
 ·unfold tokP
  dsimp only
  rw [e, if_neg (by have := h1.lt; omega), h1.head, if_neg (by rw [hq.2.2.1]; decide), if_neg (by rw [hq.2.2.2.1]; decide), if_pos hq.2.2.2.2]
 ·exact Rst.cut (w := [c]) h1
theorem dec_dig : ∀ (n u : Nat), u ≤ n → AllDig (decDigits u) := by
 intro n
 have one : ∀ d, d < 10 → 48 ≤ (UInt8.ofNat (48 + d)).toNat ∧ (UInt8.ofNat (48 + d)).toNat ≤ 57 := by
  intro d hd
  rw [UInt8.toNat_ofNat']
  omega
 induction n with
 | zero => intro u h; rw [decDigits_one (by omega)]; intro c hc; rw [List.mem_singleton.1 hc]; exact one u (by omega)
 | succ n ih =>
  intro u h
  by_cases c : u < 10
  ·rw [decDigits_one c]; intro x hx; rw [List.mem_singleton.1 hx]; exact one u c
  ·rw [decDigits, dif_neg c]
   intro x hx
   rcases List.mem_append.1 hx with hx | hx
   ·exact ih (u / 10) (by omega) x hx
   ·rw [List.mem_singleton.1 hx]; exact one _ (by omega)
theorem dec_val : ∀ (n u : Nat), u ≤ n → valA 0 (decDigits u) = u := by
 intro n
 induction n with
 | zero =>
  intro u h
  obtain rfl : u = 0 := by omega
  rw [decDigits_one (by omega)]; decide
 | succ n ih =>
  intro u h
  have one : ∀ d, d < 10 → (UInt8.ofNat (48 + d)).toNat - 48 = d := by
   intro d hd
   rw [UInt8.toNat_ofNat']
   omega
  by_cases c : u < 10
  ·rw [decDigits_one c]
   show 0 * 10 + _ = u
   rw [one u c]; omega
  ·rw [decDigits, dif_neg c, valA_append, ih (u / 10) (by omega), one _ (by omega)]; omega
theorem numP_itoa (v : Int) (h : I64 v) : numP (itoa v) = some v := by
 obtain ⟨h0, h1⟩ := h
 unfold itoa
 by_cases c : v < 0
 ·rw [if_pos c, numP_minus _ (dec_dig _ _ (Nat.le_refl _)) (dec_ne _), dec_val _ _ (Nat.le_refl _), if_pos ⟨by omega, dec_head _ _ (Nat.le_refl _) (by omega)⟩]
  congr 1; omega
 ·rw [if_neg c, numP_digits _ (dec_dig _ _ (Nat.le_refl _)) (dec_ne _), dec_val _ _ (Nat.le_refl _), if_pos]
  ·congr 1; omega
  ·refine ⟨by omega, ?_⟩
   by_cases c0 : v.toNat = 0
   ·left; rw [c0, decDigits_one (by omega)]; rfl
   ·exact .inr (dec_head _ _ (Nat.le_refl _) (by omega))
/-- a numeral's first byte, and the others -/
theorem itoa_form (v : Int) : ∃ c w, itoa v = c :: w ∧ (isDig (c.toNat : Int) || (c.toNat : Int) == 45) = true ∧ ∀ x ∈ w, isDig (x.toNat : Int) = true := by
 have dig : ∀ {c : UInt8}, 48 ≤ c.toNat ∧ c.toNat ≤ 57 → isDig (c.toNat : Int) = true := by
  intro c h
  unfold isDig
  simp only [Bool.and_eq_true, decide_eq_true_eq]
  omega
 unfold itoa
 by_cases c : v < 0
 ·rw [if_pos c]
  exact ⟨45, _, rfl, rfl, fun x hx => dig (dec_dig _ _ (Nat.le_refl _) x hx)⟩
 ·rw [if_neg c]
  have hd := dec_dig _ v.toNat (Nat.le_refl _)
  cases hq : decDigits v.toNat with
  | nil => exact absurd hq (dec_ne _)
  | cons c w =>
   rw [hq] at hd
   exact ⟨c, w, rfl, by rw [dig (hd c List.mem_cons_self)]; rfl, fun x hx => dig (hd x (List.mem_cons_of_mem _ hx))⟩
theorem lex_num (b : Bs) (hb : ∀ c ∈ b, isB c = true) (v : Int) (hv : I64 v) (l : Bs) (hl : Stops isDig l) {ks : List K} (h : Lex l ks) : Lex (b ++ (itoa v ++ l)) (kN v :: ks) := by
 intro s i hr
 obtain ⟨c, w, hi, hc, hw⟩ := itoa_form v
 rw [hi] at hr
 have hq : isBlk (c.toNat : Int) = false ∧ (c.toNat : Int) ≠ 35 ∧ isLow (c.toNat : Int) = false := by
  unfold isDig at hc
  simp only [Bool.or_eq_true, Bool.and_eq_true, decide_eq_true_eq, beq_iff_eq] at hc
  unfold isBlk isLow
  simp only [Bool.or_eq_false_iff, beq_eq_false_iff_ne, Bool.and_eq_false_iff, decide_eq_false_iff_not]
  omega
 have e := skip_run hr hb (fun x r hx => by cases hx; exact ⟨hq.1, hq.2.1⟩)
 have h1 := hr.skip
 have h2 : Rst s (i + b.length + 1) (w ++ l) := h1.step
 have e2 : digEnd s (i + b.length + 1) = i + b.length + 1 + w.length := run_end h2 hw hl
 have h3 := h2.skip
 have hx : s.extract (i + b.length) (i + b.length + 1 + w.length) = ⟨(itoa v).toArray⟩ := by
  have := h1.cut
  rw [List.length_cons, show i + b.length + (w.length + 1) = i + b.length + 1 + w.length by omega] at this
  rw [hi]; exact this
 refine ⟨⟨i + b.length, i + b.length + 1 + w.length, 48, ⟨(itoa v).toArray⟩, v⟩, ?_, ⟨rfl, rfl, rfl⟩, h s _ h3⟩
 unfold tokP
 dsimp only
 rw [e, if_neg (by have := h1.lt; omega), h1.head, if_neg (by rw [hq.2.2]; decide), if_pos hc, e2, hx]
 show (match numP (itoa v) with | some v => _ | none => _) = _
 rw [numP_itoa v hv]
end Go.Proofs.YtlaijeeeblcinaaDoor.A
set_option linter.all false
set_option maxRecDepth 100000
namespace Go.Proofs.YtlaijeeeblcinaaDoor.A
open Go.RowKit Go.Lib Go.Proofs.YtlaijeeeblcinaaDoorW.PrintWords
/-- the token t is the first of these, the others come behind it -/
def Cur (s : ByteArray) (t : Tok) : List K → Prop
 | [] => True
 | k :: ks => KIs t k ∧ Str s ks t.end_
theorem ok_bind {α β : Type} (a : α) (f : α → Except Int β) : (Except.ok a : Except Int α).bind f = f a := rfl
theorem str_next {s : ByteArray} {i : Tok} {k : K} {ks : List K} (h : Str s (k :: ks) i.end_) : ∃ t, nextP s i = .ok t ∧ Cur s t (k :: ks) := by
 obtain ⟨t, h1, h2, h3⟩ := h
 refine ⟨t, ?_, h2, h3⟩
 unfold nextP
 rw [h1]
theorem cur_next {s : ByteArray} {t : Tok} {k k2 : K} {ks : List K} (h : Cur s t (k :: k2 :: ks)) : ∃ t', nextP s t = .ok t' ∧ Cur s t' (k2 :: ks) := str_next h.2
def IsS (c : UInt8) : Prop := c = 44 ∨ c = 59 ∨ c = 40 ∨ c = 41
theorem cur_sign {s : ByteArray} {t : Tok} {c : UInt8} (hc : IsS c) {k2 : K} {ks : List K} (h : Cur s t (kS c :: k2 :: ks)) : ∃ t', wantP s ⟨#[c]⟩ t = .ok t' ∧ Cur s t' (k2 :: ks) := by
 obtain ⟨t', h1, h2⟩ := cur_next h
 refine ⟨t', ?_, h2⟩
 obtain ⟨⟨e1, e2, e3⟩, _⟩ := h
 unfold wantP
 rw [if_neg, h1]
 rw [e1, e2]
 rintro (e | e | e)
 ·rcases hc with rfl | rfl | rfl | rfl <;> revert e <;> decide
 ·rcases hc with rfl | rfl | rfl | rfl <;> revert e <;> decide
 ·exact e rfl
theorem cur_word {s : ByteArray} {t : Tok} {w : Bs} {k2 : K} {ks : List K} (h : Cur s t (kW w :: k2 :: ks)) : ∃ t', wantP s ⟨w.toArray⟩ t = .ok t' ∧ Cur s t' (k2 :: ks) := by
 obtain ⟨t', h1, h2⟩ := cur_next h
 refine ⟨t', ?_, h2⟩
 obtain ⟨⟨e1, e2, e3⟩, _⟩ := h
 unfold wantP
 rw [if_neg, h1]
 rw [e1, e2]
 rintro (e | e | e)
 ·exact absurd (show (97 : Int) = 0 from e) (by decide)
 ·exact absurd (show (97 : Int) = 48 from e) (by decide)
 ·exact e rfl
theorem cur_num {s : ByteArray} {t : Tok} {v kind : Int} (hf : fitsP kind v = true) {k2 : K} {ks : List K} (h : Cur s t (kN v :: k2 :: ks)) : ∃ t', numberP s kind t = .ok (v, t') ∧ Cur s t' (k2 :: ks) := by
 obtain ⟨t', h1, h2⟩ := cur_next h
 refine ⟨t', ?_, h2⟩
 obtain ⟨⟨e1, e2, e3⟩, _⟩ := h
 unfold numberP
 have e3' : t.val = v := e3
 rw [e1, e3', if_neg, h1, ok_bind]
 rintro (e | e)
 ·exact e rfl
 ·rw [hf] at e; cases e
def kR (r : Int) : K := kW (114 :: itoa r)
theorem reg_all : (List.range 10).all (fun r => decide ((⟨(114 :: itoa (r : Int)).toArray⟩ : ByteArray).size = 2) && (bt ⟨(114 :: itoa (r : Int)).toArray⟩ 0 == 114) && isDig (bt ⟨(114 :: itoa (r : Int)).toArray⟩ 1) && decide (bt ⟨(114 :: itoa (r : Int)).toArray⟩ 1 - 48 = (r : Int)) && (114 :: itoa (r : Int)).tail.all alnB) = true := by
 have e : ∀ r : Nat, r < 10 → itoa (r : Int) = [UInt8.ofNat (48 + r)] := by
  intro r hr
  unfold itoa
  rw [if_neg (by omega), Int.toNat_natCast, decDigits_one hr]
 refine List.all_eq_true.2 fun r hr => ?_
 have hr := List.mem_range.1 hr
 rw [e r hr]
 match r, hr with
 | 0, _ => decide
 | 1, _ => decide
 | 2, _ => decide
 | 3, _ => decide
 | 4, _ => decide
 | 5, _ => decide
 | 6, _ => decide
 | 7, _ => decide
 | 8, _ => decide
 | 9, _ => decide
theorem reg_at {r : Int} (h0 : 0 ≤ r) (h1 : r < 10) : (⟨(114 :: itoa r).toArray⟩ : ByteArray).size = 2 ∧ bt ⟨(114 :: itoa r).toArray⟩ 0 = 114 ∧ isDig (bt ⟨(114 :: itoa r).toArray⟩ 1) = true ∧ bt ⟨(114 :: itoa r).toArray⟩ 1 - 48 = r ∧ ∀ x ∈ itoa r, alnB x = true := by
 have := List.all_eq_true.1 reg_all r.toNat (List.mem_range.2 (by omega))
 rw [show ((r.toNat : Nat) : Int) = r by omega] at this
 simp only [Bool.and_eq_true, decide_eq_true_eq, beq_iff_eq] at this
 obtain ⟨⟨⟨⟨a, b⟩, c⟩, d⟩, e⟩ := this
 exact ⟨a, b, c, d, fun x hx => List.all_eq_true.1 e x hx⟩
theorem cur_reg {s : ByteArray} {t : Tok} {r : Int} (h0 : 0 ≤ r) (h9 : r < 10) {k2 : K} {ks : List K} (h : Cur s t (kR r :: k2 :: ks)) : ∃ t', registerP s t = .ok (r, t') ∧ Cur s t' (k2 :: ks) := by
 obtain ⟨t', h1, h2⟩ := cur_next h
 refine ⟨t', ?_, h2⟩
 obtain ⟨⟨e1, e2, e3⟩, _⟩ := h
 obtain ⟨g1, g2, g3, g4, _⟩ := reg_at h0 h9
 have e2' : t.text = ⟨(114 :: itoa r).toArray⟩ := e2
 have e1' : t.sort = 97 := e1
 have hr : isRegP t = true := by
  unfold isRegP
  rw [e1', e2', g1, g2, g3]; rfl
 unfold registerP
 rw [hr, if_neg (by decide), h1, ok_bind, e2', g4]
theorem cur_place {s : ByteArray} {t : Tok} {i a : Int} (hi : fitsP 1 i = true) (h0 : 0 ≤ a) (h9 : a < 10) {k2 : K} {ks : List K} (h : Cur s t (kN i :: kS 40 :: kR a :: kS 41 :: k2 :: ks)) : ∃ t', placeP s t = .ok ((i, a), t') ∧ Cur s t' (k2 :: ks) := by
 obtain ⟨t1, e1, c1⟩ := cur_num hi h
 obtain ⟨t2, e2, c2⟩ := cur_sign (.inr (.inr (.inl rfl))) c1
 obtain ⟨t3, e3, c3⟩ := cur_reg h0 h9 c2
 obtain ⟨t4, e4, c4⟩ := cur_sign (.inr (.inr (.inr rfl))) c3
 refine ⟨t4, ?_, c4⟩
 unfold placeP
 rw [e1, ok_bind, e2, ok_bind, e3, ok_bind, e4, ok_bind]
/-- parts with commas between them: the first one's way, and the others' -/
def tailK (l : List K) : List K := l.flatMap fun k => [kS 44, k]
def strm : Bool → List K → List K
 | true, [] => []
 | true, k :: l => k :: tailK l
 | false, l => tailK l
def optK (c : Bool) (k : K) : List K := if c = true then [k] else []
theorem cur_comma {s : ByteArray} {t : Tok} {first : Bool} {k : K} {l ks : List K} (h : Cur s t (strm first (k :: l) ++ ks)) : ∃ t', commaP s first t = .ok t' ∧ Cur s t' (k :: (tailK l ++ ks)) := by
 cases first with
 | true => exact ⟨t, rfl, h⟩
 | false =>
  obtain ⟨t1, e1, c1⟩ := cur_sign (.inl rfl) (ks := tailK l ++ ks) (k2 := k) h
  exact ⟨t1, e1, c1⟩
theorem strm_false (l : List K) : strm false l = tailK l := by cases l <;> rfl
theorem cur_opt {s : ByteArray} {t : Tok} {used first : Bool} {r : Int} (h0 : 0 ≤ r) (h9 : r < 10) {l ks : List K} {k2 : K} (h : Cur s t (strm first (optK used (kR r) ++ l) ++ (k2 :: ks))) :
  ∃ t', optRegP s used first t = .ok (if used = true then r else 0, first && !used, t') ∧ Cur s t' (strm (first && !used) l ++ (k2 :: ks)) := by
 cases used with
 | false =>
  refine ⟨t, ?_, ?_⟩
  ·unfold optRegP; cases first <;> rfl
  ·have : (first && !false) = first := by cases first <;> rfl
   rw [this]; exact h
 | true =>
  obtain ⟨t1, e1, c1⟩ := cur_comma (l := l) h
  obtain ⟨k3, ks3, hk⟩ : ∃ k3 ks3, tailK l ++ (k2 :: ks) = k3 :: ks3 := by
   cases l with
   | nil => exact ⟨k2, ks, rfl⟩
   | cons a b => exact ⟨_, _, rfl⟩
  rw [hk] at c1
  obtain ⟨t2, e2, c2⟩ := cur_reg h0 h9 c1
  refine ⟨t2, ?_, ?_⟩
  ·unfold optRegP
   rw [if_pos rfl, e1, ok_bind, e2, ok_bind]
   cases first <;> rfl
  ·have : (first && !true) = false := by cases first <;> rfl
   rw [this, strm_false, hk]; exact c2
/-- the tokens of an instruction -/
def kLine (t : Row7) (d a b i : Int) : List K :=
 if t.1 = 4 then [kR d, kS 44, kN i, kS 40, kR a, kS 41, kS 59]
 else if t.1 = 5 then [kN i, kS 40, kR a, kS 41, kS 44, kR b, kS 59]
 else strm true (optK t.2.2.1 (kR d) ++ (optK t.2.2.2.1 (kR a) ++ (optK t.2.2.2.2.1 (kR b) ++ optK (t.2.2.2.2.2.1 != 0) (kN i)))) ++ [kS 59]
def row6 (t : Row7) : Row20 := (t.1, t.2.1, t.2.2.1, t.2.2.2.1, t.2.2.2.2.1, t.2.2.2.2.2.1)
theorem cur_instr {s : ByteArray} {k : Tok} {t : Row7} {d a b i : Int} (hd : 0 ≤ d ∧ d < 10) (ha : 0 ≤ a ∧ a < 10) (hb : 0 ≤ b ∧ b < 10) (hi : fitsP t.2.2.2.2.2.1 i = true) (h4 : t.1 = 4 ∨ t.1 = 5 → t.2.2.2.2.2.1 = 1) {k2 : K} {ks : List K}
  (h : Cur s k (kLine t d a b i ++ (k2 :: ks))) : ∃ k', instrP s (row6 t) k = .ok ((t.1, if t.1 = 5 then 0 else if t.1 = 4 ∨ t.2.2.1 = true then d else 0, if t.1 = 4 ∨ t.1 = 5 ∨ t.2.2.2.1 = true then a else 0, if t.1 = 4 then 0 else if t.1 = 5 ∨ t.2.2.2.2.1 = true then b else 0, if t.1 = 4 ∨ t.1 = 5 ∨ t.2.2.2.2.2.1 ≠ 0 then i else 0), k') ∧ Cur s k' (k2 :: ks) := by
 unfold kLine at h
 unfold instrP row6
 dsimp only
 by_cases c4 : t.1 = 4
 ·have h1 := h4 (.inl c4)
  rw [h1] at hi
  rw [if_pos c4] at h
  obtain ⟨t1, e1, c1⟩ := cur_reg hd.1 hd.2 h
  obtain ⟨t2, e2, c2⟩ := cur_sign (.inl rfl) c1
  obtain ⟨t3, e3, c3⟩ := cur_place hi ha.1 ha.2 c2
  obtain ⟨t4, e4, c4'⟩ := cur_sign (.inr (.inl rfl)) c3
  refine ⟨t4, ?_, c4'⟩
  rw [if_pos c4, e1, ok_bind, e2, ok_bind, e3, ok_bind, e4, ok_bind]
  simp [c4]
 ·by_cases c5 : t.1 = 5
  ·have h1 := h4 (.inr c5)
   rw [h1] at hi
   rw [if_neg c4, if_pos c5] at h
   obtain ⟨t1, e1, c1⟩ := cur_place hi ha.1 ha.2 h
   obtain ⟨t2, e2, c2⟩ := cur_sign (.inl rfl) c1
   obtain ⟨t3, e3, c3⟩ := cur_reg hb.1 hb.2 c2
   obtain ⟨t4, e4, c4'⟩ := cur_sign (.inr (.inl rfl)) c3
   refine ⟨t4, ?_, c4'⟩
   rw [if_neg c4, if_pos c5, e1, ok_bind, e2, ok_bind, e3, ok_bind, e4, ok_bind]
   simp [c5]
  ·rw [if_neg c4, if_neg c5] at h
   rw [if_neg c4, if_neg c5]
   rw [List.append_assoc] at h
   obtain ⟨t1, e1, c1⟩ := cur_opt hd.1 hd.2 (ks := k2 :: ks) (k2 := kS 59) h
   obtain ⟨t2, e2, c2⟩ := cur_opt ha.1 ha.2 (ks := k2 :: ks) (k2 := kS 59) c1
   obtain ⟨t3, e3, c3⟩ := cur_opt hb.1 hb.2 (ks := k2 :: ks) (k2 := kS 59) c2
   rw [e1, ok_bind]; dsimp only
   rw [e2, ok_bind]; dsimp only
   rw [e3, ok_bind]; dsimp only
   by_cases c0 : t.2.2.2.2.2.1 = 0
   ·rw [if_pos c0, ok_bind]
    have e0 : (t.2.2.2.2.2.1 != 0) = false := by simp [c0]
    rw [e0] at c3
    have c3' : Cur s t3 (kS 59 :: k2 :: ks) := by
     revert c3
     cases ((true && !t.2.2.1 && !t.2.2.2.1) && !t.2.2.2.2.1) <;> exact fun h => h
    obtain ⟨t4, e4, c4'⟩ := cur_sign (.inr (.inl rfl)) c3'
    refine ⟨t4, ?_, c4'⟩
    dsimp only
    rw [e4, ok_bind]
    simp [c4, c5, c0]
   ·rw [if_neg c0]
    have e0 : (t.2.2.2.2.2.1 != 0) = true := bne_iff_ne.mpr c0
    rw [e0] at c3
    obtain ⟨t4, e4, c4'⟩ := cur_comma (l := []) (ks := kS 59 :: k2 :: ks) c3
    obtain ⟨t5, e5, c5'⟩ := cur_num hi c4'
    obtain ⟨t6, e6, c6'⟩ := cur_sign (.inr (.inl rfl)) c5'
    refine ⟨t6, ?_, c6'⟩
    rw [e4, ok_bind, e5, ok_bind]
    dsimp only
    rw [e6, ok_bind]
    simp [c4, c5, c0]
end Go.Proofs.YtlaijeeeblcinaaDoor.A
set_option linter.all false
set_option maxRecDepth 100000
namespace Go.Proofs.YtlaijeeeblcinaaDoor.A
open Go.RowKit Go.Lib Go.Proofs.YtlaijeeeblcinaaDoorW.PrintWords
abbrev bl (s : ByteArray) : Bs := s.data.toList
theorem bl_app (a b : ByteArray) : bl (a ++ b) = bl a ++ bl b := by unfold bl; rw [ByteArray.data_append, Array.toList_append]
theorem bl_num (v : Int) : bl (numB v) = itoa v := rfl
theorem bl_reg (v : Int) : bl (regB v) = 114 :: itoa v := by rw [regB_eq, bl_app, bl_num]; rfl
/-- behind blanks, too -/
def LexB (l : Bs) (ks : List K) : Prop := ∀ b : Bs, (∀ c ∈ b, isB c = true) → Lex (b ++ l) ks
theorem LexB.lex {l : Bs} {ks : List K} (h : LexB l ks) : Lex l ks := h [] (fun c hc => by cases hc)
theorem LexB.blank {l : Bs} {ks : List K} (h : LexB l ks) (c : UInt8) (hc : isB c = true) : LexB (c :: l) ks := by
 intro b hb
 have := h (b ++ [c]) (fun x hx => by
  rcases List.mem_append.1 hx with hx | hx
  ·exact hb x hx
  ·rw [List.mem_singleton.1 hx]; exact hc)
 rwa [List.append_assoc] at this
theorem lexB_end : LexB [] [kE] := fun b hb => by rw [List.append_nil]; exact lex_end b hb
def StopA (l : Bs) : Prop := Stops (fun b => isLow b || isDig b) l
theorem StopA.dig {l : Bs} (h : StopA l) : Stops isDig l := fun c r e => by
 have := h c r e
 simp only [Bool.or_eq_false_iff] at this
 exact this.2
theorem stop_c {c : UInt8} (h : alnB c = false) (l : Bs) : StopA (c :: l) := fun x r e => by cases e; exact h
theorem lexB_sign {c : UInt8} (hc : IsS c) {l : Bs} {ks : List K} (h : Lex l ks) : LexB (c :: l) (kS c :: ks) := fun b hb => lex_sign b hb c hc l h
theorem lexB_word {c : UInt8} {w : Bs} (hc : lowB c = true) (hw : ∀ x ∈ w, alnB x = true) {l : Bs} (hl : StopA l) {ks : List K} (h : Lex l ks) : LexB (c :: w ++ l) (kW (c :: w) :: ks) := fun b hb => lex_word b hb c w hc hw l hl h
theorem lexB_num {v : Int} (hv : I64 v) {l : Bs} (hl : StopA l) {ks : List K} (h : Lex l ks) : LexB (itoa v ++ l) (kN v :: ks) := fun b hb => lex_num b hb v hv l hl.dig h
theorem lexB_reg {r : Int} (h0 : 0 ≤ r) (h9 : r < 10) {l : Bs} (hl : StopA l) {ks : List K} (h : Lex l ks) : LexB (bl (regB r) ++ l) (kR r :: ks) := by
 rw [bl_reg]
 exact lexB_word (by decide) (reg_at h0 h9).2.2.2.2 hl h
/-- a part of a line -/
def Piece (p : ByteArray × K) : Prop := ∀ (l : Bs) (ks : List K), StopA l → Lex l ks → LexB (bl p.1 ++ l) (p.2 :: ks)
theorem piece_reg {r : Int} (h0 : 0 ≤ r) (h9 : r < 10) : Piece (regB r, kR r) := fun l ks hl h => lexB_reg h0 h9 hl h
theorem piece_num {v : Int} (hv : I64 v) : Piece (numB v, kN v) := fun l ks hl h => lexB_num hv hl h
theorem lex_tail (ps : List (ByteArray × K)) (hp : ∀ p ∈ ps, Piece p) (l : Bs) (ks : List K) (h : Lex l ks) : Lex (joinTail [44, 32] (ps.map (fun p => bl p.1)) ++ 59 :: l) (tailK (ps.map (·.2)) ++ kS 59 :: ks) ∧ StopA (joinTail [44, 32] (ps.map (fun p => bl p.1)) ++ 59 :: l) := by
 induction ps with
 | nil => exact ⟨(lexB_sign (.inr (.inl rfl)) h).lex, stop_c (by decide) l⟩
 | cons p ps ih =>
  obtain ⟨h1, h2⟩ := ih (fun q hq => hp q (List.mem_cons_of_mem _ hq))
  have e : joinTail [44, 32] ((p :: ps).map (fun p => bl p.1)) ++ 59 :: l = 44 :: (32 :: (bl p.1 ++ (joinTail [44, 32] (ps.map (fun p => bl p.1)) ++ 59 :: l))) := by
   simp [joinTail]
  rw [e]
  refine ⟨?_, stop_c (by decide) _⟩
  have h3 := (hp p List.mem_cons_self _ _ h2 h1).blank 32 (by decide)
  exact (lexB_sign (.inl rfl) h3.lex).lex
theorem lex_parts (c : UInt8) (w : Bs) (wd : ByteArray) (hwd : bl wd = c :: w) (hc : lowB c = true) (hw : ∀ x ∈ w, alnB x = true) (ps : List (ByteArray × K)) (hp : ∀ p ∈ ps, Piece p) (l : Bs) (ks : List K) (h : Lex l ks) :
  LexB (bl (accT wd (ps.map (·.1))) ++ 59 :: l) (kW (c :: w) :: (strm true (ps.map (·.2)) ++ kS 59 :: ks)) := by
 cases ps with
 | nil =>
  show LexB (bl (accT wd []) ++ 59 :: l) _
  unfold accT
  rw [if_pos rfl, hwd]
  exact lexB_word hc hw (stop_c (by decide) l) (lexB_sign (.inr (.inl rfl)) h).lex
 | cons p ps =>
  obtain ⟨h1, h2⟩ := lex_tail ps (fun q hq => hp q (List.mem_cons_of_mem _ hq)) l ks h
  have e : bl (accT wd ((p :: ps).map (·.1))) ++ 59 :: l = c :: w ++ (32 :: (bl p.1 ++ (joinTail [44, 32] (ps.map (fun p => bl p.1)) ++ 59 :: l))) := by
   unfold accT
   rw [if_neg (by simp), bl_app, bl_app, hwd]
   simp only [joinB, List.map_cons, List.map_map, join_cons]
   simp [bl, Function.comp_def]
  rw [e]
  exact lexB_word hc hw (stop_c (by decide) _) ((hp p List.mem_cons_self _ _ h2 h1).blank 32 (by decide)).lex
def optp (c : Bool) (p : ByteArray × K) : List (ByteArray × K) := if c = true then [p] else []
theorem optp_fst (c : Bool) (p : ByteArray × K) : (optp c p).map (·.1) = opt c p.1 := by cases c <;> rfl
theorem optp_snd (c : Bool) (p : ByteArray × K) : (optp c p).map (·.2) = optK c p.2 := by cases c <;> rfl
theorem optp_mem {c : Bool} {p q : ByteArray × K} (h : q ∈ optp c p) : q = p := by
 cases c with
 | true => exact List.mem_singleton.1 h
 | false => cases h
theorem lex_line {t : Row7} {d a b i : Int} (c : UInt8) (w : Bs) (hwd : bl t.2.1 = c :: w) (hc : lowB c = true) (hw : ∀ x ∈ w, alnB x = true) (hd : 0 ≤ d ∧ d < 10) (ha : 0 ≤ a ∧ a < 10) (hb : 0 ≤ b ∧ b < 10) (hi : I64 i) {l : Bs} {ks : List K} (h : Lex l ks) :
  LexB (bl (lineP t d a b i) ++ l) (kW (c :: w) :: (kLine t d a b i ++ ks)) := by
 have s59 : Lex (59 :: l) (kS 59 :: ks) := (lexB_sign (.inr (.inl rfl)) h).lex
 unfold lineP kLine
 by_cases c4 : t.1 = 4
 ·rw [if_pos c4, if_pos c4]
  have e : bl (t.2.1 ++ ⟨#[32]⟩ ++ regB d ++ cm ++ (numB i ++ ⟨#[40]⟩ ++ regB a ++ ⟨#[41]⟩) ++ ⟨#[59]⟩) ++ l = c :: w ++ (32 :: (bl (regB d) ++ (44 :: (32 :: (itoa i ++ (40 :: (bl (regB a) ++ (41 :: (59 :: l))))))))) := by
   simp only [bl_app, hwd, bl_num, List.append_assoc]; rfl
  rw [e]
  have g1 : Lex (41 :: (59 :: l)) (kS 41 :: kS 59 :: ks) := (lexB_sign (.inr (.inr (.inr rfl))) s59).lex
  have g2 := (lexB_reg ha.1 ha.2 (stop_c (by decide) _) g1).lex
  have g3 := (lexB_sign (.inr (.inr (.inl rfl))) g2).lex
  have g4 := ((lexB_num hi (stop_c (by decide) _) g3).blank 32 (by decide)).lex
  have g5 := (lexB_sign (.inl rfl) g4).lex
  have g6 := ((lexB_reg hd.1 hd.2 (stop_c (by decide) _) g5).blank 32 (by decide)).lex
  exact lexB_word hc hw (stop_c (by decide) _) g6
 ·rw [if_neg c4, if_neg c4]
  by_cases c5 : t.1 = 5
  ·rw [if_pos c5, if_pos c5]
   have e : bl (t.2.1 ++ ⟨#[32]⟩ ++ (numB i ++ ⟨#[40]⟩ ++ regB a ++ ⟨#[41]⟩) ++ cm ++ regB b ++ ⟨#[59]⟩) ++ l = c :: w ++ (32 :: (itoa i ++ (40 :: (bl (regB a) ++ (41 :: (44 :: (32 :: (bl (regB b) ++ (59 :: l))))))))) := by
    simp only [bl_app, hwd, bl_num, List.append_assoc]; rfl
   rw [e]
   have g1 := ((lexB_reg hb.1 hb.2 (stop_c (by decide) _) s59).blank 32 (by decide)).lex
   have g2 := (lexB_sign (.inl rfl) g1).lex
   have g3 := (lexB_sign (.inr (.inr (.inr rfl))) g2).lex
   have g4 := (lexB_reg ha.1 ha.2 (stop_c (by decide) _) g3).lex
   have g5 := (lexB_sign (.inr (.inr (.inl rfl))) g4).lex
   have g6 := ((lexB_num hi (stop_c (by decide) _) g5).blank 32 (by decide)).lex
   exact lexB_word hc hw (stop_c (by decide) _) g6
  ·rw [if_neg c5, if_neg c5]
   have key := lex_parts c w t.2.1 hwd hc hw (optp t.2.2.1 (regB d, kR d) ++ optp t.2.2.2.1 (regB a, kR a) ++ optp t.2.2.2.2.1 (regB b, kR b) ++ optp (t.2.2.2.2.2.1 != 0) (numB i, kN i)) (by
    intro p hp
    simp only [List.mem_append] at hp
    rcases hp with ((hp | hp) | hp) | hp
    ·rw [optp_mem hp]; exact piece_reg hd.1 hd.2
    ·rw [optp_mem hp]; exact piece_reg ha.1 ha.2
    ·rw [optp_mem hp]; exact piece_reg hb.1 hb.2
    ·rw [optp_mem hp]; exact piece_num hi) l ks h
   simp only [List.map_append, optp_fst, optp_snd] at key
   rw [bl_app, List.append_assoc]
   simp only [List.append_assoc] at key ⊢
   exact key
/-- the words of rows -/
def okWord (n : Nat) : Bool := match cupelref20_find.f (n : Int) with
 | none => false
 | some t => !t.2.2.2.2.2.2 || (match bl t.2.1 with
  | [] => false
  | c :: w => lowB c && w.all alnB)
theorem words_ok : (List.range 50).all okWord = true := by decide +kernel
def okNamed (n : Nat) : Bool := match cupelref20_find.f (n : Int) with
 | none => false
 | some t => !t.2.2.2.2.2.2 || ((namedP t.2.1).2 && decide ((namedP t.2.1).1.1 = t.1) && decide ((namedP t.2.1).1.2.1 = t.2.1) && ((namedP t.2.1).1.2.2.1 == t.2.2.1) && ((namedP t.2.1).1.2.2.2.1 == t.2.2.2.1) && ((namedP t.2.1).1.2.2.2.2.1 == t.2.2.2.2.1) && decide ((namedP t.2.1).1.2.2.2.2.2 = t.2.2.2.2.2.1))
theorem named_ok : (List.range 50).all okNamed = true := by decide +kernel
theorem rowx_facts {op : Int} (h : 1 ≤ op ∧ op ≤ 14 ∨ 16 ≤ op ∧ op ≤ 29 ∨ 36 ≤ op ∧ op ≤ 49) {t : Row7} (ht : cupelref20_find.f op = some t) (hf : t.2.2.2.2.2.2 = true) :
  (∃ c w, bl t.2.1 = c :: w ∧ lowB c = true ∧ ∀ x ∈ w, alnB x = true) ∧ namedP t.2.1 = (row6 t, true) := by
 have h1 := List.all_eq_true.1 words_ok op.toNat (List.mem_range.2 (by omega))
 have h2 := List.all_eq_true.1 named_ok op.toNat (List.mem_range.2 (by omega))
 unfold okWord at h1
 unfold okNamed at h2
 rw [show ((op.toNat : Nat) : Int) = op by omega, ht] at h1 h2
 dsimp only at h1 h2
 rw [hf] at h1 h2
 constructor
 ·cases hb : bl t.2.1 with
  | nil => rw [hb] at h1; cases h1
  | cons c w =>
   rw [hb] at h1
   simp only [Bool.not_true, Bool.false_or, Bool.and_eq_true] at h1
   exact ⟨c, w, rfl, h1.1, fun x hx => List.all_eq_true.1 h1.2 x hx⟩
 ·simp only [Bool.not_true, Bool.false_or, Bool.and_eq_true, decide_eq_true_eq, beq_iff_eq] at h2
  obtain ⟨⟨⟨⟨⟨⟨a, b⟩, c⟩, d⟩, e⟩, f⟩, g⟩ := h2
  have key : ∀ x : Row20 × Bool, x.2 = true → x.1.1 = t.1 → x.1.2.1 = t.2.1 → x.1.2.2.1 = t.2.2.1 → x.1.2.2.2.1 = t.2.2.2.1 → x.1.2.2.2.2.1 = t.2.2.2.2.1 → x.1.2.2.2.2.2 = t.2.2.2.2.2.1 → x = (row6 t, true) := by
   rintro ⟨⟨x1, x2, x3, x4, x5, x6⟩, x7⟩ h1 h2 h3 h4 h5 h6 h7
   dsimp only at h1 h2 h3 h4 h5 h6 h7
   subst h1 h2 h3 h4 h5 h6 h7
   rfl
  exact key _ a b c d e f g
end Go.Proofs.YtlaijeeeblcinaaDoor.A
set_option linter.all false
set_option maxRecDepth 100000
namespace Go.Proofs.YtlaijeeeblcinaaDoor.A
open Go.RowKit Go.Lib Go.Proofs.YtlaijeeeblcinaaDoorW.PrintWords
theorem fits_f (k v : Int) (hv : I64 v) : target_fits.f k v = some (fitsP k v) := by
 unfold target_fits.f fitsP
 obtain ⟨h0, h1⟩ := hv
 by_cases c0 : k = 0
 ·rw [if_pos c0, if_pos c0]
 rw [if_neg c0, if_neg c0]
 by_cases c1 : k = 1
 ·rw [if_pos c1, if_pos c1]
  congr 1
  rw [Bool.eq_iff_iff]
  simp only [beq_iff_eq, Bool.and_eq_true, decide_eq_true_eq]
  unfold wrap64 wrap32
  omega
 rw [if_neg c1, if_neg c1]
 by_cases c3 : k = 3
 ·rw [if_pos c3, if_pos c3]
  by_cases c : v ≥ 0
  ·rw [if_pos c, decide_eq_true (show (0 : Int) ≤ v from c)]; rfl
  ·rw [if_neg c, decide_eq_false (show ¬ (0 : Int) ≤ v from c)]; rfl
 rw [if_neg c3, if_neg c3]
theorem eqw_l {x y : List Int} (hl : x.length = y.length) : ∀ (n i k : Nat), i + n = x.length → x.length ≤ 1000000 → slices_Equal_uint64_uint64.l0 k x y (x.length : Int) (i : Int) = some true → x.drop i = y.drop i := by
 intro n
 induction n with
 | zero => intro i k h _ _; rw [List.drop_of_length_le (by omega), List.drop_of_length_le (by omega)]
 | succ n ih =>
  intro i k h hx he
  cases k with
  | zero => cases he
  | succ k =>
   rw [slices_Equal_uint64_uint64.l0, if_pos (by omega), if_pos (by omega), if_pos (by omega), if_pos (by omega)] at he
   have hi : i < x.length := by omega
   have hi2 : i < y.length := by omega
   have r1 : rd x (i : Int) = x[i] := by unfold rd; simp [List.getD_eq_getElem?_getD, hi]
   have r2 : rd y (i : Int) = y[i] := by unfold rd; simp [List.getD_eq_getElem?_getD, hi2]
   by_cases c : rd x (i : Int) = rd y (i : Int)
   ·rw [if_pos c, wrap_succ i (by omega)] at he
    rw [List.drop_eq_getElem_cons hi, List.drop_eq_getElem_cons hi2, ih (i + 1) k (by omega) hx he, ← r1, ← r2, c]
   ·rw [if_neg c] at he; cases he
theorem eqw_true {k : Nat} {x y : List Int} (hx : x.length ≤ 1000000) (h : slices_Equal_uint64_uint64.f k x y = some true) : x = y := by
 unfold slices_Equal_uint64_uint64.f at h
 by_cases c : (x.length : Int) = (y.length : Int)
 ·rw [if_pos c] at h
  have := eqw_l (by omega) x.length 0 k (by omega) hx h
  simpa using this
 ·rw [if_neg c] at h; cases h
def wordsI (x : Item) : List Int := (target_words.f ([] : List Int) x.1 x.2.1 x.2.2.1 x.2.2.2.1 x.2.2.2.2.1).getD []
theorem words_tgt (a b c d e : Int) : target_words.f ([] : List Int) a b c d e = some ((target_words.f ([] : List Int) a b c d e).getD []) := by
 obtain ⟨l, h, _⟩ := words_total a b c d e
 rw [h]; rfl
/-- what is decoded is valid, and its words are the code's -/
theorem dec_valid {k : Nat} {l : List Int} (hl : l.length ≤ 20000) {a : Int} {t : Int × Int × Int × Int × Int × Int × Int} (h : target_Decode.f k l a = some t) (h0 : t.2.2.2.2.2.2 = 0) :
  target_Valid.f t.1 t.2.1 t.2.2.1 t.2.2.2.1 t.2.2.2.2.1 = some true ∧ (l.take t.2.2.2.2.2.1.toNat).drop a.toNat = wordsI (t.1, t.2.1, t.2.2.1, t.2.2.2.1, t.2.2.2.2.1, 0) := by
 have bad2 : (2 : Int) ≠ 0 := by decide
 have bad6 : (6 : Int) ≠ 0 := by decide
 have hj1 : ∀ (k : Nat) (x8 b c d e f : Int), target_Decode.j1 k l a x8 b c d e f = some t → target_Valid.f t.1 t.2.1 t.2.2.1 t.2.2.2.1 t.2.2.2.2.1 = some true ∧ (l.take t.2.2.2.2.2.1.toNat).drop a.toNat = wordsI (t.1, t.2.1, t.2.2.1, t.2.2.2.1, t.2.2.2.2.1, 0) := by
  intro k x8 b c d e f h
  cases k with
  | zero => simp [target_Decode.j1] at h
  | succ k =>
   rw [target_Decode.j1] at h
   obtain ⟨r, hr, h⟩ := Option.bind_eq_some_iff.1 h
   by_cases cr : r = true
   ·subst cr
    rw [if_pos rfl] at h
    obtain ⟨ws, hws, h⟩ := Option.bind_eq_some_iff.1 h
    split at h
    ·split at h
     ·split at h
      ·obtain ⟨q, hq, h⟩ := Option.bind_eq_some_iff.1 h
       by_cases cq : q = true
       ·subst cq
        rw [if_pos rfl] at h
        obtain rfl := Option.some.inj h
        refine ⟨hr, ?_⟩
        obtain ⟨ws', hw', hlen⟩ := words_total b c d e f
        obtain rfl := Option.some.inj (hws.symm.trans hw')
        unfold wordsI
        dsimp only
        rw [hws]
        exact (eqw_true (by omega) hq).symm
       ·rw [if_neg cq] at h
        obtain rfl := Option.some.inj h
        exact absurd h0 bad6
      ·cases h
     ·cases h
    ·cases h
   ·rw [if_neg cr] at h
    obtain rfl := Option.some.inj h
    exact absurd h0 bad6
 have hj0 : ∀ (k : Nat) (b : Bool), target_Decode.j0 k l a b = some t → target_Valid.f t.1 t.2.1 t.2.2.1 t.2.2.2.1 t.2.2.2.2.1 = some true ∧ (l.take t.2.2.2.2.2.1.toNat).drop a.toNat = wordsI (t.1, t.2.1, t.2.2.1, t.2.2.2.1, t.2.2.2.2.1, 0) := by
  intro k b h
  cases k with
  | zero => simp [target_Decode.j0] at h
  | succ k =>
   rw [target_Decode.j0] at h
   split at h
   ·obtain rfl := Option.some.inj h; exact absurd h0 bad2
   ·split at h
    ·split at h
     ·split at h
      ·split at h
       ·obtain rfl := Option.some.inj h; exact absurd h0 bad6
       ·split at h
        ·split at h
         ·exact hj1 _ _ _ _ _ _ _ h
         ·cases h
        ·cases h
      ·exact hj1 _ _ _ _ _ _ _ h
     ·cases h
    ·cases h
 unfold target_Decode.f at h
 split at h
 ·exact hj0 _ _ h
 ·exact hj0 _ _ h
/-- an instruction that Valid lets in -/
structure GoodI (x : Item) : Prop where
 fine : Fine x
 ok : target_Valid.f x.1 x.2.1 x.2.2.1 x.2.2.2.1 x.2.2.2.2.1 = some true
theorem items_good (l : List Int) (hl : l.length ≤ 20000) : ∀ (n k : Nat) (a : Int) (xs : List Item), (l.length : Int) - a ≤ n → 0 ≤ a → itemsF k l a = some xs → AllOk xs → (∀ x ∈ xs, GoodI x) ∧ l.drop a.toNat = xs.flatMap wordsI := by
 intro n
 induction n with
 | zero =>
  intro k a xs hn h0 h hok
  rw [items_nil h (by omega)]
  exact ⟨fun x hx => (by cases hx), List.drop_of_length_le (by omega)⟩
 | succ n ih =>
  intro k a xs hn ha0 h hok
  by_cases ha : a < (l.length : Int)
  ·obtain ⟨k', t, ys, rfl, ht, c, hd, hi, hy, rfl, hok'⟩ := items_cons hl h hok ha
   obtain ⟨h1, h2, h3, h4⟩ := hd c
   obtain ⟨v1, v2⟩ := dec_valid hl ht c
   obtain ⟨g1, g2⟩ := ih k' _ ys (by omega) (by omega) hy hok'
   refine ⟨fun x hx => ?_, ?_⟩
   ·rcases List.mem_cons.1 hx with rfl | hx
    ·exact ⟨⟨h1, hi⟩, v1⟩
    ·exact g1 x hx
   ·rw [List.flatMap_cons, ← g2, ← v2]
    have e : l.drop a.toNat = (l.take t.2.2.2.2.2.1.toNat).drop a.toNat ++ l.drop t.2.2.2.2.2.1.toNat := by
     conv => lhs; rw [← List.take_append_drop t.2.2.2.2.2.1.toNat l]
     rw [List.drop_append_of_le_length (by rw [List.length_take]; omega)]
    exact e
  ·rw [items_nil h ha]
   exact ⟨fun x hx => (by cases hx), List.drop_of_length_le (by omega)⟩
/-- what Valid says, part by part -/
theorem good_parts {x : Item} (h : GoodI x) : ∃ t : Row7, cupelref20_find.f x.1 = some t ∧ rowOf x.1 = t ∧ t.1 = x.1 ∧ t.2.1.size ≤ 100 ∧ t.2.2.2.2.2.2 = true ∧ (t.2.2.1 = false → x.2.1 = 0) ∧ (t.2.2.2.1 = false → x.2.2.1 = 0) ∧ (t.2.2.2.2.1 = false → x.2.2.2.1 = 0) ∧ fitsP t.2.2.2.2.2.1 x.2.2.2.2.1 = true := by
 obtain ⟨⟨⟨ho, d0, d1, a0, a1, b0, b1⟩, hi⟩, hv⟩ := h
 obtain ⟨t, ht, h1, h2⟩ := find_row ho
 have unused : ∀ {u : Bool} {r : Int}, regOk u r = true → u = false → r = 0 := by
  intro u r h hu
  unfold regOk at h
  by_cases c : r = 0
  ·exact c
  ·rw [if_neg c, if_pos hu] at h; cases h
 unfold target_Valid.f at hv
 rw [ht, Option.bind_some] at hv
 by_cases c0 : t.2.2.2.2.2.2 = false
 ·rw [if_pos c0] at hv; cases hv
 rw [if_neg c0] at hv
 by_cases c1 : regOk t.2.2.1 x.2.1 = false
 ·rw [if_pos c1] at hv; cases hv
 rw [if_neg c1] at hv
 by_cases c2 : regOk t.2.2.2.1 x.2.2.1 = false
 ·rw [if_pos c2] at hv; cases hv
 rw [if_neg c2] at hv
 by_cases c3 : regOk t.2.2.2.2.1 x.2.2.2.1 = false
 ·rw [if_pos c3] at hv; cases hv
 rw [if_neg c3, fits_f _ _ hi] at hv
 refine ⟨t, ht, by unfold rowOf; rw [ht]; rfl, h1, h2, b_true c0, unused (b_true c1), unused (b_true c2), unused (b_true c3), Option.some.inj hv⟩
theorem rowLd : cupelref20_find.f 4 = some (4, (⟨#[108, 111, 97, 100]⟩ : ByteArray), true, true, false, 1, true) := rfl
theorem rowSt : cupelref20_find.f 5 = some (5, (⟨#[115, 116, 111, 114, 101]⟩ : ByteArray), false, true, true, 1, true) := rfl
def notData (n : Nat) : Bool := match cupelref20_find.f (n : Int) with
 | none => true
 | some t => !decide (t.2.1 = dataW)
theorem not_data : (List.range 50).all notData = true := by decide +kernel
/-- the tokens of an instruction -/
def kItem (x : Item) : List K := kW (bl (rowOf x.1).2.1) :: kLine (rowOf x.1) x.2.1 x.2.2.1 x.2.2.2.1 x.2.2.2.2.1
theorem lex_item {x : Item} (h : GoodI x) {l : Bs} {ks : List K} (hl : LexB l ks) : LexB (bl (lineI x) ++ 10 :: l) (kItem x ++ ks) := by
 obtain ⟨t, ht, hr, h1, h2, hf, _⟩ := good_parts h
 obtain ⟨⟨ho, d0, d1, a0, a1, b0, b1⟩, hi⟩ := h.fine
 obtain ⟨⟨c, w, hb, hc, hw⟩, _⟩ := rowx_facts ho ht hf
 unfold lineI kItem
 rw [hr, hb]
 exact lex_line c w hb hc hw ⟨d0, d1⟩ ⟨a0, a1⟩ ⟨b0, b1⟩ hi (hl.blank 10 (by decide)).lex
/-- a step of the code's loop -/
theorem cur_item {s : ByteArray} {t : Tok} {x : Item} (h : GoodI x) {k2 : K} {ks : List K} (hc : Cur s t (kItem x ++ (k2 :: ks))) (l : List Int) (hl : l.length ≤ 1000000) (k : Nat) :
  ∃ t', codeF s (k + 1) l t = codeF s k (l ++ wordsI x) t' ∧ Cur s t' (k2 :: ks) := by
 obtain ⟨r, hr, hr2, h1, h2, hf, u1, u2, u3, hi⟩ := good_parts h
 obtain ⟨⟨ho, d0, d1, a0, a1, b0, b1⟩, hI⟩ := h.fine
 obtain ⟨_, hn⟩ := rowx_facts ho hr hf
 unfold kItem at hc
 rw [hr2] at hc
 have hw := hc.1
 have e1 : t.sort = 97 := hw.1
 have e2 : t.text = r.2.1 := by
  have : t.text = ⟨(bl r.2.1).toArray⟩ := hw.2.1
  rw [this]
 obtain ⟨k3, ks3, hk⟩ : ∃ k3 ks3, kLine r x.2.1 x.2.2.1 x.2.2.2.1 x.2.2.2.2.1 ++ (k2 :: ks) = k3 :: ks3 := by
  cases kLine r x.2.1 x.2.2.1 x.2.2.2.1 x.2.2.2.2.1 with
  | nil => exact ⟨_, _, rfl⟩
  | cons a b => exact ⟨_, _, rfl⟩
 have hc' : Cur s t (kW (bl r.2.1) :: k3 :: ks3) := by rw [← hk]; exact hc
 obtain ⟨t1, g1, c1⟩ := cur_next hc'
 rw [← hk] at c1
 have h45 : r.1 = 4 ∨ r.1 = 5 → r.2.2.2.2.2.1 = 1 := by
  rintro (e | e)
  ·rw [h1] at e; rw [e, rowLd] at hr; rw [← Option.some.inj hr]
  ·rw [h1] at e; rw [e, rowSt] at hr; rw [← Option.some.inj hr]
 obtain ⟨t2, g2, c2⟩ := cur_instr ⟨d0, d1⟩ ⟨a0, a1⟩ ⟨b0, b1⟩ hi h45 c1
 refine ⟨t2, ?_, c2⟩
 have hfin : (r.1, if r.1 = 5 then 0 else if r.1 = 4 ∨ r.2.2.1 = true then x.2.1 else 0, if r.1 = 4 ∨ r.1 = 5 ∨ r.2.2.2.1 = true then x.2.2.1 else 0, if r.1 = 4 then 0 else if r.1 = 5 ∨ r.2.2.2.2.1 = true then x.2.2.2.1 else 0, if r.1 = 4 ∨ r.1 = 5 ∨ r.2.2.2.2.2.1 ≠ 0 then x.2.2.2.2.1 else 0) = (x.1, x.2.1, x.2.2.1, x.2.2.2.1, x.2.2.2.2.1) := by
  have z4 : r.1 = 4 → r.2.2.2.2.1 = false := fun e => by rw [h1] at e; rw [e, rowLd] at hr; rw [← Option.some.inj hr]
  have z5 : r.1 = 5 → r.2.2.1 = false := fun e => by rw [h1] at e; rw [e, rowSt] at hr; rw [← Option.some.inj hr]
  have i0 : r.2.2.2.2.2.1 = 0 → x.2.2.2.2.1 = 0 := fun e => by
   rw [e] at hi; unfold fitsP at hi; rw [if_pos rfl] at hi; exact beq_iff_eq.1 hi
  rw [h1]
  have fl : ∀ {b : Bool}, ¬ b = true → b = false := fun h => by simpa using h
  congr 1
  congr 1
  ·by_cases c5 : x.1 = 5
   ·rw [if_pos c5, u1 (z5 (h1.trans c5))]
   ·rw [if_neg c5]
    by_cases c : x.1 = 4 ∨ r.2.2.1 = true
    ·rw [if_pos c]
    ·rw [if_neg c, u1 (fl (fun e => c (.inr e)))]
  congr 1
  ·by_cases c : x.1 = 4 ∨ x.1 = 5 ∨ r.2.2.2.1 = true
   ·rw [if_pos c]
   ·rw [if_neg c, u2 (fl (fun e => c (.inr (.inr e))))]
  congr 1
  ·by_cases c4 : x.1 = 4
   ·rw [if_pos c4, u3 (z4 (h1.trans c4))]
   ·rw [if_neg c4]
    by_cases c : x.1 = 5 ∨ r.2.2.2.2.1 = true
    ·rw [if_pos c]
    ·rw [if_neg c, u3 (fl (fun e => c (.inr e)))]
  ·by_cases c : x.1 = 4 ∨ x.1 = 5 ∨ r.2.2.2.2.2.1 ≠ 0
   ·rw [if_pos c]
   ·rw [if_neg c, i0 (Decidable.byContradiction fun e => c (.inr (.inr e)))]
 rw [hfin] at g2
 rw [codeF, e1, e2, hn, if_neg (by decide), if_neg (by simp), g1]
 dsimp only
 rw [g2]
 dsimp only
 rw [words_app l hl _ _ _ _ _ _ (words_tgt _ _ _ _ _), Option.bind_some]
 rfl
theorem code_back {s : ByteArray} : ∀ (xs : List Item) (l : List Int) (k : Nat) (t : Tok), (∀ x ∈ xs, GoodI x) → Cur s t (xs.flatMap kItem ++ [kE]) → l.length + 2 * xs.length ≤ 1000000 → xs.length < k → codeF s k l t = some (.ok (l ++ xs.flatMap wordsI)) := by
 intro xs
 induction xs with
 | nil =>
  intro l k t _ hc _ hk
  obtain ⟨k, rfl⟩ : ∃ z, k = z + 1 := ⟨k - 1, by omega⟩
  have e : t.sort = 0 := hc.1.1
  rw [codeF, if_pos e]
  simp
 | cons x xs ih =>
  intro l k t hg hc hl hk
  obtain ⟨k, rfl⟩ : ∃ z, k = z + 1 := ⟨k - 1, by omega⟩
  simp only [List.length_cons] at hl hk
  obtain ⟨k2, ks, hks⟩ : ∃ k2 ks, xs.flatMap kItem ++ [kE] = k2 :: ks := by
   cases xs.flatMap kItem with
   | nil => exact ⟨_, _, rfl⟩
   | cons a b => exact ⟨_, _, rfl⟩
  rw [List.flatMap_cons, List.append_assoc, hks] at hc
  obtain ⟨t', e, hc'⟩ := cur_item (hg x List.mem_cons_self) hc l (by omega) k
  rw [← hks] at hc'
  have hwl : (wordsI x).length ≤ 2 := by
   obtain ⟨w, hw, hw2⟩ := words_total x.1 x.2.1 x.2.2.1 x.2.2.2.1 x.2.2.2.2.1
   unfold wordsI; rw [hw]; exact hw2
  rw [e, ih _ k t' (fun y hy => hg y (List.mem_cons_of_mem _ hy)) hc' (by rw [List.length_append]; omega) (by omega)]
  rw [List.flatMap_cons, List.append_assoc]
def kData (v : Int) : List K := [kW (bl dataW), kN v, kS 59]
theorem data_back {s : ByteArray} (k2 : K) (ks : List K) (hk2 : ¬ (k2.1 = 97 ∧ k2.2.1 = bl dataW)) : ∀ (d : List Int) (l : List Int) (k : Nat) (t : Tok), Cur s t (d.flatMap kData ++ (k2 :: ks)) → l.length + d.length < 1000000 → d.length < k → ∃ t', dataF s k l t = some (.ok (l ++ d, t')) ∧ Cur s t' (k2 :: ks) := by
 intro d
 induction d with
 | nil =>
  intro l k t hc _ hk
  obtain ⟨k, rfl⟩ : ∃ z, k = z + 1 := ⟨k - 1, by omega⟩
  refine ⟨t, ?_, hc⟩
  rw [dataF, if_neg, List.append_nil]
  rintro ⟨e1, e2⟩
  obtain ⟨h1, h2, h3⟩ := hc.1
  refine hk2 ⟨h1.symm.trans e1, ?_⟩
  rw [Go.ByteArray.toList_eq, Go.ByteArray.toList_eq, h2] at e2
  exact e2
 | cons v d ih =>
  intro l k t hc hl hk
  obtain ⟨k, rfl⟩ : ∃ z, k = z + 1 := ⟨k - 1, by omega⟩
  simp only [List.length_cons] at hl hk
  obtain ⟨k3, ks3, hk3⟩ : ∃ k3 ks3, d.flatMap kData ++ (k2 :: ks) = k3 :: ks3 := by
   cases d.flatMap kData with
   | nil => exact ⟨_, _, rfl⟩
   | cons a b => exact ⟨_, _, rfl⟩
  have hc1 : Cur s t (kW (bl dataW) :: kN v :: kS 59 :: k3 :: ks3) := by
   rw [← hk3]
   rw [List.flatMap_cons, List.append_assoc] at hc
   exact hc
  have e1 : t.sort = 97 := hc1.1.1
  have e2 : t.text = dataW := hc1.1.2.1
  obtain ⟨t1, g1, c1⟩ := cur_next hc1
  obtain ⟨t2, g2, c2⟩ := cur_num (kind := 2) rfl c1
  obtain ⟨t3, g3, c3⟩ := cur_sign (.inr (.inl rfl)) c2
  rw [← hk3] at c3
  obtain ⟨t', e, hc'⟩ := ih (l ++ [v]) k t3 c3 (by rw [List.length_append]; simp only [List.length_cons, List.length_nil]; omega) (by omega)
  refine ⟨t', ?_, hc'⟩
  rw [dataF, if_pos ⟨e1, by rw [e2]⟩, g1]
  dsimp only
  rw [g2]
  dsimp only
  rw [if_pos (by omega), g3]
  dsimp only
  rw [e, List.append_assoc]; rfl
/-- the tokens of an image -/
def kImage (e : Int) (data : List Int) (xs : List Item) : List K := kW (bl entryW) :: kN e :: kS 59 :: (data.flatMap kData ++ (xs.flatMap kItem ++ [kE]))
theorem lexB_items : ∀ (xs : List Item), (∀ x ∈ xs, GoodI x) → LexB (xs.flatMap fun x => bl (lineI x) ++ [10]) (xs.flatMap kItem ++ [kE]) := by
 intro xs
 induction xs with
 | nil => intro _; exact lexB_end
 | cons x xs ih =>
  intro hg
  have := lex_item (hg x List.mem_cons_self) (ih fun y hy => hg y (List.mem_cons_of_mem _ hy))
  simp only [List.flatMap_cons, List.append_assoc]
  exact this
theorem lexB_data {l : Bs} {ks : List K} (h : LexB l ks) : ∀ (d : List Int), (∀ v ∈ d, I64 v) → LexB ((d.flatMap fun v => bl (dataL (numB v))) ++ l) (d.flatMap kData ++ ks) := by
 intro d
 induction d with
 | nil => intro _; exact h
 | cons v d ih =>
  intro hv
  have g0 := ih fun y hy => hv y (List.mem_cons_of_mem _ hy)
  have g1 := lexB_sign (.inr (.inl rfl)) (g0.blank 10 (by decide)).lex
  have g2 := (lexB_num (hv v List.mem_cons_self) (stop_c (by decide) _) g1.lex).blank 32 (by decide)
  have g3 := lexB_word (c := 100) (w := [97, 116, 97]) (by decide) (by decide) (stop_c (c := 32) (by decide) _) g2.lex
  have e : (((v :: d).flatMap fun v => bl (dataL (numB v))) ++ l) = 100 :: [97, 116, 97] ++ (32 :: (itoa v ++ (59 :: (10 :: ((d.flatMap fun v => bl (dataL (numB v))) ++ l))))) := by
   rw [List.flatMap_cons]
   unfold dataL
   simp only [bl_app, bl_num, List.append_assoc]; rfl
  rw [e, List.flatMap_cons]
  exact g3
theorem bl_data (d : List Int) (acc : ByteArray) : bl (dataTs d acc) = bl acc ++ d.flatMap fun v => bl (dataL (numB v)) := by
 induction d generalizing acc with
 | nil => simp [dataTs]
 | cons v d ih =>
  have := ih (acc ++ dataL (numB v))
  show bl (dataTs d (acc ++ dataL (numB v))) = _
  rw [this, bl_app, List.flatMap_cons, List.append_assoc]
theorem bl_lines (xs : List Item) (acc : ByteArray) : bl (linesT xs acc) = bl acc ++ xs.flatMap fun x => bl (lineI x) ++ [10] := by
 induction xs generalizing acc with
 | nil => simp [linesT]
 | cons x xs ih =>
  have := ih (acc ++ lineI x ++ ⟨#[10]⟩)
  show bl (linesT xs (acc ++ lineI x ++ ⟨#[10]⟩)) = _
  rw [this, bl_app, bl_app, List.flatMap_cons]
  simp only [List.append_assoc]
theorem lex_image (e : Int) (he : I64 e) (data : List Int) (hd : ∀ v ∈ data, I64 v) (xs : List Item) (hg : ∀ x ∈ xs, GoodI x) : Lex (bl (textP e data xs)) (kImage e data xs) := by
 unfold textP kImage
 rw [bl_lines, bl_data]
 have g0 := lexB_data (lexB_items xs hg) data hd
 have g1 := lexB_sign (.inr (.inl rfl)) (g0.blank 10 (by decide)).lex
 have g2 := (lexB_num he (stop_c (by decide) _) g1.lex).blank 32 (by decide)
 have g3 := lexB_word (c := 101) (w := [110, 116, 114, 121]) (by decide) (by decide) (stop_c (c := 32) (by decide) _) g2.lex
 have e' : bl (entryT (numB e)) ++ (data.flatMap fun v => bl (dataL (numB v))) ++ (xs.flatMap fun x => bl (lineI x) ++ [10]) = 101 :: [110, 116, 114, 121] ++ (32 :: (itoa e ++ (59 :: (10 :: ((data.flatMap fun v => bl (dataL (numB v))) ++ (xs.flatMap fun x => bl (lineI x) ++ [10])))))) := by
  unfold entryT
  simp only [bl_app, bl_num, List.append_assoc]
  try rfl
 rw [e']
 exact g3.lex
theorem item_word {x : Item} (h : GoodI x) : bl (rowOf x.1).2.1 ≠ bl dataW := by
 obtain ⟨t, ht, hr, h1, _⟩ := good_parts h
 obtain ⟨ho, _⟩ := h.fine.1
 have := List.all_eq_true.1 not_data x.1.toNat (List.mem_range.2 (by omega))
 unfold notData at this
 rw [show ((x.1.toNat : Nat) : Int) = x.1 by omega, ht] at this
 rw [hr]
 intro e
 have e2 : t.2.1 = dataW := ba_eq e
 dsimp only at this
 rw [e2] at this
 simp at this
/-- THE TEXT OF A VALID IMAGE IS READ AS THE IMAGE -/
theorem parse_text {kc : Nat} {code data : List Int} {e : Int} (h : target_Check.f kc code data e = some 0) (hd : ∀ v ∈ data, I64 v) {xs : List Item} (hx : itemsF kc code 0 = some xs) (hok : AllOk xs) (hs : (textP e data xs).size ≤ 600000) (k : Nat) (hk : 20100 ≤ k) :
  parseP k (textP e data xs) = some (code, data, e, 0, 0) := by
 obtain ⟨hl, hdl, e0, e1, _⟩ := check_items h
 obtain ⟨hg, hc⟩ := items_good code hl code.length kc 0 xs (by omega) (by omega) hx hok
 obtain ⟨_, hxl⟩ := items_fine code hl code.length kc 0 xs (by omega) hx hok
 have hc' : code = xs.flatMap wordsI := by rw [← hc]; rfl
 have he : I64 e := by unfold I64; omega
 have hst := lex_image e he data hd xs hg (textP e data xs) 0 ⟨Nat.zero_le _, rfl⟩
 generalize textP e data xs = s at hs hst ⊢
 obtain ⟨t1, g1, c1⟩ := str_next (i := tok0) hst
 obtain ⟨t2, g2, c2⟩ := cur_word c1
 obtain ⟨t3, g3, c3⟩ := cur_num (kind := 3) (by unfold fitsP; rw [if_neg (by decide), if_neg (by decide), if_pos rfl, decide_eq_true e0, decide_eq_true (by omega)]; rfl) c2
 obtain ⟨k2, ks, hks, hk2⟩ : ∃ k2 ks, xs.flatMap kItem ++ [kE] = k2 :: ks ∧ ¬ (k2.1 = 97 ∧ k2.2.1 = bl dataW) := by
  cases xs with
  | nil => exact ⟨_, _, rfl, fun e => absurd e.1 (by decide)⟩
  | cons x xs => exact ⟨_, _, rfl, fun e => item_word (hg x List.mem_cons_self) e.2⟩
 rw [hks] at c3
 obtain ⟨k3, ks3, hk3⟩ : ∃ k3 ks3, data.flatMap kData ++ (k2 :: ks) = k3 :: ks3 := by
  cases data.flatMap kData with
  | nil => exact ⟨_, _, rfl⟩
  | cons a b => exact ⟨_, _, rfl⟩
 rw [hk3] at c3
 obtain ⟨t4, g4, c4⟩ := cur_sign (.inr (.inl rfl)) c3
 rw [← hk3] at c4
 obtain ⟨t5, g5, c5⟩ := data_back k2 ks hk2 data [] k t4 c4 (by simp only [List.length_nil]; omega) (by omega)
 rw [← hks] at c5
 have g6 := code_back xs [] k t5 hg c5 (by simp only [List.length_nil]; omega) (by omega)
 rw [List.nil_append] at g5 g6
 obtain ⟨r, hr1, hr2⟩ := check_both code data e k k hk hk
 have hr : r = 0 := by
  have hm : ∀ n, target_Check.f (kc + n) code data e = some 0 := by
   intro n
   induction n with
   | zero => exact h
   | succ n ih => exact et_Check.mono code data e (kc + n) _ ih
  have hm2 : ∀ n, target_Check.f (k + n) code data e = some r := by
   intro n
   induction n with
   | zero => exact hr1
   | succ n ih => exact et_Check.mono code data e (k + n) _ ih
  have a := hm k
  have b := hm2 kc
  rw [Nat.add_comm] at b
  exact Option.some.inj (b.symm.trans a)
 subst hr
 unfold parseP headP
 rw [if_neg (by omega), g1, ok_bind]
 have g2' : wantP s entryW t1 = .ok t2 := g2
 rw [g2', ok_bind, g3, ok_bind, g4, ok_bind]
 dsimp only
 rw [g5, Option.bind_some]
 dsimp only
 rw [g6, Option.bind_some]
 dsimp only
 rw [← hc', hr1, Option.bind_some, if_pos rfl]
end Go.Proofs.YtlaijeeeblcinaaDoor.A
set_option linter.all false
set_option maxRecDepth 100000
namespace Go.Proofs.YtlaijeeeblcinaaDoor.A
open Go.RowKit Go.Lib Go.Proofs.YtlaijeeeblcinaaDoorW.PrintWords
def Res {α : Type} (s : ByteArray) (Q : α → Prop) (r : Except Int α) : Prop := match r with
 | .ok a => Q a
 | .error p => 0 ≤ p ∧ p ≤ (s.size : Int)
theorem Res.bind {α β : Type} {s : ByteArray} {Q : α → Prop} {Q' : β → Prop} {r : Except Int α} {f : α → Except Int β} (h : Res s Q r) (hf : ∀ a, Q a → Res s Q' (f a)) : Res s Q' (r.bind f) := by
 cases r with
 | ok a => exact hf a h
 | error p => exact h
end Go.Proofs.YtlaijeeeblcinaaDoor.A
set_option linter.all false
set_option maxRecDepth 100000
namespace Go.Proofs.YtlaijeeeblcinaaDoor.A
open Go.RowKit Go.Lib Go.Proofs.YtlaijeeeblcinaaDoorW.PrintWords
theorem sameC1 (a b : List Int) (e : Int) (hb : b.length ≤ 20000) : ∀ (m i k : Nat), i + m = b.length → m < k → cupelref20_Same.l1 k (i : Int) a b e a b e = some true := by
 intro m
 induction m with
 | zero =>
  intro i k h hk
  obtain ⟨k, rfl⟩ : ∃ z, k = z + 1 := ⟨k - 1, by omega⟩
  simp only [cupelref20_Same.l1]
  rw [if_neg (by omega)]
 | succ m ih =>
  intro i k h hk
  obtain ⟨k, rfl⟩ : ∃ z, k = z + 1 := ⟨k - 1, by omega⟩
  simp only [cupelref20_Same.l1]
  rw [if_pos (by omega), if_pos (by omega), if_pos (by omega), if_pos trivial, wrap_succ i (by omega)]
  exact ih (i + 1) k (by omega) (by omega)
theorem sameC0 (a b : List Int) (e : Int) (ha : a.length ≤ 20000) (hb : b.length ≤ 20000) : ∀ (m i k : Nat), i + m = a.length → m + b.length + 1 < k → cupelref20_Same.l0 k (i : Int) a b e a b e = some true := by
 intro m
 induction m with
 | zero =>
  intro i k h hk
  obtain ⟨k, rfl⟩ : ∃ z, k = z + 1 := ⟨k - 1, by omega⟩
  simp only [cupelref20_Same.l0]
  rw [if_neg (by omega)]
  exact sameC1 a b e hb b.length 0 k (by omega) (by omega)
 | succ m ih =>
  intro i k h hk
  obtain ⟨k, rfl⟩ : ∃ z, k = z + 1 := ⟨k - 1, by omega⟩
  simp only [cupelref20_Same.l0]
  rw [if_pos (by omega), if_pos (by omega), if_pos (by omega), if_pos trivial, wrap_succ i (by omega)]
  exact ih (i + 1) k (by omega) (by omega)
theorem sameC (a b : List Int) (e : Int) (ha : a.length ≤ 20000) (hb : b.length ≤ 20000) (k : Nat) (hk : 40010 ≤ k) : cupelref20_Same.f k a b e a b e = some true := by
 obtain ⟨k, rfl⟩ : ∃ z, k = z + 1 := ⟨k - 1, by omega⟩
 unfold cupelref20_Same.f
 rw [if_pos rfl, if_pos rfl, show ((b.length : Int) != (b.length : Int)) = false from bne_self_eq_false' .., cupelref20_Same.j0, if_neg (by decide)]
 exact sameC0 a b e ha hb a.length 0 k (by omega) (by omega)
theorem reg_small {r : Int} (h0 : 0 ≤ r) (h9 : r < 10) : (regB r).size = 2 := by
 have := (reg_at h0 h9).1
 have e : (⟨(114 :: itoa r).toArray⟩ : ByteArray) = regB r := by apply ba_eq; exact (bl_reg r).symm
 rw [e] at this; exact this
theorem word_small {op : Int} (h : 1 ≤ op ∧ op ≤ 14 ∨ 16 ≤ op ∧ op ≤ 29 ∨ 36 ≤ op ∧ op ≤ 49) {t : Row7} (ht : cupelref20_find.f op = some t) : t.2.1.size ≤ 51 := by
 rcases h with h | h | h
 ·have := find_tab (op - 1).toNat (by omega)
  rw [show (((op - 1).toNat : Nat) : Int) + 1 = op by omega, ht] at this
  have e := Option.some.inj this
  have := (words_at (i := (op - 1).toNat) (by omega)).1
  rw [e]; dsimp only; omega
 ·have := find_bin (op - 16).toNat (by omega)
  rw [show 16 + (((op - 16).toNat : Nat) : Int) = op by omega, ht] at this
  have e := Option.some.inj this
  have := (words_at (i := (op - 16).toNat) (by omega)).2
  rw [e]; dsimp only; omega
 ·have := find_bini (op - 36).toNat (by omega)
  rw [show 36 + (((op - 36).toNat : Nat) : Int) = op by omega, ht] at this
  have e := Option.some.inj this
  have := (words_at (i := (op - 36).toNat) (by omega)).2
  rw [e]
  show (opAt _ ++ _).size ≤ 51
  rw [ls, bsz1]; omega
theorem acc_opt (wd : ByteArray) (l : List ByteArray) (c : Bool) (x : ByteArray) : (accT wd (l ++ opt c x)).size ≤ (accT wd l).size + 2 + x.size := by
 cases c with
 | true =>
  rw [opt_t, accT_snoc, ls, ls]
  have := sgn_size l
  omega
 | false => rw [opt_f, List.append_nil]; omega
theorem line_small {x : Item} (h : Fine x) : (lineI x).size ≤ 100 := by
 obtain ⟨⟨ho, d0, d1, a0, a1, b0, b1⟩, hi⟩ := h
 obtain ⟨t, ht, h1, h2⟩ := find_row ho
 have hw := word_small ho ht
 have hr : rowOf x.1 = t := by unfold rowOf; rw [ht]; rfl
 have sd := reg_small d0 d1
 have sa := reg_small a0 a1
 have sb := reg_small b0 b1
 have si := numB_len _ hi
 unfold lineI lineP
 rw [hr]
 split
 ·simp only [ls, bsz1, bsz2]; omega
 ·split
  ·simp only [ls, bsz1, bsz2]; omega
  ·have g1 := acc_opt t.2.1 [] t.2.2.1 (regB x.2.1)
   have g2 := acc_opt t.2.1 ([] ++ opt t.2.2.1 (regB x.2.1)) t.2.2.2.1 (regB x.2.2.1)
   have g3 := acc_opt t.2.1 ([] ++ opt t.2.2.1 (regB x.2.1) ++ opt t.2.2.2.1 (regB x.2.2.1)) t.2.2.2.2.1 (regB x.2.2.2.1)
   have g4 := acc_opt t.2.1 ([] ++ opt t.2.2.1 (regB x.2.1) ++ opt t.2.2.2.1 (regB x.2.2.1) ++ opt t.2.2.2.2.1 (regB x.2.2.2.1)) (t.2.2.2.2.2.1 != 0) (numB x.2.2.2.2.1)
   have g0 : (accT t.2.1 []).size = t.2.1.size := by unfold accT; rw [if_pos rfl]
   rw [List.nil_append] at g1 g2 g3 g4
   rw [ls, bsz1]
   omega
theorem lines_size (xs : List Item) (h : ∀ x ∈ xs, Fine x) (acc : ByteArray) : (linesT xs acc).size ≤ acc.size + 101 * xs.length := by
 induction xs generalizing acc with
 | nil => exact Nat.le_refl _
 | cons x xs ih =>
  have h1 := line_small (h x List.mem_cons_self)
  have h2 := ih (fun y hy => h y (List.mem_cons_of_mem _ hy)) (acc ++ lineI x ++ ⟨#[10]⟩)
  rw [ls, ls, bsz1] at h2
  show (linesT xs (acc ++ lineI x ++ ⟨#[10]⟩)).size ≤ _
  simp only [List.length_cons]; omega
theorem text_size {k : Nat} {code data : List Int} {e : Int} (h : target_Check.f k code data e = some 0) (hd : ∀ v ∈ data, I64 v) {xs : List Item} (hx : itemsF k code 0 = some xs) (hok : AllOk xs) : (textP e data xs).size ≤ 29 + 28 * data.length + 101 * code.length := by
 obtain ⟨hl, hdl, e0, e1, _⟩ := check_items h
 obtain ⟨hf, hlen⟩ := items_fine code hl code.length k 0 xs (by omega) hx hok
 have he : I64 e := by unfold I64; omega
 have hn := numB_len e he
 have hen : (entryT (numB e)).size ≤ 29 := by unfold entryT; rw [ls, ls, bsz6, bsz2]; omega
 have hds := dataTs_size data hd (entryT (numB e))
 have := lines_size xs hf (dataTs data (entryT (numB e)))
 unfold textP
 omega
end Go.Proofs.YtlaijeeeblcinaaDoor.A

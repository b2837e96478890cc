/- target's reader of texts, in plain Lean: a step answers a token, or the place at which it fails. -/
import Derived.Test.YtlaijeeeblcinaaDoorNx
set_option linter.all false
set_option linter.unusedVariables false
namespace Go.Proofs.YtlaijeeeblcinaaDoor.A
open Go.RowKit Go.Proofs.YtlaijeeeblcinaaDoorW.PrintWords
def nextP (s : ByteArray) (t : Tok) : Except Int Tok := match tokP s t.end_ with | some k => .ok k | none => .error (skipP s t.end_)
def wantP (s x : ByteArray) (t : Tok) : Except Int Tok := if t.sort = 0 ∨ t.sort = 48 ∨ t.text ≠ x then .error t.at_ else nextP s t
def fitsP (kind v : Int) : Bool := if kind = 0 then v == 0 else if kind = 1 then decide (-2147483648 ≤ v) && decide (v ≤ 2147483647) else if kind = 3 then decide (0 ≤ v) && decide (v ≤ 20000) else true
def numberP (s : ByteArray) (kind : Int) (t : Tok) : Except Int (Int × Tok) := if t.sort ≠ 48 ∨ fitsP kind t.val = false then .error t.at_ else (nextP s t).bind fun k => .ok (t.val, k)
def isRegP (t : Tok) : Bool := t.sort == 97 && t.text.size == 2 && bt t.text 0 == 114 && isDig (bt t.text 1)
def registerP (s : ByteArray) (t : Tok) : Except Int (Int × Tok) := if isRegP t = false then .error t.at_ else (nextP s t).bind fun k => .ok (bt t.text 1 - 48, k)
abbrev MI := Int × Int × Int × Int × Int
def placeP (s : ByteArray) (t : Tok) : Except Int ((Int × Int) × Tok) :=
 (numberP s 1 t).bind fun a => (wantP s ⟨#[40]⟩ a.2).bind fun b => (registerP s b).bind fun c => (wantP s ⟨#[41]⟩ c.2).bind fun d => .ok ((a.1, c.1), d)
def commaP (s : ByteArray) (first : Bool) (t : Tok) : Except Int Tok := if first then .ok t else wantP s ⟨#[44]⟩ t
def optRegP (s : ByteArray) (used first : Bool) (t : Tok) : Except Int (Int × Bool × Tok) :=
 if used then (commaP s first t).bind fun k => (registerP s k).bind fun r => .ok (r.1, false, r.2) else .ok (0, first, t)
def instrP (s : ByteArray) (x : Row20) (t : Tok) : Except Int (MI × Tok) :=
 if x.1 = 4 then (registerP s t).bind fun a => (wantP s ⟨#[44]⟩ a.2).bind fun b => (placeP s b).bind fun c => (wantP s ⟨#[59]⟩ c.2).bind fun d => .ok ((4, a.1, c.1.2, 0, c.1.1), d)
 else if x.1 = 5 then (placeP s t).bind fun a => (wantP s ⟨#[44]⟩ a.2).bind fun b => (registerP s b).bind fun c => (wantP s ⟨#[59]⟩ c.2).bind fun d => .ok ((5, 0, a.1.2, c.1, a.1.1), d)
 else (optRegP s x.2.2.1 true t).bind fun a => (optRegP s x.2.2.2.1 a.2.1 a.2.2).bind fun b => (optRegP s x.2.2.2.2.1 b.2.1 b.2.2).bind fun c =>
  (if x.2.2.2.2.2 = 0 then .ok (0, c.2.2) else (commaP s c.2.1 c.2.2).bind fun k => numberP s x.2.2.2.2.2 k).bind fun d =>
  (wantP s ⟨#[59]⟩ d.2).bind fun e => .ok ((x.1, a.1, b.1, c.1, d.1), e)
/-- a token lies in its text -/
def TokOk (s : ByteArray) (t : Tok) : Prop := t.end_ ≤ s.size ∧ t.text.size ≤ s.size
/-- the reader g stands before the token t of the text s -/
structure RdAt (w : World) (g : Nat) (s : ByteArray) (t : Tok) : Prop where
 blk : w.heap[g]? = some (.cells (rdc s t.at_ t.end_ t.sort t.text t.val) 71 (0, 0))
 le : TokOk s t
 size : s.size ≤ 600000
 env : Env w
 big : 8 ≤ g
theorem tokP_end {s : ByteArray} {i : Nat} {k : Tok} (hi : i ≤ s.size) (h : tokP s i = some k) : k.end_ ≤ s.size := by
 have h1 := skip_le s i hi
 unfold tokP at h
 dsimp only at h
 split at h
 ·cases h; simp only; omega
 ·rename_i hne
  have h2 : skipP s i + 1 ≤ s.size := by omega
  split at h
  ·cases h; exact endOf_le _ _ _ h2
  ·split at h
   ·split at h
    ·cases h; exact endOf_le _ _ _ h2
    ·cases h
   ·split at h
    ·cases h; exact h2
    ·cases h
theorem tokP_ok {s : ByteArray} {i : Nat} {k : Tok} (hi : i ≤ s.size) (h : tokP s i = some k) : TokOk s k := by
 refine ⟨tokP_end hi h, ?_⟩
 unfold tokP at h
 dsimp only at h
 split at h
 ·cases h; exact Nat.zero_le _
 ·split at h
  ·cases h; simp only [ByteArray.size_extract]; omega
  ·split at h
   ·split at h
    ·cases h; simp only [ByteArray.size_extract]; omega
    ·cases h
   ·split at h
    ·cases h; simp only [ByteArray.size_extract]; omega
    ·cases h
theorem RdAt.chg {w w' : World} {g : Nat} {s : ByteArray} {t k : Tok} (h : RdAt w g s t) (hc : Chg (· = g) w w') (hb : w'.heap[g]? = some (.cells (rdc s k.at_ k.end_ k.sort k.text k.val) 71 (0, 0))) (hk : TokOk s k) : RdAt w' g s k :=
 ⟨hb, hk, h.size, h.env.chg hc (fun j hj e => by have := h.big; omega), h.big⟩
end Go.Proofs.YtlaijeeeblcinaaDoor.A
set_option linter.all false
set_option linter.unusedVariables false
set_option maxRecDepth 100000
namespace Go.Proofs.YtlaijeeeblcinaaDoor.A
open Go.RowKit Go.Proofs.YtlaijeeeblcinaaDoorW.PrintWords Go.Proofs.YtlaijeeeblcinaaDoorW.PrintLast Go.Proofs.YtlaijeeeblcinaaDoorW.PrintMore
set_option maxHeartbeats 8000000
/-- how a step ends: it answers, or it fails -/
def ROr (g : Nat) (s : ByteArray) (w : World) (r : Except Int Tok) (e : Ending) (w' : World) : Prop :=
 (∃ k, e = .returned (.tuple #[]) ∧ Aside0 (r = .ok k) ∧ Aside0 (RdAt w' g s k) ∧ Aside0 (Chg (· = g) w w')) ∨ (∃ p, e = failed p ∧ Aside0 (r = .error p) ∧ Aside0 (Chg (· = g) w w'))
def VOr (g : Nat) (s : ByteArray) (w : World) (r : Except Int (Int × Tok)) (e : Ending) (w' : World) : Prop :=
 (∃ v k, e = .returned (.int .i64 v) ∧ Aside0 (r = .ok (v, k)) ∧ Aside0 (RdAt w' g s k) ∧ Aside0 (Chg (· = g) w w')) ∨ (∃ p, e = failed p ∧ Aside0 (r = .error p) ∧ Aside0 (Chg (· = g) w w'))
theorem next_or {w : World} {g : Nat} {s : ByteArray} {t : Tok} (h : RdAt w g s t) : Calls Tryd.prog 35 #[.pointer (some ⟨g, 0, none⟩)] w (ROr g s w (nextP s t)) := by
 refine (next_calls g t.end_ s t.text t.at_ t.sort t.val w h.blk h.le.1 h.size h.env h.big).mono ?_
 intro e w' hn
 unfold NextEnd at hn
 cases hk : tokP s t.end_ with
 | some k =>
  rw [hk] at hn
  obtain ⟨rfl, hb, hc⟩ := hn
  exact .inl ⟨k, rfl, ⟨by unfold nextP; rw [hk]⟩, ⟨h.chg hc hb (tokP_ok h.le.1 hk)⟩, ⟨hc⟩⟩
 | none =>
  rw [hk] at hn
  obtain ⟨rfl, hc⟩ := hn
  exact .inr ⟨_, rfl, ⟨by unfold nextP; rw [hk]⟩, ⟨hc⟩⟩
theorem RdAt.facts {w : World} {g : Nat} {s : ByteArray} {t : Tok} (h : RdAt w g s t) :
  w.cell? ⟨g, 1, none⟩ = some (.int .i64 t.at_) ∧ w.cell? ⟨g, 3, none⟩ = some (.int .u8 t.sort) ∧ w.cell? ⟨g, 4, none⟩ = some (.string t.text) ∧ w.cell? ⟨g, 5, none⟩ = some (.int .i64 t.val) :=
 ⟨(rd_facts h.blk).2.1, (rd_facts h.blk).2.2.2.1, (rd_facts h.blk).2.2.2.2.1, (rd_facts h.blk).2.2.2.2.2⟩
theorem failed_or {w : World} {g : Nat} {s : ByteArray} {t : Tok} (h : RdAt w g s t) :
  Calls Tryd.prog 39 #[.pointer (some ⟨g, 0, none⟩)] w fun e' w' => e' = failed t.at_ ∧ w' = w := fail_calls h.blk
theorem text_ne {a b : ByteArray} (h : a ≠ b) : (!a.toList == b.toList) = true := by
 rw [Go.ByteArray.toList_eq, Go.ByteArray.toList_eq]
 have : ¬ a.data.toList = b.data.toList := fun e => h (ByteArray.ext (Array.toList_inj.mp e))
 simpa using this
theorem text_eq (a : ByteArray) : (!a.toList == a.toList) = false := by simp
theorem want_or {w : World} {g : Nat} {s : ByteArray} {t : Tok} (x : ByteArray) (h : RdAt w g s t) : Calls Tryd.prog 36 #[.pointer (some ⟨g, 0, none⟩), .string x] w (ROr g s w (wantP s x t)) := by
 obtain ⟨c1, c3, c4, c5⟩ := h.facts
 have H := Aside0.mk h
 clear h
 by_cases a : t.sort = 0 ∨ t.sort = 48 ∨ t.text ≠ x
 ·have he : wantP s x t = .error t.at_ := if_pos a
  have HE := Aside0.mk he
  clear he
  by_cases a1 : t.sort = 0
  ·have a1b : (t.sort == 0) = true := by simp [a1]
   clear a a1
   go_enter Tryd.func36, Tryd.ntmps36
   go_wp2_with (go_at_call 39; refine (failed_or H.out).mono ?_; rintro e w2 ⟨rfl, rfl⟩)
   exact ⟨rfl, .inr ⟨_, rfl, HE, ⟨Chg.refl _ _⟩⟩⟩
  ·have a1b : (t.sort == 0) = false := by simp [a1]
   by_cases a2 : t.sort = 48
   ·have a2b : (t.sort == 48) = true := by simp [a2]
    clear a a1 a2
    go_enter Tryd.func36, Tryd.ntmps36
    go_wp2_with (go_at_call 39; refine (failed_or H.out).mono ?_; rintro e w2 ⟨rfl, rfl⟩)
    exact ⟨rfl, .inr ⟨_, rfl, HE, ⟨Chg.refl _ _⟩⟩⟩
   ·have a2b : (t.sort == 48) = false := by simp [a2]
    have a3 : t.text ≠ x := by rcases a with a | a | a; (· exact absurd a a1); (· exact absurd a a2); exact a
    have a3b := text_ne a3
    clear a a1 a2 a3
    go_enter Tryd.func36, Tryd.ntmps36
    go_wp2_with (go_at_call 39; refine (failed_or H.out).mono ?_; rintro e w2 ⟨rfl, rfl⟩)
    exact ⟨rfl, .inr ⟨_, rfl, HE, ⟨Chg.refl _ _⟩⟩⟩
 ·have he : wantP s x t = nextP s t := if_neg a
  have a1b : (t.sort == 0) = false := by simp; exact fun e => a (.inl e)
  have a2b : (t.sort == 48) = false := by simp; exact fun e => a (.inr (.inl e))
  have a3 : t.text = x := Classical.byContradiction fun e => a (.inr (.inr e))
  have a3b := text_eq x
  rw [he]
  rw [a3] at c4
  clear a he a3
  go_enter Tryd.func36, Tryd.ntmps36
  go_wp2_with (go_at_call 35; refine (next_or H.out).mono ?_; rintro e w2 (⟨k, rfl, hr, hR, hC⟩ | ⟨p, rfl, hr, hC⟩))
  ·go_end0
   exact .inl ⟨k, rfl, hr, hR, hC⟩
  ·exact ⟨rfl, .inr ⟨p, rfl, hr, hC⟩⟩
theorem fits_eq (kind v : Int) : target_fits.f kind v = some (fitsP kind v) := by
 unfold target_fits.f fitsP
 by_cases h0 : kind = 0
 ·rw [if_pos h0, if_pos h0]
 ·rw [if_neg h0, if_neg h0]
  by_cases h1 : kind = 1
  ·rw [if_pos h1, if_pos h1]
   congr 1
   by_cases hb : -2147483648 ≤ v ∧ v ≤ 2147483647
   ·have e : wrap64 (wrap32 v) = v := by unfold wrap64 wrap32; omega
    rw [e, decide_eq_true hb.1, decide_eq_true hb.2]; simp
   ·have e : v ≠ wrap64 (wrap32 v) := by unfold wrap64 wrap32; omega
    have e2 : (decide (-2147483648 ≤ v) && decide (v ≤ 2147483647)) = false := by simp; omega
    rw [e2]; simpa using e
  ·rw [if_neg h1, if_neg h1]
   by_cases h3 : kind = 3
   ·rw [if_pos h3, if_pos h3]
    by_cases hv : v ≥ 0
    ·rw [if_pos hv]; simp only [show decide (0 ≤ v) = true from decide_eq_true hv, Bool.true_and]
    ·rw [if_neg hv]; simp only [show decide (0 ≤ v) = false from decide_eq_false hv, Bool.false_and]
   ·rw [if_neg h3, if_neg h3]
theorem fits_or (kind v : Int) (w : World) : Calls Tryd.prog 26 #[.int .i64 kind, .int .i64 v] w fun e w' => e = .returned (.bool (fitsP kind v)) ∧ Drawn0 w w' := target_fits.calls kind v _ w (fits_eq kind v)
theorem RdAt.drawn {w w' : World} {g : Nat} {s : ByteArray} {t : Tok} (h : RdAt w g s t) (hd : Drawn0 w w') : RdAt w' g s t := by
 refine h.chg (Chg.of_drawn _ hd) ?_ h.le
 obtain ⟨n, rfl⟩ := hd.out
 exact blk_drewN h.blk n
theorem number_or {w : World} {g : Nat} {s : ByteArray} {t : Tok} (kind : Int) (h : RdAt w g s t) : Calls Tryd.prog 37 #[.pointer (some ⟨g, 0, none⟩), .int .i64 kind] w (VOr g s w (numberP s kind t)) := by
 obtain ⟨c1, c3, c4, c5⟩ := h.facts
 have H := Aside0.mk h
 clear h
 by_cases a1 : t.sort = 48
 ·have a1b : (t.sort != 48) = false := by simp [a1]
  cases a2 : fitsP kind t.val
  ·have he : numberP s kind t = .error t.at_ := if_pos (.inr a2)
   have HE := Aside0.mk he
   clear he a1
   go_enter Tryd.func37, Tryd.ntmps37
   go_wp2_with (first | (go_at_call 26; refine (fits_or kind t.val _).mono ?_; rintro e w2 ⟨rfl, hD⟩; try rw [a2]; have HR2 := Aside0.mk (H.out.drawn hD); have HD2 := Aside0.mk hD; clear hD) | (go_at_call 39; refine (failed_or HR2.out).mono ?_; rintro e w3 ⟨rfl, rfl⟩))
   exact ⟨rfl, .inr ⟨_, rfl, HE, ⟨Chg.of_drawn _ HD2.out⟩⟩⟩
  ·have he : numberP s kind t = (nextP s t).bind fun k => .ok (t.val, k) := if_neg (by rintro (h | h); (· exact h a1); (· rw [a2] at h; cases h))
   have HE := Aside0.mk he
   clear he a1
   go_enter Tryd.func37, Tryd.ntmps37
   go_wp2_with (first | (go_at_call 26; refine (fits_or kind t.val _).mono ?_; rintro e w2 ⟨rfl, hD⟩; try rw [a2]; have HR2 := Aside0.mk (H.out.drawn hD); have HD2 := Aside0.mk hD; clear hD) | (go_at_call 35; refine (next_or HR2.out).mono ?_; rintro e w3 (⟨k, rfl, hr, hR, hC⟩ | ⟨p, rfl, hr, hC⟩)))
   ·go_ret
    exact .inl ⟨_, k, rfl, ⟨by rw [HE.out, hr.out]; rfl⟩, hR, ⟨(Chg.of_drawn _ HD2.out).trans hC.out⟩⟩
   ·exact ⟨rfl, .inr ⟨p, rfl, ⟨by rw [HE.out, hr.out]; rfl⟩, ⟨(Chg.of_drawn _ HD2.out).trans hC.out⟩⟩⟩
 ·have a1b : (t.sort != 48) = true := by simp [a1]
  have he : numberP s kind t = .error t.at_ := if_pos (.inl a1)
  have HE := Aside0.mk he
  clear he a1
  go_enter Tryd.func37, Tryd.ntmps37
  go_wp2_with (go_at_call 39; refine (failed_or H.out).mono ?_; rintro e w2 ⟨rfl, rfl⟩)
  exact ⟨rfl, .inr ⟨_, rfl, HE, ⟨Chg.refl _ _⟩⟩⟩
theorem register_or {w : World} {g : Nat} {s : ByteArray} {t : Tok} (h : RdAt w g s t) : Calls Tryd.prog 64 #[.pointer (some ⟨g, 0, none⟩)] w (VOr g s w (registerP s t)) := by
 obtain ⟨c1, c3, c4, c5⟩ := h.facts
 have hz : t.text.size ≤ 600000 := Nat.le_trans h.le.2 h.size
 have H := Aside0.mk h
 clear h
 have hb0 := bt_range t.text 0
 have hb1 := bt_range t.text 1
 cases hr : isRegP t
 ·have he : registerP s t = .error t.at_ := if_pos hr
  have HE := Aside0.mk he
  clear he
  by_cases a1 : t.sort = 97
  ·have a1b : (t.sort != 97) = false := by simp [a1]
   by_cases a2 : t.text.size = 2
   ·have a2i : (t.text.size : Int) = 2 := by omega
    have a2b := bne_eq_false_iff_eq.mpr a2i
    have a2c := beq_iff_eq.mpr a2i
    clear a2i
    have hx0 : ∀ h : 0 < t.text.size, ((t.text[0]'h).toNat : Int) = bt t.text 0 := bt_at t.text 0
    have hx1 : ∀ h : 1 < t.text.size, ((t.text[1]'h).toNat : Int) = bt t.text 1 := bt_at t.text 1
    have p0 : (0 : Nat) < t.text.size := by omega
    have p1 : (1 : Nat) < t.text.size := by omega
    by_cases a3 : bt t.text 0 = 114
    ·have a3b : (bt t.text 0 != 114) = false := by simp [a3]
     cases a4 : isDig (bt t.text 1)
     ·clear hr a1 a2 a3
      go_enter Tryd.func64, Tryd.ntmps64
      go_wp2_with (first | (go_at_call 60; refine (digit_calls (bt t.text 1) _).mono ?_; rintro e w2 ⟨rfl, rfl⟩; try rw [a4]) | (go_at_call 39; refine (failed_or H.out).mono ?_; rintro e w2 ⟨rfl, rfl⟩))
      exact ⟨rfl, .inr ⟨_, rfl, HE, ⟨Chg.refl _ _⟩⟩⟩
     ·exfalso; simp [isRegP, a1, a2, a3, a4] at hr
    ·have a3b : (bt t.text 0 != 114) = true := by simp [a3]
     clear hr a1 a2 a3
     go_enter Tryd.func64, Tryd.ntmps64
     go_wp2_with (go_at_call 39; refine (failed_or H.out).mono ?_; rintro e w2 ⟨rfl, rfl⟩)
     exact ⟨rfl, .inr ⟨_, rfl, HE, ⟨Chg.refl _ _⟩⟩⟩
   ·have a2i : ¬ (t.text.size : Int) = 2 := by omega
    have a2b := bne_iff_ne.mpr a2i
    have a2c := beq_eq_false_iff_ne.mpr a2i
    clear a2i
    clear hr a1 a2
    go_enter Tryd.func64, Tryd.ntmps64
    go_wp2_with (go_at_call 39; refine (failed_or H.out).mono ?_; rintro e w2 ⟨rfl, rfl⟩)
    exact ⟨rfl, .inr ⟨_, rfl, HE, ⟨Chg.refl _ _⟩⟩⟩
  ·have a1b : (t.sort != 97) = true := by simp [a1]
   clear hr a1
   go_enter Tryd.func64, Tryd.ntmps64
   go_wp2_with (go_at_call 39; refine (failed_or H.out).mono ?_; rintro e w2 ⟨rfl, rfl⟩)
   exact ⟨rfl, .inr ⟨_, rfl, HE, ⟨Chg.refl _ _⟩⟩⟩
 ·have he : registerP s t = (nextP s t).bind fun k => .ok (bt t.text 1 - 48, k) := if_neg (by rw [hr]; decide)
  have HE := Aside0.mk he
  clear he
  obtain ⟨⟨⟨a1, a2⟩, a3⟩, a4⟩ : ((t.sort = 97 ∧ t.text.size = 2) ∧ bt t.text 0 = 114) ∧ isDig (bt t.text 1) = true := by simpa [isRegP] using hr
  have a1b : (t.sort != 97) = false := by simp [a1]
  have a2i : (t.text.size : Int) = 2 := by omega
  have a2b := bne_eq_false_iff_eq.mpr a2i
  have a2c := beq_iff_eq.mpr a2i
  clear a2i
  have a3b : (bt t.text 0 != 114) = false := by simp [a3]
  have hx0 : ∀ h : 0 < t.text.size, ((t.text[0]'h).toNat : Int) = bt t.text 0 := bt_at t.text 0
  have hx1 : ∀ h : 1 < t.text.size, ((t.text[1]'h).toNat : Int) = bt t.text 1 := bt_at t.text 1
  have p0 : (0 : Nat) < t.text.size := by omega
  have p1 : (1 : Nat) < t.text.size := by omega
  have hsub : (bt t.text 1 - 48) % 256 = bt t.text 1 - 48 := by simp [isDig] at a4; omega
  clear hr a1 a2 a3
  go_enter Tryd.func64, Tryd.ntmps64
  go_wp2_with (first | (go_at_call 60; refine (digit_calls (bt t.text 1) _).mono ?_; rintro e w2 ⟨rfl, rfl⟩; try rw [a4]) | (go_at_call 35; refine (next_or H.out).mono ?_; rintro e w3 (⟨k, rfl, hr, hR, hC⟩ | ⟨p, rfl, hr, hC⟩)))
  ·go_ret
   exact .inl ⟨bt t.text 1 - 48, k, by first | rfl | exact congrArg (fun z => Ending.returned (.int .i64 z)) hsub, ⟨by rw [HE.out, hr.out]; rfl⟩, hR, hC⟩
  ·exact ⟨rfl, .inr ⟨p, rfl, ⟨by rw [HE.out, hr.out]; rfl⟩, hC⟩⟩
theorem Chg.weak {P Q : Nat → Prop} {w w' : World} (h : Chg P w w') (hq : ∀ k, P k → Q k) : Chg Q w w' := ⟨h.os, h.tape, h.output, h.size, fun k hk hn => h.block k hk (fun hp => hn (hq k hp))⟩
/-- an instruction's five cells -/
def mic (a b c d e : Int) : Obj := .cells #[.int .i64 a, .int .i64 b, .int .i64 c, .int .i64 d, .int .i64 e] 26 (0, 0)
theorem mi_imm {w : World} {b : Nat} {a1 a2 a3 a4 a5 : Int} (h : w.heap[b]? = some (mic a1 a2 a3 a4 a5)) (v : Int) : (w.setCell ⟨b, 4, none⟩ (.int .i64 v)).heap[b]? = some (mic a1 a2 a3 a4 v) := (blk_set h 4 _).trans rfl
theorem mi_a {w : World} {b : Nat} {a1 a2 a3 a4 a5 : Int} (h : w.heap[b]? = some (mic a1 a2 a3 a4 a5)) (v : Int) : (w.setCell ⟨b, 2, none⟩ (.int .i64 v)).heap[b]? = some (mic a1 a2 v a4 a5) := (blk_set h 2 _).trans rfl
theorem mi_d {w : World} {b : Nat} {a1 a2 a3 a4 a5 : Int} (h : w.heap[b]? = some (mic a1 a2 a3 a4 a5)) (v : Int) : (w.setCell ⟨b, 1, none⟩ (.int .i64 v)).heap[b]? = some (mic a1 v a3 a4 a5) := (blk_set h 1 _).trans rfl
theorem mi_b {w : World} {b : Nat} {a1 a2 a3 a4 a5 : Int} (h : w.heap[b]? = some (mic a1 a2 a3 a4 a5)) (v : Int) : (w.setCell ⟨b, 3, none⟩ (.int .i64 v)).heap[b]? = some (mic a1 a2 a3 v a5) := (blk_set h 3 _).trans rfl
theorem mi_op {w : World} {b : Nat} {a1 a2 a3 a4 a5 : Int} (h : w.heap[b]? = some (mic a1 a2 a3 a4 a5)) (v : Int) : (w.setCell ⟨b, 0, none⟩ (.int .i64 v)).heap[b]? = some (mic v a2 a3 a4 a5) := (blk_set h 0 _).trans rfl
theorem mi_facts {w : World} {b : Nat} {a1 a2 a3 a4 a5 : Int} (h : w.heap[b]? = some (mic a1 a2 a3 a4 a5)) :
  w.cell? ⟨b, 0, none⟩ = some (.int .i64 a1) ∧ w.cell? ⟨b, 1, none⟩ = some (.int .i64 a2) ∧ w.cell? ⟨b, 2, none⟩ = some (.int .i64 a3) ∧ w.cell? ⟨b, 3, none⟩ = some (.int .i64 a4) ∧ w.cell? ⟨b, 4, none⟩ = some (.int .i64 a5) :=
 ⟨(blk_cell h 0).trans rfl, (blk_cell h 1).trans rfl, (blk_cell h 2).trans rfl, (blk_cell h 3).trans rfl, (blk_cell h 4).trans rfl⟩
theorem mi_free {w : World} {b : Nat} {a1 a2 a3 a4 a5 : Int} (h : w.heap[b]? = some (mic a1 a2 a3 a4 a5)) :
  w.frozen? ⟨b, 0, none⟩ = false ∧ w.frozen? ⟨b, 1, none⟩ = false ∧ w.frozen? ⟨b, 2, none⟩ = false ∧ w.frozen? ⟨b, 3, none⟩ = false ∧ w.frozen? ⟨b, 4, none⟩ = false :=
 ⟨blk_frozen h 0, blk_frozen h 1, blk_frozen h 2, blk_frozen h 3, blk_frozen h 4⟩
/-- a store into another block than the reader's -/
theorem RdAt.set {w : World} {g b : Nat} {s : ByteArray} {t : Tok} (h : RdAt w g s t) (hne : b ≠ g) (hb : 8 ≤ b) (o : Nat) (v : Value) : RdAt (w.setCell ⟨b, o, none⟩ v) g s t :=
 ⟨blk_far h.blk (Ne.symm hne) v, h.le, h.size, h.env.chg (P := (· = b)) ((Chg.refl (· = b) _).setCell (a := ⟨b, o, none⟩) rfl v) (fun k hk e => by omega), h.big⟩
def POr (g b : Nat) (s : ByteArray) (w : World) (a1 a2 a4 : Int) (r : Except Int ((Int × Int) × Tok)) (e : Ending) (w' : World) : Prop :=
 (∃ i a k, e = .returned (.tuple #[]) ∧ Aside0 (r = .ok ((i, a), k)) ∧ Aside0 (RdAt w' g s k) ∧ Aside0 (w'.heap[b]? = some (mic a1 a2 a a4 i)) ∧ Aside0 (Chg (fun k => k = g ∨ k = b) w w')) ∨ (∃ p, e = failed p ∧ Aside0 (r = .error p) ∧ Aside0 (Chg (fun k => k = g ∨ k = b) w w'))
theorem place_or {w : World} {g b : Nat} {s : ByteArray} {t : Tok} {a1 a2 a3 a4 a5 : Int} (h : RdAt w g s t) (hb : w.heap[b]? = some (mic a1 a2 a3 a4 a5)) (hne : b ≠ g) (hb8 : 8 ≤ b) :
  Calls Tryd.prog 65 #[.pointer (some ⟨g, 0, none⟩), .pointer (some ⟨b, 0, none⟩)] w (POr g b s w a1 a2 a4 (placeP s t)) := by
 have H := Aside0.mk h
 have HB := Aside0.mk hb
 have HN := Aside0.mk hne
 have H8 := Aside0.mk hb8
 clear h hb hne hb8
 go_enter Tryd.func65, Tryd.ntmps65
 have W1 := Aside0.mk (fun (w w' : World) (h : Chg (· = g) w w') => (h.weak (fun k e => .inl e) : Chg (fun k => k = g ∨ k = b) w w'))
 have W2 := Aside0.mk (fun (w w' : World) (h : Chg (fun k => k = g ∨ k = b) w w') (o : Nat) (v : Value) => h.setCell (a := ⟨b, o, none⟩) (.inr rfl) v)
 go_wp2_with (first | (go_at_call 36; refine (want_or ⟨#[41]⟩ (hR5.out.set HN.out H8.out 2 (.int .i64 v5))).mono ?_; rintro e w6 (⟨k6, rfl, hr6, hR6, hC6⟩ | ⟨p, rfl, hr, hC⟩)) | (go_at_call 64; refine (register_or hR4.out).mono ?_; rintro e w5 (⟨v5, k5, rfl, hr5, hR5, hC5⟩ | ⟨p, rfl, hr, hC⟩); (have hb5 := hC5.out.blk HB4.out HN.out; obtain ⟨q0, q1, q2, q3, q4⟩ := mi_facts hb5; obtain ⟨r0, r1, r2, r3, r4⟩ := mi_free hb5; have HB5 := Aside0.mk hb5; clear hb5)) | (go_at_call 36; refine (want_or ⟨#[40]⟩ (hR2.out.set HN.out H8.out 4 (.int .i64 v2))).mono ?_; rintro e w4 (⟨k4, rfl, hr4, hR4, hC4⟩ | ⟨p, rfl, hr, hC⟩); (have HB4 := Aside0.mk (hC4.out.blk (mi_imm HB2.out v2) HN.out))) | (go_at_call 37; refine (number_or 1 H.out).mono ?_; rintro e w2 (⟨v2, k2, rfl, hr2, hR2, hC2⟩ | ⟨p, rfl, hr, hC⟩); (have hb2 := hC2.out.blk HB.out HN.out; obtain ⟨x0, x1, x2, x3, x4⟩ := mi_facts hb2; obtain ⟨y0, y1, y2, y3, y4⟩ := mi_free hb2; have HB2 := Aside0.mk hb2; clear hb2)))
 ·go_end0
  exact .inl ⟨v2, v5, k6, rfl, ⟨by unfold placeP; rw [hr2.out]; simp only [Except.bind]; rw [hr4.out]; simp only [Except.bind]; rw [hr5.out]; simp only [Except.bind]; rw [hr6.out]⟩, hR6, ⟨hC6.out.blk (mi_a HB5.out v5) HN.out⟩, ⟨(W2.out _ _ ((W2.out _ _ (W1.out _ _ hC2.out) 4 _).trans ((W1.out _ _ hC4.out).trans (W1.out _ _ hC5.out))) 2 _).trans (W1.out _ _ hC6.out)⟩⟩
 ·exact ⟨rfl, .inr ⟨p, rfl, ⟨by unfold placeP; rw [hr2.out]; simp only [Except.bind]; rw [hr4.out]; simp only [Except.bind]; rw [hr5.out]; simp only [Except.bind]; rw [hr.out]⟩, ⟨(W2.out _ _ ((W2.out _ _ (W1.out _ _ hC2.out) 4 _).trans ((W1.out _ _ hC4.out).trans (W1.out _ _ hC5.out))) 2 _).trans (W1.out _ _ hC.out)⟩⟩⟩
 ·exact ⟨rfl, .inr ⟨p, rfl, ⟨by unfold placeP; rw [hr2.out]; simp only [Except.bind]; rw [hr4.out]; simp only [Except.bind]; rw [hr.out]⟩, ⟨(W2.out _ _ (W1.out _ _ hC2.out) 4 _).trans ((W1.out _ _ hC4.out).trans (W1.out _ _ hC.out))⟩⟩⟩
 ·exact ⟨rfl, .inr ⟨p, rfl, ⟨by unfold placeP; rw [hr2.out]; simp only [Except.bind]; rw [hr.out]⟩, ⟨(W2.out _ _ (W1.out _ _ hC2.out) 4 _).trans (W1.out _ _ hC.out)⟩⟩⟩
 ·exact ⟨rfl, .inr ⟨p, rfl, ⟨by unfold placeP; rw [hr.out]; rfl⟩, ⟨W1.out _ _ hC.out⟩⟩⟩
end Go.Proofs.YtlaijeeeblcinaaDoor.A

/- target's reader of texts, in plain Lean: a step answers a token, or the place at which it fails. -/
import Derived.Test.YtlaijeeeblcinaaDoorNx0
set_option linter.all false
set_option linter.unusedVariables false
namespace Go.Proofs.YtlaijeeeblcinaaDoor.A
open Go.RowKit Go.Proofs.YtlaijeeeblcinaaDoorW.PrintWords
def nextP (s : ByteArray) (t : Tok) : Except Int Tok := match tokP s t.end_ with | some k => .ok k | none => .error (skipP s t.end_)
def wantP (s x : ByteArray) (t : Tok) : Except Int Tok := if t.sort = 0 ∨ t.sort = 48 ∨ t.text ≠ x then .error t.at_ else nextP s t
def fitsP (kind v : Int) : Bool := if kind = 0 then v == 0 else if kind = 1 then decide (-2147483648 ≤ v) && decide (v ≤ 2147483647) else if kind = 3 then decide (0 ≤ v) && decide (v ≤ 20000) else true
def numberP (s : ByteArray) (kind : Int) (t : Tok) : Except Int (Int × Tok) := if t.sort ≠ 48 ∨ fitsP kind t.val = false then .error t.at_ else (nextP s t).bind fun k => .ok (t.val, k)
def isRegP (t : Tok) : Bool := t.sort == 97 && t.text.size == 2 && bt t.text 0 == 114 && isDig (bt t.text 1)
def registerP (s : ByteArray) (t : Tok) : Except Int (Int × Tok) := if isRegP t = false then .error t.at_ else (nextP s t).bind fun k => .ok (bt t.text 1 - 48, k)
abbrev MI := Int × Int × Int × Int × Int
def placeP (s : ByteArray) (t : Tok) : Except Int ((Int × Int) × Tok) :=
  (numberP s 1 t).bind fun a => (wantP s ⟨#[40]⟩ a.2).bind fun b => (registerP s b).bind fun c => (wantP s ⟨#[41]⟩ c.2).bind fun d => .ok ((a.1, c.1), d)
def commaP (s : ByteArray) (first : Bool) (t : Tok) : Except Int Tok := if first then .ok t else wantP s ⟨#[44]⟩ t
def optRegP (s : ByteArray) (used first : Bool) (t : Tok) : Except Int (Int × Bool × Tok) :=
  if used then (commaP s first t).bind fun k => (registerP s k).bind fun r => .ok (r.1, false, r.2) else .ok (0, first, t)
def instrP (s : ByteArray) (x : Row20) (t : Tok) : Except Int (MI × Tok) :=
  if x.1 = 4 then (registerP s t).bind fun a => (wantP s ⟨#[44]⟩ a.2).bind fun b => (placeP s b).bind fun c => (wantP s ⟨#[59]⟩ c.2).bind fun d => .ok ((4, a.1, c.1.2, 0, c.1.1), d)
  else if x.1 = 5 then (placeP s t).bind fun a => (wantP s ⟨#[44]⟩ a.2).bind fun b => (registerP s b).bind fun c => (wantP s ⟨#[59]⟩ c.2).bind fun d => .ok ((5, 0, a.1.2, c.1, a.1.1), d)
  else (optRegP s x.2.2.1 true t).bind fun a => (optRegP s x.2.2.2.1 a.2.1 a.2.2).bind fun b => (optRegP s x.2.2.2.2.1 b.2.1 b.2.2).bind fun c =>
    (if x.2.2.2.2.2 = 0 then .ok (0, c.2.2) else (commaP s c.2.1 c.2.2).bind fun k => numberP s x.2.2.2.2.2 k).bind fun d =>
    (wantP s ⟨#[59]⟩ d.2).bind fun e => .ok ((x.1, a.1, b.1, c.1, d.1), e)
/-- a token lies in its text -/
def TokOk (s : ByteArray) (t : Tok) : Prop := t.end_ ≤ s.size ∧ t.text.size ≤ s.size
/-- the reader g stands before the token t of the text s -/
structure RdAt (w : World) (g : Nat) (s : ByteArray) (t : Tok) : Prop where
  blk : w.heap[g]? = some (.cells (rdc s t.at_ t.end_ t.sort t.text t.val) 71 (0, 0))
  le : TokOk s t
  size : s.size ≤ 600000
  env : Env w
  big : 8 ≤ g
theorem tokP_end {s : ByteArray} {i : Nat} {k : Tok} (hi : i ≤ s.size) (h : tokP s i = some k) : k.end_ ≤ s.size := by
  have h1 := skip_le s i hi
  unfold tokP at h
  dsimp only at h
  split at h
  · cases h; simp only; omega
  · rename_i hne
    have h2 : skipP s i + 1 ≤ s.size := by omega
    split at h
    · cases h; exact endOf_le _ _ _ h2
    · split at h
      · split at h
        · cases h; exact endOf_le _ _ _ h2
        · cases h
      · split at h
        · cases h; exact h2
        · cases h
theorem tokP_ok {s : ByteArray} {i : Nat} {k : Tok} (hi : i ≤ s.size) (h : tokP s i = some k) : TokOk s k := by
  refine ⟨tokP_end hi h, ?_⟩
  unfold tokP at h
  dsimp only at h
  split at h
  · cases h; exact Nat.zero_le _
  · split at h
    · cases h; simp only [ByteArray.size_extract]; omega
    · split at h
      · split at h
        · cases h; simp only [ByteArray.size_extract]; omega
        · cases h
      · split at h
        · cases h; simp only [ByteArray.size_extract]; omega
        · cases h
theorem RdAt.chg {w w' : World} {g : Nat} {s : ByteArray} {t k : Tok} (h : RdAt w g s t) (hc : Chg (· = g) w w') (hb : w'.heap[g]? = some (.cells (rdc s k.at_ k.end_ k.sort k.text k.val) 71 (0, 0))) (hk : TokOk s k) : RdAt w' g s k :=
  ⟨hb, hk, h.size, h.env.chg hc (fun j hj e => by have := h.big; omega), h.big⟩
end Go.Proofs.YtlaijeeeblcinaaDoor.A

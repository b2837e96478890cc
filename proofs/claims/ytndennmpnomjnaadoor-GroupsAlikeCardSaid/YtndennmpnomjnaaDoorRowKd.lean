/- What a law's row hands the code, opened by the values' own types: whole numbers, booleans, strings, slices and structs, nested as they like: each type's reader of cells (Kd) and what is known of its numbers. -/
import Derived.Test.YtndennmpnomjnaaDoorWAll
import Derived.OpenShut
import Derived.ShutString
import Derived.ChangeOld
import Derived.Below
set_option linter.all false
set_option linter.unusedVariables false
namespace Go.Proofs.YtndennmpnomjnaaDoor.RowKd
open Go.ChangeShapes Go.WideShapes Go.RowKit Go.Proofs.YtndennmpnomjnaaDoorW.PrintWords
/-- the reader d reads what the row hands of type t, and wf holds of it -/
def Opens (P : Program) (t : TypeId) {α : Type} (d : Kd α) (wf : α → Prop) : Prop :=
 ∀ (H : Type) (enc : TypeId × Value → H) (w : World) (base : Nat) (spare : Nat → Bool) (held : Bool) (fuel : Nat) (cs : List Value) (x : DataW H × List MemPlace),
  DataW.trod enc P w base spare held fuel t cs = some x → ∃ y, d.K w y cs ∧ wf y
theorem opens_int {P : Program} {t : TypeId} {k : IntKind} (ht : P.underlying t = some (.int k)) : Opens P t (Kd.int k) (fun n => (Lit.int k n).wf = true) := by
 intro H enc w base spare held fuel cs x h
 obtain ⟨n, rfl, _, hw⟩ := DataW.trod_int ht h
 exact ⟨n, rfl, hw⟩
theorem opens_string {P : Program} {t : TypeId} (ht : P.underlying t = some .string) : Opens P t Kd.string (fun s => s.size ≤ maxLen) := by
 intro H enc w base spare held fuel cs x h
 obtain ⟨s, rfl, _, hw⟩ := DataW.trod_string ht h
 exact ⟨s, rfl, hw⟩
theorem cells?_get {w : World} {base : Nat} {a : Addr} {n : Nat} {cs : List Value} (h : w.cells? base a n = some cs) : cs.length = n ∧ ∀ i u, cs[i]? = some u → w.cell? (a.add i) = some u := by
 unfold World.cells? at h
 split at h
 ·have hl := mapM_some_length h
  refine ⟨by simpa using hl, fun i u hu => ?_⟩
  have hi : i < n := by have := (List.getElem?_eq_some_iff.1 hu).1; simp at hl; omega
  have := mapM_some_get h i i (by simp [hi])
  rw [this, hu]
 ·cases h
theorem opens_slice {P : Program} {t e : TypeId} {α : Type} {d : Kd α} {wf : α → Prop} (q : Nat) (ht : P.underlying t = some (.slice e)) (hs : P.cellsOf e = d.sz) (ho : Opens P e d wf) :
  Opens P t (Kd.slice q d) (fun l => l.length ≤ maxLen ∧ ∀ x ∈ l, wf x) := by
 intro H enc w base spare held fuel cs x h
 rcases DataW.trod_slice ht h with ⟨rfl, _⟩ | ⟨a, len, cap, elems, rest, n, _, rfl, _, _, hl, hm, hlen, hel, _, _⟩
 ·exact ⟨[], ⟨none, 0, rfl, Nat.le_refl _, rfl, by simp, fun h => absurd h (Nat.lt_irrefl _)⟩, by simp, by simp⟩
 ·have each : ∀ i, i < len → ∃ y c, c.length = d.sz ∧ d.K w y c ∧ wf y ∧ ∀ j u, c[j]? = some u → w.cell? (a.add (i * d.sz + j)) = some u := by
   intro i hi
   have hb := hel i hi
   rw [List.getElem?_eq_getElem (by omega), Option.bind_eq_some_iff] at hb
   obtain ⟨c, hc, hy⟩ := hb
   obtain ⟨hcl, hcell⟩ := cells?_get hc
   obtain ⟨y, hk, hw⟩ := ho H enc w base spare held n c _ hy
   refine ⟨y, c, d.K_len hk, hk, hw, fun j u hu => ?_⟩
   have := hcell j u hu
   rw [hs] at this
   rwa [show (a.add (i * d.sz)).add j = a.add (i * d.sz + j) from add_add _ _ _] at this
  have hex : ∃ ys : List α, ys.length = len ∧ ∀ i y, ys[i]? = some y → wf y ∧ ∃ c, c.length = d.sz ∧ d.K w y c ∧ ∀ j u, c[j]? = some u → w.cell? (a.add (i * d.sz + j)) = some u := by
   refine ⟨(List.range len).attach.map (fun i => (each i.1 (by simpa using i.2)).choose), by simp, fun i y hy => ?_⟩
   have hi : i < len := by have := (List.getElem?_eq_some_iff.1 hy).1; simpa using this
   obtain ⟨c, h1, h2, h3, h4⟩ := (each i hi).choose_spec
   have : y = (each i hi).choose := by
    simp [hi] at hy
    exact hy.symm
   subst this
   exact ⟨h3, c, h1, h2, h4⟩
  obtain ⟨ys, hyl, hy⟩ := hex
  have hmax : maxLen ≤ 9223372036854775807 := by decide
  refine ⟨ys, ⟨some a, cap, by rw [hyl], by omega, hyl.symm ▸ rfl, by omega, fun _ => ⟨a, rfl, fun j p hp => ?_⟩⟩, by omega, fun y hm => ?_⟩
  ·obtain ⟨c, h1, h2, h3⟩ := (hy j p hp).2
   exact ⟨c, h1, h2, h3⟩
  ·obtain ⟨i, hi⟩ := List.getElem?_of_mem hm
   exact (hy i y hi).1
/-- the fields from a place on -/
def OpensF (P : Program) (fs : List Field) (off : Nat) {α : Type} (d : Kd α) (wf : α → Prop) : Prop :=
 ∀ (H : Type) (enc : TypeId × Value → H) (w : World) (base : Nat) (spare : Nat → Bool) (held : Bool) (n : Nat) (cs : List Value), cs.length = off + d.sz →
  (∀ f ∈ fs, ∃ y, DataW.trod enc P w base spare held n f.type ((cs.drop f.offset).take (P.cellsOf f.type)) = some y) → ∃ y, d.K w y (cs.drop off) ∧ wf y
theorem opens_last {P : Program} {f : Field} {off : Nat} {α : Type} {d : Kd α} {wf : α → Prop} (ho : f.offset = off) (hs : P.cellsOf f.type = d.sz) (h : Opens P f.type d wf) : OpensF P [f] off d wf := by
 intro H enc w base spare held n cs hl hf
 obtain ⟨y, hy⟩ := hf f (by simp)
 rw [ho, hs, List.take_of_length_le (by simp; omega)] at hy
 exact h H enc w base spare held n _ y hy
theorem opens_field {P : Program} {f : Field} {fs : List Field} {off : Nat} {α β : Type} {a : Kd α} {b : Kd β} {wa : α → Prop} {wb : β → Prop} (ho : f.offset = off) (hs : P.cellsOf f.type = a.sz) (h : Opens P f.type a wa)
  (h2 : OpensF P fs (off + a.sz) b wb) : OpensF P (f :: fs) off (Kd.pair a b) (fun x => wa x.1 ∧ wb x.2) := by
 intro H enc w base spare held n cs hl hf
 obtain ⟨y, hy⟩ := hf f (by simp)
 rw [ho, hs] at hy
 obtain ⟨y0, hk0, hw0⟩ := h H enc w base spare held n _ y hy
 have hl' : cs.length = off + a.sz + b.sz := by rw [hl]; simp only [Kd.pair]; omega
 obtain ⟨y1, hk1, hw1⟩ := h2 H enc w base spare held n cs hl' (fun g hg => hf g (by simp [hg]))
 refine ⟨(y0, y1), ⟨_, _, ?_, hk0, hk1⟩, hw0, hw1⟩
 rw [← List.drop_drop, List.take_append_drop]
theorem opens_struct {P : Program} {t : TypeId} {fs : Array Field} {α : Type} {d : Kd α} {wf : α → Prop} (ht : P.underlying t = some (.struct fs)) (hs : P.cellsOf t = d.sz) (h : OpensF P fs.toList 0 d wf) : Opens P t d wf := by
 intro H enc w base spare held fuel cs x hx
 obtain ⟨xs, n, _, _, hl, hlen, hf⟩ := DataW.trod_struct ht hx
 have := h H enc w base spare held n cs (by rw [hl, hs]; omega) (fun f hm => by
  obtain ⟨i, hi⟩ := List.getElem?_of_mem hm
  have hi' : fs[i]? = some f := by simpa using hi
  have hlt : i < fs.size := by
   by_cases hq : i < fs.size
   ·exact hq
   ·rw [Array.getElem?_eq_none (by omega)] at hi'; cases hi'
  exact ⟨xs[i]'(by omega), by rw [hf i f hi', List.getElem?_eq_getElem]⟩)
 simpa using this
theorem opens_iso {P : Program} {t : TypeId} {α β : Type} {d : Kd α} {wf : α → Prop} (f : β → α) (g : α → β) (hfg : ∀ y, f (g y) = y) (h : Opens P t d wf) : Opens P t (Kd.iso d f) (fun x => wf (f x)) := by
 intro H enc w base spare held fuel cs x hx
 obtain ⟨y, hk, hw⟩ := h H enc w base spare held fuel cs x hx
 exact ⟨g y, by simpa [Kd.iso, hfg] using hk, by show wf (f (g y)); rw [hfg]; exact hw⟩
/-- a slice handed -/
theorem open_slice {P : Program} {t : TypeId} {α : Type} {d : Kd α} {wf : List α → Prop} {q : Nat} (h : Opens P t (Kd.slice q d) wf) {H : Type} {enc : TypeId × Value → H} {w : World} {base : Nat} {spare : Nat → Bool} {held : Bool} {a : Option Addr} {len cap : Nat} {x : DataW H} {ps : List MemPlace}
  (hx : DataW.Trod enc P w base spare held t (.slice a len cap) x ps) : ∃ l, len = l.length ∧ l.length ≤ cap ∧ Kd.C d w a l.length l ∧ wf l := by
 obtain ⟨fuel, hf⟩ := hx
 obtain ⟨y, hk, hw⟩ := h H enc w base spare held fuel _ _ hf
 obtain ⟨A, c, hc, hl, hr⟩ := hk
 simp [Value.cells] at hc
 obtain ⟨rfl, rfl, rfl⟩ := hc
 exact ⟨y, rfl, hl, hr, hw⟩
end Go.Proofs.YtndennmpnomjnaaDoor.RowKd

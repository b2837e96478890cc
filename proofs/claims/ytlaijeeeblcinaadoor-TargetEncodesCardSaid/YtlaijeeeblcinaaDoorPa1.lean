/- target.Parse: what the walk carries. -/
import Derived.Test.YtlaijeeeblcinaaDoorPa0
set_option linter.all false
set_option linter.unusedVariables false
set_option linter.unusedSimpArgs false
set_option maxRecDepth 100000
namespace Go.Proofs.YtlaijeeeblcinaaDoor.A
open Go.RowKit Go.Proofs.YtlaijeeeblcinaaDoorW.PrintWords Go.Proofs.YtlaijeeeblcinaaDoorW.PrintLast Go.Proofs.YtlaijeeeblcinaaDoorW.PrintMore
set_option maxHeartbeats 8000000
abbrev RU (w : World) (B : Nat) (v : Value) (c : List Int) : Prop := Kd.R (Kd.int .u64) 48 w B (fun _ => True) v c
abbrev RI (w : World) (B : Nat) (v : Value) (c : List Int) : Prop := Kd.R (Kd.int .i64) 2 w B (fun _ => True) v c
/-- the call's variables, its reader, its two rows -/
structure PS (w0 w : World) (s : ByteArray) (t : Tok) (v0 v1 : Value) (en : Int) (c d : List Int) : Prop where
  vars : Vars w0 w v0 v1 en
  rd : RdAt w (w0.heap.size + 3) s t
  below : Below w0.heap.size w0 w
  own0 : RU w w0.heap.size v0 c
  own1 : RI w w0.heap.size v1 d
  big : 8 ≤ w0.heap.size
  env0 : Env w0
section
variable {w0 w w' : World} {s : ByteArray} {t k : Tok} {v0 v1 : Value} {en : Int} {c d : List Int}
theorem Below.chg' {B g : Nat} (h : Below B w0 w) (hc : Chg (· = g) w w') (hg : B ≤ g) (hB : B ≤ w.heap.size) : Below B w0 w' :=
  h.trans (hc.below (B := B) hB (fun k hk e => by omega))
theorem PS.size (h : PS w0 w s t v0 v1 en c d) : w0.heap.size + 3 < w.heap.size := blk_lt h.rd.blk
theorem R_chg {e g : Nat} {k0 : IntKind} {B : Nat} {v : Value} {xs : List Int} {cells : Array Value} (h : Kd.R (Kd.int k0) e w B (fun _ => True) v xs) (hb : w.heap[g]? = some (.cells cells 71 (0, 0))) (he : e ≠ 71) (hc : Chg (· = g) w w') : Kd.R (Kd.int k0) e w' B (fun _ => True) v xs :=
  Kd.R_mono (Kd.R_step (Kd.R_types h hb (by intro q hq; simp only [List.mem_cons] at hq; rcases hq with rfl | hq; (· exact he); (· exact absurd hq (by simp [Kd.int, Kd.scalar])))) (fun k ho hlt => hc.block k hlt (fun e => ho.2 e))) (fun _ hk => hk.1)
theorem PS.chg (h : PS w0 w s t v0 v1 en c d) (hr : RdAt w' (w0.heap.size + 3) s k) (hc : Chg (· = w0.heap.size + 3) w w') : PS w0 w' s k v0 v1 en c d :=
  ⟨⟨hc.blk h.vars.b2 (by omega), hc.blk h.vars.b3 (by omega), hc.blk h.vars.b4 (by omega)⟩, hr, Below.chg' h.below hc (by omega) (by have := h.size; omega), R_chg h.own0 h.rd.blk (by decide) hc, R_chg h.own1 h.rd.blk (by decide) hc, h.big, h.env0⟩
theorem PS.alloc (h : PS w0 w s t v0 v1 en c d) (o : Obj) : PS w0 (w.alloc o) s t v0 v1 en c d :=
  ⟨⟨blk_alloc h.vars.b2 o, blk_alloc h.vars.b3 o, blk_alloc h.vars.b4 o⟩, h.rd.alloc o, below_alloc h.below o, Kd.R_alloc h.own0 o, Kd.R_alloc h.own1 o, h.big, h.env0⟩
theorem PS.drew (h : PS w0 w s t v0 v1 en c d) : PS w0 w.drew s t v0 v1 en c d :=
  ⟨⟨h.vars.b2, h.vars.b3, h.vars.b4⟩, h.rd.drew, below_drew1 h.below, Kd.R_drew h.own0, Kd.R_drew h.own1, h.big, h.env0⟩
theorem PS.bel (h : PS w0 w s t v0 v1 en c d) (hb : Below w.heap.size w w') : PS w0 w' s t v0 v1 en c d :=
  ⟨⟨blk_below h.vars.b2 hb, blk_below h.vars.b3 hb, blk_below h.vars.b4 hb⟩, h.rd.chg (Chg.of_below hb) (blk_below h.rd.blk hb) h.rd.le, below_step h.below hb, Kd.R_below h.own0 hb, Kd.R_below h.own1 hb, h.big, h.env0⟩
theorem PS.setEn (h : PS w0 w s t v0 v1 en c d) (v : Int) : PS w0 (w.setCell ⟨w0.heap.size, 2, none⟩ (.int .i64 v)) s t v0 v1 v c d :=
  ⟨⟨(blk_set h.vars.b2 2 _).trans rfl, blk_far h.vars.b3 (p := ⟨w0.heap.size, 2, none⟩) (by show w0.heap.size + 1 ≠ w0.heap.size; omega) _, blk_far h.vars.b4 (p := ⟨w0.heap.size, 2, none⟩) (by show w0.heap.size + 2 ≠ w0.heap.size; omega) _⟩, h.rd.set (by omega) h.big 2 _, below_set h.below (Nat.le_refl _), Kd.R_set h.own0 h.vars.b2 (by decide) 2 _, Kd.R_set h.own1 h.vars.b2 (by decide) 2 _, h.big, h.env0⟩
theorem Vars.of {W : World} (h : Vars w0 w v0 v1 en) {P : Nat → Prop} (hk : ∀ k, k < w.heap.size → ¬ P k → W.heap[k]? = w.heap[k]?) (hP : ∀ g t cells, w.heap[g]? = some (.cells cells t (0, 0)) → t ≠ 48 → t ≠ 2 → ¬ P g) : Vars w0 W v0 v1 en :=
  ⟨(hk _ (blk_lt h.b2) (hP _ _ _ h.b2 (by decide) (by decide))).trans h.b2, (hk _ (blk_lt h.b3) (hP _ _ _ h.b3 (by decide) (by decide))).trans h.b3, (hk _ (blk_lt h.b4) (hP _ _ _ h.b4 (by decide) (by decide))).trans h.b4⟩
theorem RdAt.of {W : World} {g : Nat} (h : RdAt w g s t) {P : Nat → Prop} (hk : ∀ k, k < w.heap.size → ¬ P k → W.heap[k]? = w.heap[k]?) (hP : ∀ g t cells, w.heap[g]? = some (.cells cells t (0, 0)) → t ≠ 48 → t ≠ 2 → ¬ P g) (hE : Env W) : RdAt W g s t :=
  ⟨(hk _ (blk_lt h.blk) (hP _ _ _ h.blk (by decide) (by decide))).trans h.blk, h.le, h.size, hE, h.big⟩
theorem own_typed' {e : Nat} {k0 : IntKind} {B : Nat} {v : Value} {xs : List Int} (h : Kd.R (Kd.int k0) e w B (fun _ => True) v xs) {g t : Nat} {cells : Array Value} (hb : w.heap[g]? = some (.cells cells t (0, 0))) (ht : t ≠ e) : ¬ v.ownBlock = some g := fun e_ => Kd.R_ne h hb (Ne.symm ht) e_.symm
/-- the data's row has grown, and is stored -/
theorem PS.data {W : World} {x : Value} {d' : List Int} (h : PS w0 w s t (.slice none 0 0) v1 en [] d) (hR : RI W w0.heap.size x d') (hb : Below w0.heap.size w0 W) (hg : w.grownBy W v1.ownBlock) : PS w0 (W.setCell ⟨w0.heap.size, 1, none⟩ x) s t (.slice none 0 0) x en [] d' := by
  have hk : ∀ k, k < w.heap.size → ¬ v1.ownBlock = some k → W.heap[k]? = w.heap[k]? := fun k hk hn => hg.block k hk (fun e => hn e.symm)
  have hP : ∀ g t cells, w.heap[g]? = some (.cells cells t (0, 0)) → t ≠ 48 → t ≠ 2 → ¬ v1.ownBlock = some g := fun g t cells hb _ h2 => own_typed' h.own1 hb h2
  have hE : Env W := h.env0.below hb h.big
  have hv := h.vars.of hk hP
  have hr := h.rd.of hk hP hE
  exact ⟨⟨(blk_set hv.b2 1 _).trans rfl, blk_far hv.b3 (p := ⟨w0.heap.size, 1, none⟩) (by show w0.heap.size + 1 ≠ w0.heap.size; omega) _, blk_far hv.b4 (p := ⟨w0.heap.size, 1, none⟩) (by show w0.heap.size + 2 ≠ w0.heap.size; omega) _⟩, hr.set (by omega) h.big 1 _, below_set hb (Nat.le_refl _), Kd.R_nil _ _ _ _ _, Kd.R_set hR hv.b2 (by decide) 1 _, h.big, h.env0⟩
/-- the code's row has grown, and is stored -/
theorem PS.code {W : World} {x : Value} {c' : List Int} (h : PS w0 w s t v0 v1 en c d) (hR : RU W w0.heap.size x c') (hb : Below w0.heap.size w0 W) (hk : Kept w W (fun k => some k = v0.ownBlock)) : PS w0 (W.setCell ⟨w0.heap.size, 0, none⟩ x) s t x v1 en c' d := by
  have hk' : ∀ k, k < w.heap.size → ¬ some k = v0.ownBlock → W.heap[k]? = w.heap[k]? := fun k hk2 hn => hk.2 k hk2 hn
  have hP : ∀ g t cells, w.heap[g]? = some (.cells cells t (0, 0)) → t ≠ 48 → t ≠ 2 → ¬ some g = v0.ownBlock := fun g t cells hb h1 _ e => own_typed' h.own0 hb h1 e.symm
  have hE : Env W := h.env0.below hb h.big
  have hv := h.vars.of hk' hP
  have hr := h.rd.of hk' hP hE
  have h1 : RI W w0.heap.size v1 d := Kd.R_mono (Kd.R_step (Kd.R_tight rfl h.own1) (fun k ho hlt => hk.2 k hlt (fun e => by
    obtain ⟨cells, hc⟩ := Kd.R_typed h.own1 k ho.symm
    exact own_typed' h.own0 hc (by decide) e.symm))) (fun _ _ => trivial)
  exact ⟨⟨(blk_set hv.b2 0 _).trans rfl, blk_far hv.b3 (p := ⟨w0.heap.size, 0, none⟩) (by show w0.heap.size + 1 ≠ w0.heap.size; omega) _, blk_far hv.b4 (p := ⟨w0.heap.size, 0, none⟩) (by show w0.heap.size + 2 ≠ w0.heap.size; omega) _⟩, hr.set (by omega) h.big 0 _, below_set hb (Nat.le_refl _), Kd.R_set hR hv.b2 (by decide) 0 _, Kd.R_set h1 hv.b2 (by decide) 0 _, h.big, h.env0⟩
end
end Go.Proofs.YtlaijeeeblcinaaDoor.A

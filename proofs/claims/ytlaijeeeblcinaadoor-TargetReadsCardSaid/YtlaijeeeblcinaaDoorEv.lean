/- target's functions as the printed texts call them: under the laid variables, which each caller hands on by itself. -/
import Derived.Test.YtlaijeeeblcinaaDoorPa
import Derived.Test.YtlaijeeeblcinaaDoorTgtDecode
set_option linter.all false
set_option linter.unusedVariables false
set_option maxRecDepth 100000
namespace Go.Proofs.YtlaijeeeblcinaaDoor.A
open Go.RowKit Go.Proofs.YtlaijeeeblcinaaDoorW.PrintWords Go.Proofs.YtlaijeeeblcinaaDoorW.PrintLast Go.Proofs.YtlaijeeeblcinaaDoorW.PrintMore
def et_Valid.f (a0 a1 a2 a3 a4 : Int) : Option Bool := target_Valid.f a0 a1 a2 a3 a4
theorem et_Valid.calls (a0 a1 a2 a3 a4 : Int) (r : Bool) (w : World) (h : et_Valid.f a0 a1 a2 a3 a4 = some r) (hE_ : Env w := by exact Env.below HEnv_.out (by repeat (first | (with_reducible first | exact HB.out | apply below_alloc | apply pw_below_drewN | apply below_drew1 | refine below_set ?_ (Aside0.out (by assumption))) | exact HB.out)) HEnv_.out.big) :
  Calls Tryd.prog 10 #[.agg #[.int .i64 a0, .int .i64 a1, .int .i64 a2, .int .i64 a3, .int .i64 a4]] w fun e w' => e = .returned (.bool r) ∧ Below w.heap.size w w' := target_Valid.calls a0 a1 a2 a3 a4 r w hE_.tab h
def et_Decode.f (k : Nat) (l0 : List Int) (a1 : Int) : Option (Int × Int × Int × Int × Int × Int × Int) := target_Decode.f k l0 a1
theorem et_Decode.mono : ∀ a0 a1 k, LeO (et_Decode.f k a0 a1) (et_Decode.f (k + 1) a0 a1) := target_Decode.mono
theorem et_Decode.calls (k : Nat) (A0 : Option Addr) (c0 : Nat) (l0 : List Int) (a1 : Int) (r1 : Int) (r2 : Int) (r3 : Int) (r4 : Int) (r5 : Int) (r6 : Int) (r7 : Int) (w : World) (hr0 : Kd.C (Kd.int .u64) w A0 l0.length l0) (hc0 : l0.length ≤ c0) (h : et_Decode.f k l0 a1 = some (r1, r2, r3, r4, r5, r6, r7)) (hE_ : Env w := by exact Env.below HEnv_.out (by repeat (first | (with_reducible first | exact HB.out | apply below_alloc | apply pw_below_drewN | apply below_drew1 | refine below_set ?_ (Aside0.out (by assumption))) | exact HB.out)) HEnv_.out.big) :
  Calls Tryd.prog 15 #[.slice A0 l0.length c0, .int .i64 a1] w fun e w' => e = .returned (.tuple #[.agg #[.int .i64 r1, .int .i64 r2, .int .i64 r3, .int .i64 r4, .int .i64 r5], .int .i64 r6, .int .i64 r7]) ∧ Below w.heap.size w w' := target_Decode.calls k A0 c0 l0 a1 r1 r2 r3 r4 r5 r6 r7 w hE_.tab hr0 hc0 h
def et_Check.f (k : Nat) (l0 l1 : List Int) (a : Int) : Option Int := target_Check.f k l0 l1 a
theorem itemsF_mono : ∀ k l i, LeO (itemsF k l i) (itemsF (k + 1) l i) := by
 intro k
 induction k with
 | zero => intro l i r h; simp [itemsF] at h
 | succ k ih =>
  intro l i
  unfold itemsF
  split
  ·refine LeO.bind (target_Decode.mono _ _ _) (fun a => ?_)
   refine LeO.ite ?_ (fun r h => h)
   exact LeO.bind (ih _ _) (fun a r h => h)
  ·exact fun r h => h
theorem et_Check.mono : ∀ a0 a1 a2 k, LeO (et_Check.f k a0 a1 a2) (et_Check.f (k + 1) a0 a1 a2) := by
 intro a0 a1 a2 k
 unfold et_Check.f target_Check.f target_Check.l
 split
 ·exact fun r h => h
 ·split
  ·exact fun r h => h
  ·split
   ·exact fun r h => h
   ·split
    ·exact fun r h => h
    ·exact LeO.bind (itemsF_mono _ _ _) (fun a r h => h)
def et_Parse.f (k : Nat) (a0 : ByteArray) : Option (List Int × List Int × Int × Int × Int) := parseP k a0
theorem dataF_mono (s : ByteArray) : ∀ k l t, LeO (dataF s k l t) (dataF s (k + 1) l t) := by
 intro k
 induction k with
 | zero => intro l t r h; simp [dataF] at h
 | succ k ih =>
  intro l t r h
  rw [dataF] at h ⊢
  split at h
  ·rename_i c
   rw [if_pos c]
   split at h
   ·exact h
   ·split at h
    ·exact h
    ·split at h
     ·rename_i c2
      rw [if_pos c2]
      split at h
      ·exact h
      ·exact ih _ _ _ h
     ·cases h
  ·rename_i c
   rw [if_neg c]; exact h
theorem codeF_mono (s : ByteArray) : ∀ k l t, LeO (codeF s k l t) (codeF s (k + 1) l t) := by
 intro k
 induction k with
 | zero => intro l t r h; simp [codeF] at h
 | succ k ih =>
  intro l t r h
  rw [codeF] at h ⊢
  split at h
  ·rename_i c; rw [if_pos c]; exact h
  ·rename_i c
   rw [if_neg c]
   split at h
   ·rename_i c2; rw [if_pos c2]; exact h
   ·rename_i c2
    rw [if_neg c2]
    split at h
    ·exact h
    ·split at h
     ·exact h
     ·obtain ⟨a, h1, h2⟩ := Option.bind_eq_some_iff.1 h
      exact Option.bind_eq_some_iff.2 ⟨a, h1, ih _ _ _ h2⟩
theorem et_Parse.mono : ∀ a0 k, LeO (et_Parse.f k a0) (et_Parse.f (k + 1) a0) := by
 intro s k
 unfold et_Parse.f
 by_cases hs : s.size ≤ 600000
 ·rw [parseP_eq k s hs, parseP_eq (k + 1) s hs]
  cases headP s with
  | error p => exact fun r h => h
  | ok h =>
   refine LeO.bind (dataF_mono s _ _ _) (fun a => ?_)
   cases a with
   | error p => exact fun r h => h
   | ok d =>
    refine LeO.bind (codeF_mono s _ _ _) (fun a => ?_)
    cases a with
    | error p => exact fun r h => h
    | ok c => exact LeO.bind (et_Check.mono _ _ _ _) (fun a r h => h)
 ·unfold parseP; rw [if_pos (by omega), if_pos (by omega)]; exact fun r h => h
theorem et_Parse.calls (k : Nat) (a0 : ByteArray) (r1 : List Int) (r2 : List Int) (r3 : Int) (r4 : Int) (r5 : Int) (w : World) (h : et_Parse.f k a0 = some (r1, r2, r3, r4, r5)) (hE_ : Env w := by exact Env.below HEnv_.out (by repeat (first | (with_reducible first | exact HB.out | apply below_alloc | apply pw_below_drewN | apply below_drew1 | refine below_set ?_ (Aside0.out (by assumption))) | exact HB.out)) HEnv_.out.big) :
  Calls Tryd.prog 19 #[.string a0] w fun e w' => ∃ v0_ v1_ : Value, e = .returned (.tuple #[.agg #[v0_, v1_, .int .i64 r3], .int .i64 r4, .int .i64 r5]) ∧ Kd.R (Kd.int .u64) 48 w' w.heap.size (fun _ => True) v0_ r1 ∧ Kd.R (Kd.int .i64) 2 w' w.heap.size (fun _ => True) v1_ r2 ∧ Below w.heap.size w w' := parse_calls k a0 _ w hE_ h
end Go.Proofs.YtlaijeeeblcinaaDoor.A

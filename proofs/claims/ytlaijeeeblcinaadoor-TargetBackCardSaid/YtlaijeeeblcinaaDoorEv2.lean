/- target's functions as the printed texts call them: under the laid variables, which each caller hands on by itself. -/
import Derived.Test.YtlaijeeeblcinaaDoorPa
import Derived.Test.YtlaijeeeblcinaaDoorTgtDecode
import Derived.Lib.ItoaLen
set_option linter.all false
set_option linter.unusedVariables false
set_option maxRecDepth 100000
namespace Go.Proofs.YtlaijeeeblcinaaDoor.A
open Go.RowKit Go.Proofs.YtlaijeeeblcinaaDoorW.PrintWords Go.Proofs.YtlaijeeeblcinaaDoorW.PrintLast Go.Proofs.YtlaijeeeblcinaaDoorW.PrintMore
def et_Valid.f (a0 a1 a2 a3 a4 : Int) : Option Bool := target_Valid.f a0 a1 a2 a3 a4
theorem et_Valid.calls (a0 a1 a2 a3 a4 : Int) (r : Bool) (w : World) (h : et_Valid.f a0 a1 a2 a3 a4 = some r) (hE_ : Env w := by exact Env.below HEnv_.out (by repeat (first | (with_reducible first | exact HB.out | apply below_alloc | apply pw_below_drewN | apply below_drew1 | refine below_set ?_ (Aside0.out (by assumption))) | exact HB.out)) HEnv_.out.big) :
  Calls Tryd.prog 10 #[.agg #[.int .i64 a0, .int .i64 a1, .int .i64 a2, .int .i64 a3, .int .i64 a4]] w fun e w' => e = .returned (.bool r) ∧ Below w.heap.size w w' := target_Valid.calls a0 a1 a2 a3 a4 r w hE_.tab h
def et_Decode.f (k : Nat) (l0 : List Int) (a1 : Int) : Option (Int × Int × Int × Int × Int × Int × Int) := target_Decode.f k l0 a1
theorem et_Decode.mono : ∀ a0 a1 k, LeO (et_Decode.f k a0 a1) (et_Decode.f (k + 1) a0 a1) := target_Decode.mono
theorem et_Decode.calls (k : Nat) (A0 : Option Addr) (c0 : Nat) (l0 : List Int) (a1 : Int) (r1 : Int) (r2 : Int) (r3 : Int) (r4 : Int) (r5 : Int) (r6 : Int) (r7 : Int) (w : World) (hr0 : Kd.C (Kd.int .u64) w A0 l0.length l0) (hc0 : l0.length ≤ c0) (h : et_Decode.f k l0 a1 = some (r1, r2, r3, r4, r5, r6, r7)) (hE_ : Env w := by exact Env.below HEnv_.out (by repeat (first | (with_reducible first | exact HB.out | apply below_alloc | apply pw_below_drewN | apply below_drew1 | refine below_set ?_ (Aside0.out (by assumption))) | exact HB.out)) HEnv_.out.big) :
  Calls Tryd.prog 15 #[.slice A0 l0.length c0, .int .i64 a1] w fun e w' => e = .returned (.tuple #[.agg #[.int .i64 r1, .int .i64 r2, .int .i64 r3, .int .i64 r4, .int .i64 r5], .int .i64 r6, .int .i64 r7]) ∧ Below w.heap.size w w' := target_Decode.calls k A0 c0 l0 a1 r1 r2 r3 r4 r5 r6 r7 w hE_.tab hr0 hc0 h
def et_Check.f (k : Nat) (l0 l1 : List Int) (a : Int) : Option Int := target_Check.f k l0 l1 a
theorem itemsF_mono : ∀ k l i, LeO (itemsF k l i) (itemsF (k + 1) l i) := by
 intro k
 induction k with
 | zero => intro l i r h; simp [itemsF] at h
 | succ k ih =>
  intro l i
  unfold itemsF
  split
  ·refine LeO.bind (target_Decode.mono _ _ _) (fun a => ?_)
   refine LeO.ite ?_ (fun r h => h)
   exact LeO.bind (ih _ _) (fun a r h => h)
  ·exact fun r h => h
theorem et_Check.mono : ∀ a0 a1 a2 k, LeO (et_Check.f k a0 a1 a2) (et_Check.f (k + 1) a0 a1 a2) := by
 intro a0 a1 a2 k
 unfold et_Check.f target_Check.f target_Check.l
 split
 ·exact fun r h => h
 ·split
  ·exact fun r h => h
  ·split
   ·exact fun r h => h
   ·split
    ·exact fun r h => h
    ·exact LeO.bind (itemsF_mono _ _ _) (fun a r h => h)
theorem et_Check.calls (k : Nat) (A0_0 : Option Addr) (c0_0 : Nat) (l0_0 : List Int) (A0_1 : Option Addr) (c0_1 : Nat) (l0_1 : List Int) (a0_2 : Int) (r : Int) (w : World) (hr0_0 : Kd.C (Kd.int .u64) w A0_0 l0_0.length l0_0) (hc0_0 : l0_0.length ≤ c0_0) (hr0_1 : Kd.C (Kd.int .i64) w A0_1 l0_1.length l0_1) (hc0_1 : l0_1.length ≤ c0_1) (h : et_Check.f k l0_0 l0_1 a0_2 = some r) (hE_ : Env w := by exact Env.below HEnv_.out (by repeat (first | (with_reducible first | exact HB.out | apply below_alloc | apply pw_below_drewN | apply below_drew1 | refine below_set ?_ (Aside0.out (by assumption))) | exact HB.out)) HEnv_.out.big) :
  Calls Tryd.prog 17 #[.agg #[.slice A0_0 l0_0.length c0_0, .slice A0_1 l0_1.length c0_1, .int .i64 a0_2]] w fun e w' => e = .returned (.int .i64 r) ∧ Below w.heap.size w w' := target_Check.calls k A0_0 c0_0 l0_0 A0_1 c0_1 l0_1 a0_2 r w hE_.tab hr0_0 hc0_0 hr0_1.2.1 h
def et_Parse.f (k : Nat) (a0 : ByteArray) : Option (List Int × List Int × Int × Int × Int) := parseP k a0
theorem dataF_mono (s : ByteArray) : ∀ k l t, LeO (dataF s k l t) (dataF s (k + 1) l t) := by
 intro k
 induction k with
 | zero => intro l t r h; simp [dataF] at h
 | succ k ih =>
  intro l t r h
  rw [dataF] at h ⊢
  split at h
  ·rename_i c
   rw [if_pos c]
   split at h
   ·exact h
   ·split at h
    ·exact h
    ·split at h
     ·rename_i c2
      rw [if_pos c2]
      split at h
      ·exact h
      ·exact ih _ _ _ h
     ·cases h
  ·rename_i c
   rw [if_neg c]; exact h
theorem codeF_mono (s : ByteArray) : ∀ k l t, LeO (codeF s k l t) (codeF s (k + 1) l t) := by
 intro k
 induction k with
 | zero => intro l t r h; simp [codeF] at h
 | succ k ih =>
  intro l t r h
  rw [codeF] at h ⊢
  split at h
  ·rename_i c; rw [if_pos c]; exact h
  ·rename_i c
   rw [if_neg c]
   split at h
   ·rename_i c2; rw [if_pos c2]; exact h
   ·rename_i c2
    rw [if_neg c2]
    split at h
    ·exact h
    ·split at h
     ·exact h
     ·obtain ⟨a, h1, h2⟩ := Option.bind_eq_some_iff.1 h
      exact Option.bind_eq_some_iff.2 ⟨a, h1, ih _ _ _ h2⟩
theorem et_Parse.mono : ∀ a0 k, LeO (et_Parse.f k a0) (et_Parse.f (k + 1) a0) := by
 intro s k
 unfold et_Parse.f
 by_cases hs : s.size ≤ 600000
 ·rw [parseP_eq k s hs, parseP_eq (k + 1) s hs]
  cases headP s with
  | error p => exact fun r h => h
  | ok h =>
   refine LeO.bind (dataF_mono s _ _ _) (fun a => ?_)
   cases a with
   | error p => exact fun r h => h
   | ok d =>
    refine LeO.bind (codeF_mono s _ _ _) (fun a => ?_)
    cases a with
    | error p => exact fun r h => h
    | ok c => exact LeO.bind (et_Check.mono _ _ _ _) (fun a r h => h)
 ·unfold parseP; rw [if_pos (by omega), if_pos (by omega)]; exact fun r h => h
theorem et_Parse.calls (k : Nat) (a0 : ByteArray) (r1 : List Int) (r2 : List Int) (r3 : Int) (r4 : Int) (r5 : Int) (w : World) (h : et_Parse.f k a0 = some (r1, r2, r3, r4, r5)) (hE_ : Env w := by exact Env.below HEnv_.out (by repeat (first | (with_reducible first | exact HB.out | apply below_alloc | apply pw_below_drewN | apply below_drew1 | refine below_set ?_ (Aside0.out (by assumption))) | exact HB.out)) HEnv_.out.big) :
  Calls Tryd.prog 19 #[.string a0] w fun e w' => ∃ v0_ v1_ : Value, e = .returned (.tuple #[.agg #[v0_, v1_, .int .i64 r3], .int .i64 r4, .int .i64 r5]) ∧ Kd.R (Kd.int .u64) 48 w' w.heap.size (fun _ => True) v0_ r1 ∧ Kd.R (Kd.int .i64) 2 w' w.heap.size (fun _ => True) v1_ r2 ∧ Below w.heap.size w w' := parse_calls k a0 _ w hE_ h
end Go.Proofs.YtlaijeeeblcinaaDoor.A
set_option linter.all false
set_option linter.unusedVariables false
set_option maxRecDepth 100000
namespace Go.Proofs.YtlaijeeeblcinaaDoor.A
open Go.RowKit Go.Proofs.YtlaijeeeblcinaaDoorW.PrintWords Go.Proofs.YtlaijeeeblcinaaDoorW.PrintLast Go.Proofs.YtlaijeeeblcinaaDoorW.PrintMore
def et_find.f (a0 : Int) : Option (Int × ByteArray × Bool × Bool × Bool × Int × Bool) := cupelref20_find.f a0
theorem et_find.calls (a0 : Int) (r0 : Int) (r1 : ByteArray) (r2 r3 r4 : Bool) (r5 : Int) (r6 : Bool) (w : World) (h : et_find.f a0 = some (r0, r1, r2, r3, r4, r5, r6)) (hE_ : Env w := by exact Env.below HEnv_.out (by repeat (first | (with_reducible first | exact HB.out | apply below_alloc | apply pw_below_drewN | apply below_drew1 | refine below_set ?_ (Aside0.out (by assumption))) | exact HB.out)) HEnv_.out.big) :
  Calls Tryd.prog 24 #[.int .i64 a0] w fun e w' => e = .returned (.tuple #[.agg #[.int .i64 r0, .string r1, .bool r2, .bool r3, .bool r4, .int .i64 r5], .bool r6]) ∧ Below w.heap.size w w' := target_find.calls a0 r0 r1 r2 r3 r4 r5 r6 w hE_.tab h
def numB (n : Int) : ByteArray := ⟨(Lib.itoa n).toArray⟩
def et_Itoa.f (a0 : Int) : Option ByteArray := if -9223372036854775808 ≤ a0 ∧ a0 ≤ 9223372036854775807 then some (numB a0) else none
theorem et_Itoa.calls (a0 : Int) (r : ByteArray) (w : World) (h : et_Itoa.f a0 = some r) (hE_ : Env w := by exact Env.below HEnv_.out (by repeat (first | (with_reducible first | exact HB.out | apply below_alloc | apply pw_below_drewN | apply below_drew1 | refine below_set ?_ (Aside0.out (by assumption))) | exact HB.out)) HEnv_.out.big) :
  Calls Tryd.prog 49 #[.int .i64 a0] w fun e w' => e = .returned (.string r) ∧ Below w.heap.size w w' := by
 unfold et_Itoa.f at h
 split at h
 ·rename_i c
  cases h
  refine (Tryd.strconv_Itoa a0 c.1 c.2 w hE_.pow).mono ?_
  rintro e w' ⟨rfl, k, os, rfl⟩
  exact ⟨rfl, Lib.below_grow _ _ (Nat.le_refl _) _ _⟩
 ·cases h
def regB (n : Int) : ByteArray := ⟨#[114]⟩ ++ numB n
def et_reg.f (a0 : Int) : Option ByteArray := if -9223372036854775808 ≤ a0 ∧ a0 ≤ 9223372036854775807 then some (regB a0) else none
theorem numB_size (n : Int) (h0 : -9223372036854775808 ≤ n) (h1 : n ≤ 9223372036854775807) : (numB n).size ≤ 21 := by
 have := Lib.itoa_length_le n h0 h1
 show (Lib.itoa n).toArray.size ≤ 21
 simpa using this
theorem et_reg.calls (a0 : Int) (r : ByteArray) (w : World) (h : et_reg.f a0 = some r) (hE_ : Env w := by exact Env.below HEnv_.out (by repeat (first | (with_reducible first | exact HB.out | apply below_alloc | apply pw_below_drewN | apply below_drew1 | refine below_set ?_ (Aside0.out (by assumption))) | exact HB.out)) HEnv_.out.big) :
  Calls Tryd.prog 73 #[.int .i64 a0] w fun e w' => e = .returned (.string r) ∧ Below w.heap.size w w' := by
 have HEnv_ := Aside0.mk hE_
 have HB := Aside0.mk (Below.refl w.heap.size w)
 clear hE_
 unfold et_reg.f at h
 split at h
 ·rename_i c
  have hn : et_Itoa.f a0 = some (numB a0) := by unfold et_Itoa.f; rw [if_pos c]
  obtain rfl := Option.some.inj h
  have hs := numB_size a0 c.1 c.2
  have hs2 : decide (9223372036854775807 < 1 + (numB a0).size) = false := decide_eq_false (by omega)
  have hs3 : (9223372036854775807 < 1 + (numB a0).size) = False := eq_false (by omega)
  unfold regB
  go_enter Tryd.func73, Tryd.ntmps73
  go_wp2_with (go_at_call 49; (with_reducible refine (et_Itoa.calls a0 (numB a0) _ hn).mono ?_); rintro e w2 ⟨rfl, hb⟩; have HB2 := Aside0.mk (Below.trans HB.out hb))
  go_ret
  exact ⟨by first | rfl | simp [*], by repeat (first | (with_reducible first | exact HB2.out | exact hb | apply below_alloc | apply pw_below_drewN | apply below_drew1))⟩
 ·cases h
def et_FormatInt.f (a0 a1 : Int) : Option ByteArray := if a1 = 10 then et_Itoa.f a0 else none
theorem et_FormatInt.calls (a0 a1 : Int) (r : ByteArray) (w : World) (h : et_FormatInt.f a0 a1 = some r) (hE_ : Env w := by exact Env.below HEnv_.out (by repeat (first | (with_reducible first | exact HB.out | apply below_alloc | apply pw_below_drewN | apply below_drew1 | refine below_set ?_ (Aside0.out (by assumption))) | exact HB.out)) HEnv_.out.big) :
  Calls Tryd.prog 50 #[.int .i64 a0, .int .i64 a1] w fun e w' => e = .returned (.string r) ∧ Below w.heap.size w w' := by
 unfold et_FormatInt.f et_Itoa.f at h
 split at h
 ·rename_i c10
  subst c10
  split at h
  ·rename_i c
   cases h
   refine (Tryd.strconv_FormatInt_10 a0 c.1 c.2 w hE_.pow).mono ?_
   rintro e w' ⟨rfl, k, os, rfl⟩
   exact ⟨rfl, Lib.below_grow _ _ (Nat.le_refl _) _ _⟩
  ·cases h
 ·cases h
def joinB (l : List ByteArray) (sep : ByteArray) : ByteArray := ⟨(Lib.join (l.map (·.data.toList)) sep.data.toList).toArray⟩
def et_Join.f (l : List ByteArray) (sep : ByteArray) : Option ByteArray := if l.length ≤ 140737488355328 ∧ (Lib.join (l.map (·.data.toList)) sep.data.toList).length ≤ 140737488355328 then some (joinB l sep) else none
theorem et_Join.calls (A0 : Option Addr) (c0 : Nat) (l0 : List ByteArray) (a1 : ByteArray) (r : ByteArray) (w : World) (hr0 : ∃ B ok, Kd.R Kd.string 9 w B ok (.slice A0 l0.length c0) l0) (hc0 : l0.length ≤ c0) (h : et_Join.f l0 a1 = some r) (hE_ : Env w := by exact Env.below HEnv_.out (by repeat (first | (with_reducible first | exact HB.out | apply below_alloc | apply pw_below_drewN | apply below_drew1 | refine below_set ?_ (Aside0.out (by assumption))) | exact HB.out)) HEnv_.out.big) :
  Calls Tryd.prog 74 #[.slice A0 l0.length c0, .string a1] w fun e w' => e = .returned (.string r) ∧ Below w.heap.size w w' := by
 unfold et_Join.f at h
 split at h
 ·rename_i c
  obtain rfl := Option.some.inj h
  obtain ⟨B, ok, hR⟩ := hr0
  have hC := (Kd.R_reads' hR).2.2
  obtain ⟨inner, ho, _⟩ := hR.2
  rcases ho.2 with ⟨hv, hn⟩ | ⟨g, cap, cur, hv, hb, hg, _⟩
  ·obtain rfl := List.eq_nil_of_length_eq_zero hn
   refine (Tryd.strings_Join_none A0 c0 a1 w).mono ?_
   rintro e w' ⟨rfl, rfl⟩
   exact ⟨rfl, Below.refl _ _⟩
  ·obtain rfl : A0 = some ⟨g, 0, none⟩ := by cases hv; rfl
   have hgs : g < w.heap.size := (Array.getElem?_eq_some_iff.1 hg).1
   refine Tryd.strings_Join g 0 c0 l0 a1 w ?_ hgs c.1 hc0 c.2
   intro j x hx
   have hj : j < l0.length := (List.getElem?_eq_some_iff.1 hx).1
   obtain ⟨ad, e, hc⟩ := hC.2.2 (by omega)
   obtain rfl := Option.some.inj e
   obtain ⟨cs, h1, h2, h3⟩ := hc j x hx
   have h4 : cs = [.string x] := h2
   have h5 := h3 0 (.string x) (by rw [h4]; rfl)
   have h6 : (⟨g, 0, none⟩ : Addr).add (j * Kd.string.sz + 0) = ⟨g, 0 + j, none⟩ := by
    show (⟨g, 0, none⟩ : Addr).add (j * 1 + 0) = _
    unfold Addr.add
    by_cases c0 : j * 1 + 0 = 0
    ·rw [if_pos c0]; congr 1; omega
    ·rw [if_neg c0]; show (⟨g, 0 + (j * 1 + 0), none⟩ : Addr) = _; congr 1; omega
   rw [h6] at h5
   exact h5
 ·cases h
end Go.Proofs.YtlaijeeeblcinaaDoor.A

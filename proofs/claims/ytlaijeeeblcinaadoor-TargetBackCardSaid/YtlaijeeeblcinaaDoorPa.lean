/- target.Parse, walked. -/
import Derived.Test.YtlaijeeeblcinaaDoorPa1
set_option linter.all false
set_option linter.unusedVariables false
set_option linter.unusedSimpArgs false
set_option maxRecDepth 100000
namespace Go.Proofs.YtlaijeeeblcinaaDoor.A
open Go.RowKit Go.Proofs.YtlaijeeeblcinaaDoorW.PrintWords Go.Proofs.YtlaijeeeblcinaaDoorW.PrintLast Go.Proofs.YtlaijeeeblcinaaDoorW.PrintMore
set_option maxHeartbeats 8000000
theorem number_ok {w : World} {g : Nat} {s : ByteArray} {t : Tok} (kind : Int) (h : RdAt w g s t) {v : Int} {k : Tok} (hr : numberP s kind t = .ok (v, k)) :
  Calls Tryd.prog 37 #[.pointer (some ⟨g, 0, none⟩), .int .i64 kind] w fun e w' => e = .returned (.int .i64 v) ∧ Aside0 (RdAt w' g s k) ∧ Aside0 (Chg (· = g) w w') := by
 refine (number_or kind h).mono ?_
 rintro e w' (⟨v', k', rfl, h1, h2, h3⟩ | ⟨p, rfl, h1, h2⟩)
 ·have := h1.out; rw [hr] at this; cases this; exact ⟨rfl, h2, h3⟩
 ·have := h1.out; rw [hr] at this; cases this
theorem number_bad {w : World} {g : Nat} {s : ByteArray} {t : Tok} (kind : Int) (h : RdAt w g s t) {p : Int} (hr : numberP s kind t = .error p) :
  Calls Tryd.prog 37 #[.pointer (some ⟨g, 0, none⟩), .int .i64 kind] w fun e w' => e = failed p ∧ Aside0 (Chg (· = g) w w') := by
 refine (number_or kind h).mono ?_
 rintro e w' (⟨v', k', rfl, h1, h2, h3⟩ | ⟨p, rfl, h1, h2⟩)
 ·have := h1.out; rw [hr] at this; cases this
 ·have := h1.out; rw [hr] at this; cases this; exact ⟨rfl, h2⟩
theorem new4 (w : World) (o1 o2 o3 o4 : Obj) : ((((w.alloc o1).alloc o2).alloc o3).alloc o4).heap[w.heap.size + 3]? = some o4 := by
 have := blk_new (((w.alloc o1).alloc o2).alloc o3) o4
 simpa using this
theorem new3 (w : World) (o1 o2 o3 : Obj) : (((w.alloc o1).alloc o2).alloc o3).heap[w.heap.size + 2]? = some o3 := by
 have := blk_new ((w.alloc o1).alloc o2) o3
 simpa using this
/-- where the reader begins -/
theorem ps_start {w : World} {s : ByteArray} (hE : Env w) (hs : s.size ≤ 600000) : PS w ((((w.alloc (.cells #[.slice none 0 0, .slice none 0 0, .int .i64 0] 35)).alloc (.cells #[.int .i64 0] 3)).alloc (.cells #[.int .i64 0] 28)).alloc (.cells #[.string s, .int .i64 0, .int .i64 0, .int .u8 0, .string ⟨#[]⟩, .int .i64 0] 71)) s tok0 (.slice none 0 0) (.slice none 0 0) 0 [] [] := by
 have hb : Below w.heap.size w ((((w.alloc (.cells #[.slice none 0 0, .slice none 0 0, .int .i64 0] 35)).alloc (.cells #[.int .i64 0] 3)).alloc (.cells #[.int .i64 0] 28)).alloc (.cells #[.string s, .int .i64 0, .int .i64 0, .int .u8 0, .string ⟨#[]⟩, .int .i64 0] 71)) := below_alloc (below_alloc (below_alloc (below_alloc (Below.refl _ _) _) _) _) _
 have hE' := hE.below hb hE.big
 have hbig := hE.big
 exact ⟨⟨blk_alloc (blk_alloc (blk_alloc (blk_new w _) _) _) _, blk_alloc (blk_alloc (new2 w _ _) _) _, blk_alloc (new3 w _ _ _) _⟩, ⟨new4 w _ _ _ _, ⟨Nat.zero_le _, Nat.zero_le _⟩, hs, hE', by omega⟩, hb, Kd.R_nil _ _ _ _ _, Kd.R_nil _ _ _ _ _, hbig, hE⟩
theorem parse_long (k : Nat) (s : ByteArray) (r : PRes) (w : World) (hE : Env w) (hs : ¬ s.size ≤ 600000) (h : parseP k s = some r) : Calls Tryd.prog 19 #[.string s] w (PPost w r) := by
 have h1 : ([], [], 0, 0, 3) = r := by unfold parseP at h; rw [if_pos (by omega)] at h; exact Option.some.inj h
 subst h1
 have h2 : decide ((600000 : Int) < (s.size : Int)) = true := decide_eq_true (by omega)
 have h3 : 600000 < s.size := by omega
 clear h hs
 go_enter_defers Tryd.func19, Tryd.ntmps19
 go_wp2
 exact ⟨_, results_f19 _ _ w.heap.size (w.heap.size + 1) (w.heap.size + 2) (.slice none 0 0) (.slice none 0 0) 0 0 3 rfl rfl rfl (blk_alloc (blk_alloc (blk_new w _) _) _) (blk_alloc (new2 w _ _) _) (new3 w _ _ _), _, _, rfl, Kd.R_nil _ _ _ _ _, Kd.R_nil _ _ _ _ _, below_alloc (below_alloc (below_alloc (Below.refl _ _) _) _) _⟩
theorem fail_at {w0 w w' : World} {s : ByteArray} {t : Tok} {v0 v1 : Value} {en : Int} {c d : List Int} {p : Int} {T : Array Value} {r : PRes} (hp : PS w0 w s t v0 v1 en c d) (hc : Chg (· = w0.heap.size + 3) w w')
  (p2 : T.getD 2 undef = .pointer (some ⟨w0.heap.size, 0, none⟩)) (p3 : T.getD 3 undef = .pointer (some ⟨w0.heap.size + 1, 0, none⟩)) (p4 : T.getD 4 undef = .pointer (some ⟨w0.heap.size + 2, 0, none⟩)) (hr : r = bad p) :
  bodyPostD Tryd.prog Tryd.f19 (PPost w0 r) (Exit.panic [{ v := .iface 65 (.int .i64 p), recovered := false }]) { tmps := T, defers := [{ target := Target.fn (Fn.func 34) #[.pointer (some ⟨w0.heap.size, 0, none⟩), .pointer (some ⟨w0.heap.size + 1, 0, none⟩), .pointer (some ⟨w0.heap.size + 2, 0, none⟩)], args := #[] }] } w' :=
 door_bad (v0 := v0) (v1 := v1) (en := en) ⟨hc.blk hp.vars.b2 (by omega), hc.blk hp.vars.b3 (by omega), hc.blk hp.vars.b4 (by omega)⟩ (Below.chg' hp.below hc (by omega) (by have := hp.size; omega)) p2 p3 p4 hr
def tailR (s : ByteArray) (k : Nat) (en : Int) : Except Int (List Int × Tok) → Option PRes
 | .error p => some (bad p)
 | .ok d => (codeF s k [] d.2).bind fun
  | .error p => some (bad p)
  | .ok c => (target_Check.f k c d.1 en).bind fun e => some (if e = 0 then (c, d.1, en, 0, 0) else ([], [], 0, 0, e))
def codeR (s : ByteArray) (k : Nat) (en : Int) (d : List Int) : Except Int (List Int) → Option PRes
 | .error p => some (bad p)
 | .ok c => (target_Check.f k c d en).bind fun e => some (if e = 0 then (c, d, en, 0, 0) else ([], [], 0, 0, e))
theorem parseP_eq (k : Nat) (s : ByteArray) (h : s.size ≤ 600000) : parseP k s = match headP s with | .error p => some (bad p) | .ok h => (dataF s k [] h.2).bind (tailR s k h.1) := by
 unfold parseP
 rw [if_neg (by omega)]
 cases headP s with
 | error p => rfl
 | ok h => rfl
theorem head_bad {s : ByteArray} {k : Nat} {r : PRes} {p : Int} (H : parseP k s = some r) (hs : s.size ≤ 600000) (he : headP s = .error p) : r = bad p := by
 rw [parseP_eq k s hs, he] at H; exact (Option.some.inj H).symm
theorem head_ok {s : ByteArray} {k : Nat} {r : PRes} {h : Int × Tok} (H : parseP k s = some r) (hs : s.size ≤ 600000) (he : headP s = .ok h) : (dataF s k [] h.2).bind (tailR s k h.1) = some r := by
 rw [parseP_eq k s hs, he] at H; exact H
theorem bad_of {s : ByteArray} {k : Nat} {en : Int} {r : PRes} {p : Int} {x : Option (Except Int (List Int × Tok))} (H : x.bind (tailR s k en) = some r) (hx : x = some (.error p)) : r = bad p := by
 rw [hx] at H; exact (Option.some.inj H).symm
theorem bad_of' {s : ByteArray} {k : Nat} {en : Int} {d : List Int} {r : PRes} {p : Int} {x : Option (Except Int (List Int))} (H : x.bind (codeR s k en d) = some r) (hx : x = some (.error p)) : r = bad p := by
 rw [hx] at H; exact (Option.some.inj H).symm
theorem dataW_list : dataW.toList = [100, 97, 116, 97] := by rw [Go.ByteArray.toList_eq]; rfl
def T11 : Bool × List (List Nat × List Nat) := (true, [([], []), ([0], [0]), ([], []), ([2], [2]), ([3], [3]), ([1, 4, 3], [1, 4]), ([0, 1, 2, 3, 4, 5], []), ([6, 5, 5, 0, 1, 2, 3, 4, 5], [5, 6])])
def B11 : List Nat := [0, 1, 0, 4, 12, 31, 63, 127]
theorem tab11 : rtab .any (opsOf Tryd.f19 11) = T11 := by kernel_rfl
theorem bits11 : waitsOk T11.2 B11 = true := by kernel_rfl
def T18 : Bool × List (List Nat × List Nat) := (true, [([], []), ([0], [0]), ([], []), ([], []), ([2, 3], [2, 3]), ([1, 4, 4], [1, 4]), ([0, 1, 2, 3, 4, 5], []), ([6, 5, 5, 0, 1, 2, 3, 4, 5], [5, 6])])
def B18 : List Nat := [0, 1, 0, 0, 12, 31, 63, 127]
theorem tab18 : rtab .any (opsOf Tryd.f19 18) = T18 := by kernel_rfl
theorem bits18 : waitsOk T18.2 B18 = true := by kernel_rfl
theorem instr_ok {w : World} {g : Nat} {s : ByteArray} {t : Tok} (x : Row20) (h : RdAt w g s t) {v : MI} {k : Tok} (hr : instrP s x t = .ok (v, k)) :
  Calls Tryd.prog 40 #[.pointer (some ⟨g, 0, none⟩), .agg #[.int .i64 x.1, .string x.2.1, .bool x.2.2.1, .bool x.2.2.2.1, .bool x.2.2.2.2.1, .int .i64 x.2.2.2.2.2]] w fun e w' => e = .returned (.agg #[.int .i64 v.1, .int .i64 v.2.1, .int .i64 v.2.2.1, .int .i64 v.2.2.2.1, .int .i64 v.2.2.2.2]) ∧ Aside0 (RdAt w' g s k) ∧ Aside0 (Chg (· = g) w w') := by
 refine (instr_or x h).mono ?_
 rintro e w' (⟨v', k', rfl, h1, h2, h3⟩ | ⟨p, rfl, h1, h2⟩)
 ·have := h1.out; rw [hr] at this; cases this; exact ⟨rfl, h2, h3⟩
 ·have := h1.out; rw [hr] at this; cases this
theorem instr_bad {w : World} {g : Nat} {s : ByteArray} {t : Tok} (x : Row20) (h : RdAt w g s t) {p : Int} (hr : instrP s x t = .error p) :
  Calls Tryd.prog 40 #[.pointer (some ⟨g, 0, none⟩), .agg #[.int .i64 x.1, .string x.2.1, .bool x.2.2.1, .bool x.2.2.2.1, .bool x.2.2.2.2.1, .int .i64 x.2.2.2.2.2]] w fun e w' => e = failed p ∧ Aside0 (Chg (· = g) w w') := by
 refine (instr_or x h).mono ?_
 rintro e w' (⟨v', k', rfl, h1, h2, h3⟩ | ⟨p, rfl, h1, h2⟩)
 ·have := h1.out; rw [hr] at this; cases this
 ·have := h1.out; rw [hr] at this; cases this; exact ⟨rfl, h2⟩
def retSet (w : World) (b2 b3 b4 : Nat) (v0 v1 : Value) (en a e : Int) : World := ((((w.setCell ⟨b2, 0, none⟩ v0).setCell ⟨b2, 1, none⟩ v1).setCell ⟨b2, 2, none⟩ (.int .i64 en)).setCell ⟨b3, 0, none⟩ (.int .i64 a)).setCell ⟨b4, 0, none⟩ (.int .i64 e)
theorem retSet_blks {w : World} {b2 b3 b4 : Nat} {u0 u1 : Value} {eu au e0 : Int} (v0 v1 : Value) (en a e : Int) (h2 : w.heap[b2]? = some (.cells #[u0, u1, .int .i64 eu] 35 (0, 0))) (h3 : w.heap[b3]? = some (.cells #[.int .i64 au] 3 (0, 0))) (h4 : w.heap[b4]? = some (.cells #[.int .i64 e0] 28 (0, 0)))
  (n23 : b2 ≠ b3) (n24 : b2 ≠ b4) (n34 : b3 ≠ b4) :
  (retSet w b2 b3 b4 v0 v1 en a e).heap[b2]? = some (.cells #[v0, v1, .int .i64 en] 35 (0, 0)) ∧ (retSet w b2 b3 b4 v0 v1 en a e).heap[b3]? = some (.cells #[.int .i64 a] 3 (0, 0)) ∧ (retSet w b2 b3 b4 v0 v1 en a e).heap[b4]? = some (.cells #[.int .i64 e] 28 (0, 0)) := by
 unfold retSet
 refine ⟨?_, ?_, ?_⟩
 ·exact blk_far (blk_far ((blk_set (blk_set (blk_set h2 0 _) 1 _) 2 _).trans rfl) (p := ⟨b3, 0, none⟩) n23 _) (p := ⟨b4, 0, none⟩) n24 _
 ·exact blk_far ((blk_set (blk_far (blk_far (blk_far h3 (p := ⟨b2, 0, none⟩) (Ne.symm n23) _) (p := ⟨b2, 1, none⟩) (Ne.symm n23) _) (p := ⟨b2, 2, none⟩) (Ne.symm n23) _) 0 _).trans rfl) (p := ⟨b4, 0, none⟩) n34 _
 ·exact (blk_set (blk_far (blk_far (blk_far (blk_far h4 (p := ⟨b2, 0, none⟩) (Ne.symm n24) _) (p := ⟨b2, 1, none⟩) (Ne.symm n24) _) (p := ⟨b2, 2, none⟩) (Ne.symm n24) _) (p := ⟨b3, 0, none⟩) (Ne.symm n34) _) 0 _).trans rfl
theorem retSet_below {w w1 : World} {b2 b3 b4 : Nat} (h : Below w.heap.size w w1) (h2 : w.heap.size ≤ b2) (h3 : w.heap.size ≤ b3) (h4 : w.heap.size ≤ b4) (v0 v1 : Value) (en a e : Int) : Below w.heap.size w (retSet w1 b2 b3 b4 v0 v1 en a e) :=
 below_set (below_set (below_set (below_set (below_set h h2) h2) h2) h3) h4
theorem retSet_R {w : World} {b2 b3 b4 : Nat} {u0 u1 : Value} {eu au e0 : Int} (v0 v1 : Value) (en a e : Int) (h2 : w.heap[b2]? = some (.cells #[u0, u1, .int .i64 eu] 35 (0, 0))) (h3 : w.heap[b3]? = some (.cells #[.int .i64 au] 3 (0, 0))) (h4 : w.heap[b4]? = some (.cells #[.int .i64 e0] 28 (0, 0)))
  (n23 : b2 ≠ b3) (n24 : b2 ≠ b4) (n34 : b3 ≠ b4) {el : Nat} {k0 : IntKind} {B : Nat} {v : Value} {xs : List Int} (h : Kd.R (Kd.int k0) el w B (fun _ => True) v xs) (n1 : el ≠ 35) (n2 : el ≠ 3) (n3 : el ≠ 28) : Kd.R (Kd.int k0) el (retSet w b2 b3 b4 v0 v1 en a e) B (fun _ => True) v xs := by
 have hm : ∀ {t : Nat}, el ≠ t → ∀ q, q ∈ el :: (Kd.int k0).E → q ≠ t := fun ht q hq => by
  simp only [List.mem_cons] at hq
  rcases hq with rfl | hq
  ·exact ht
  ·exact absurd hq (by simp [Kd.int, Kd.scalar])
 have g3 : (((w.setCell ⟨b2, 0, none⟩ v0).setCell ⟨b2, 1, none⟩ v1).setCell ⟨b2, 2, none⟩ (.int .i64 en)).heap[b3]? = some (.cells #[.int .i64 au] 3 (0, 0)) := blk_far (blk_far (blk_far h3 (p := ⟨b2, 0, none⟩) (Ne.symm n23) _) (p := ⟨b2, 1, none⟩) (Ne.symm n23) _) (p := ⟨b2, 2, none⟩) (Ne.symm n23) _
 have g4 : ((((w.setCell ⟨b2, 0, none⟩ v0).setCell ⟨b2, 1, none⟩ v1).setCell ⟨b2, 2, none⟩ (.int .i64 en)).setCell ⟨b3, 0, none⟩ (.int .i64 a)).heap[b4]? = some (.cells #[.int .i64 e0] 28 (0, 0)) := blk_far (blk_far (blk_far (blk_far h4 (p := ⟨b2, 0, none⟩) (Ne.symm n24) _) (p := ⟨b2, 1, none⟩) (Ne.symm n24) _) (p := ⟨b2, 2, none⟩) (Ne.symm n24) _) (p := ⟨b3, 0, none⟩) (Ne.symm n34) _
 exact Kd.R_set (Kd.R_set (Kd.R_set (Kd.R_set (Kd.R_set h h2 (hm n1) 0 _) (blk_set h2 0 _) (hm n1) 1 _) (blk_set (blk_set h2 0 _) 1 _) (hm n1) 2 _) g3 (hm n2) 0 _) g4 (hm n3) 0 _
theorem row50 {w : World} {b : Nat} {x0 x5 : Int} {x1 : ByteArray} {x2 x3 x4 : Bool} (h : w.heap[b]? = some (.cells #[.int .i64 x0, .string x1, .bool x2, .bool x3, .bool x4, .int .i64 x5] 50 (0, 0))) :
  w.cell? ⟨b, 0, none⟩ = some (.int .i64 x0) ∧ w.cell? ⟨b, 1, none⟩ = some (.string x1) ∧ w.cell? ⟨b, 2, none⟩ = some (.bool x2) ∧ w.cell? ⟨b, 3, none⟩ = some (.bool x3) ∧ w.cell? ⟨b, 4, none⟩ = some (.bool x4) ∧ w.cell? ⟨b, 5, none⟩ = some (.int .i64 x5) := rw_facts h
theorem parse_short (k : Nat) (s : ByteArray) (r : PRes) (w : World) (hE : Env w) (hs : s.size ≤ 600000) (h : parseP k s = some r) : Calls Tryd.prog 19 #[.string s] w (PPost w r) := by
 have hmf : ∀ (fn : Fn) (first cap : Array Value) (w : World), (Instr.makeFunc fn first cap).run Tryd.prog w = .ok (.func fn first cap) w := fun _ _ _ _ => rfl
 have P0 := Aside0.mk (ps_start hE hs)
 have HH := Aside0.mk h
 have hd : decide ((600000 : Int) < (s.size : Int)) = false := decide_eq_false (by omega)
 have hS := Aside0.mk hs
 clear h hs
 go_enter_defers Tryd.func19, Tryd.ntmps19
 go_wp2_with (first | (go_at_call 36; refine (want_or ⟨#[59]⟩ (P5.out.setEn v5).rd).mono ?_; rintro e w6 (⟨k6, rfl, hr6, hR6, hC6⟩ | ⟨p, rfl, hr, hC⟩); (have P6 := Aside0.mk ((P5.out.setEn v5).chg hR6.out hC6.out))) | (go_at_call 37; refine (number_or 3 P4.out.rd).mono ?_; rintro e w5 (⟨v5, k5, rfl, hr5, hR5, hC5⟩ | ⟨p, rfl, hr, hC⟩); (have P5 := Aside0.mk (P4.out.chg hR5.out hC5.out); have x2 := (blk_cell P5.out.vars.b2 2).trans rfl; have y2 := blk_frozen P5.out.vars.b2 2)) | (go_at_call 36; refine (want_or entryW P2.out.rd).mono ?_; rintro e w4 (⟨k4, rfl, hr4, hR4, hC4⟩ | ⟨p, rfl, hr, hC⟩); (have P4 := Aside0.mk (P2.out.chg hR4.out hC4.out))) | (go_at_call 35; refine (next_or P0.out.rd).mono ?_; rintro e w2 (⟨k2, rfl, hr2, hR2, hC2⟩ | ⟨p, rfl, hr, hC⟩); (have P2 := Aside0.mk (P0.out.chg hR2.out hC2.out))))
 ·have HD := Aside0.mk (head_ok (h := (v5, k6)) HH.out hS.out (by unfold headP; simp [hr2.out, hr4.out, hr5.out, hr6.out, Except.bind]))
  go_loopg [] k (fun kq wr => ∃ (t : Tok) (v1 : Value) (d : List Int), Aside0 (PS w wr s t (.slice none 0 0) v1 v5 [] d) ∧ Aside0 ((dataF s kq d t).bind (tailR s k v5) = some r))
  case atStart => exact ⟨k6, .slice none 0 0, [], P6, HD⟩
  case round =>
   obtain ⟨t, v1, d, PD, HF⟩ := hrel
   cases gk with
   | zero => exact absurd HF.out (by simp [dataF])
   | succ kd =>
    have q1 : wr.cell? ⟨w.heap.size + 1 + 1 + 1, 1, none⟩ = some (.int .i64 t.at_) := PD.out.rd.facts.1
    have q3 : wr.cell? ⟨w.heap.size + 1 + 1 + 1, 3, none⟩ = some (.int .u8 t.sort) := PD.out.rd.facts.2.1
    have q4 : wr.cell? ⟨w.heap.size + 1 + 1 + 1, 4, none⟩ = some (.string t.text) := PD.out.rd.facts.2.2.1
    go_upto_region 9 with (fail)
    (try simp only [Act.put, List.setIfInBounds_toArray, List.set_cons_zero, List.set_cons_succ])
    go_cut [39] from 26 to 39 (fun v wc => v = .bool (t.sort == 97 && t.text.toList == [100, 97, 116, 97]) ∧ Aside0 (PS w wc s t (.slice none 0 0) v1 v5 [] d))
    case first =>
     cases b1 : (t.sort == 97) <;> cases b2 : (t.text.toList == [100, 97, 116, 97])
     all_goals
      go_wp2
      go_meet
      case rel => exact ⟨by rw [b1, b2]; rfl, PD⟩
    case rest =>
     clear PD q1 q3 q4
     obtain ⟨rfl, PD⟩ := hcut
     cases b3 : (t.sort == 97 && t.text.toList == [100, 97, 116, 97]) with
     | true =>
     have A1 : Aside0 (t.sort = 97 ∧ t.text.toList = dataW.toList) := ⟨by rw [dataW_list]; simpa using b3⟩
     go_wp2_with (first | (go_at_call 35; refine (next_or PD.out.rd).mono ?_; rintro e w7 (⟨k7, rfl, hr7, hR7, hC7⟩ | ⟨p, rfl, hr, hC⟩); (have P7 := Aside0.mk (PD.out.chg hR7.out hC7.out))))
     ·cases hnum : numberP s 2 k7 with
      | error p =>
       have HNUM := Aside0.mk hnum
       clear hnum
       have c1 : w7.cell? ⟨w.heap.size, 1, none⟩ = some v1 := (blk_cell P7.out.vars.b2 1).trans rfl
       have HERR : Aside0 (r = bad p) := ⟨bad_of HF.out (by unfold dataF; rw [if_pos A1.out, hr7.out]; simp only [HNUM.out])⟩
       refine wp_region_held_drew (S := (fun w' => w'.cell? ⟨w.heap.size, 1, none⟩ = some v1)) (by kernel_rfl) (by exact c1) (fun hHeld => ?_)
       refine wpAnyH_take (i := 0) (v := ?va1) rfl (by kernel_rfl) (by kernel_rfl) (by kernel_rfl) (fun _ _ _ h => panic_put (d := 42) (by decide) h) (Or.inl ⟨by rfl, ?ya1⟩) (by assumption) ?sa1
       case ya1 => (intro w hSw; (try dsimp only at hSw); go_simp; try with_reducible rfl)
       try simp only [Act.put, List.setIfInBounds_toArray, List.set_cons_zero, List.set_cons_succ]
       refine wpAnyH_take (i := 1) (v := ?va2) rfl (by kernel_rfl) (by kernel_rfl) (by kernel_rfl) (fun _ _ _ h => panic_put (d := 43) (by decide) h) (Or.inl ⟨by rfl, ?ya2⟩) (by assumption) ?sa2
       case ya2 => (intro w hSw; (try dsimp only at hSw); go_simp; try with_reducible rfl)
       try simp only [Act.put, List.setIfInBounds_toArray, List.set_cons_zero, List.set_cons_succ]
       refine wpAnyH_take (i := 2) (v := ?va3) rfl (by kernel_rfl) (by kernel_rfl) (by kernel_rfl) (fun _ _ _ h => panic_put (d := 44) (by decide) h) (Or.inl ⟨by rfl, ?ya3⟩) (by assumption) ?sa3
       case ya3 => (intro w hSw; (try dsimp only at hSw); go_simp; try with_reducible rfl)
       try simp only [Act.put, List.setIfInBounds_toArray, List.set_cons_zero, List.set_cons_succ]
       refine wpAnyH_ready (rs := [3]) (by kernel_rfl) (by simp) ?_
       refine AllReadyH.cons rfl (fun K hK => ?_) AllReadyH.nil
       go_simp
       go_at_call 37; refine (number_bad 2 (by first | exact P7.out.rd | exact P7.out.drew.rd) HNUM.out).mono ?_; rintro e w9 ⟨rfl, hC9⟩
       exact fail_at (by first | exact P7.out | exact P7.out.drew) hC9.out rfl rfl rfl HERR.out
      | ok vk =>
       obtain ⟨v8, k8⟩ := vk
       have HNUM := Aside0.mk hnum
       clear hnum
       have hlen : d.length < 1000000 := by
        refine Classical.byContradiction fun hn => ?_
        have h1 := HF.out
        unfold dataF at h1
        rw [if_pos A1.out, hr7.out] at h1
        simp only [HNUM.out] at h1
        rw [if_neg hn] at h1
        exact absurd h1 (by simp)
       refine wp_region_noPanic ?_
       refine start_ (n := 8) (S := fun w' => w'.cell? ⟨w.heap.size, 1, none⟩ = some v1) (ds := [7]) #[false, false, false, false, false, false, false, false] (by kernel_rfl) rfl rfl ((blk_cell P7.out.vars.b2 1).trans rfl) (fun hHeld => ?_)
       refine with_tabW tab11 bits11 (fun HT_ HW_ => ?_)
       have P8 := Aside0.mk P7.out.drew
       generalize w7.drew = w8 at P8 hHeld ⊢
       refine pure_ (i := 0) (N := some 42) (v := ?_) (a' := ?_) #[true, false, false, false, false, false, false, false] rfl rfl (any_of HT_.out (by kernel_rfl)) (fun _ _ _ h => h) (Or.inl ⟨by rfl, ?_⟩) ?_ ?_
       rotate_left
       ·intro w'
        go_simp
        with_reducible rfl
       rotate_left
       ·simp only [Act.put, List.setIfInBounds_toArray, List.set_cons_zero, List.set_cons_succ, i64_w, i32_w]
        rfl
       refine pure_ (i := 2) (N := some 44) (v := ?_) (a' := ?_) #[true, false, true, false, false, false, false, false] rfl rfl (any_of HT_.out (by kernel_rfl)) (fun _ _ _ h => h) (Or.inl ⟨by rfl, ?_⟩) ?_ ?_
       rotate_left
       ·intro w'
        go_simp
        with_reducible rfl
       rotate_left
       ·simp only [Act.put, List.setIfInBounds_toArray, List.set_cons_zero, List.set_cons_succ, i64_w, i32_w]
        rfl
       refine take_ (i := 1) (N := some 43) (v := ?_) (a' := ?_) #[true, true, true, false, false, false, false, false] rfl rfl (take_ofW HT_.out HW_.out (by kernel_rfl)) (fun _ _ _ h => h) (Or.inl ⟨by rfl, ?_⟩) hHeld ?_ ?_
       rotate_left
       ·intro w' s0
        go_simp
        with_reducible rfl
       rotate_left
       ·simp only [Act.put, List.setIfInBounds_toArray, List.set_cons_zero, List.set_cons_succ, i64_w, i32_w]
        rfl
       refine one_ (i := 3) (N := some 45) #[true, true, true, true, false, false, false, false] rfl rfl (one_of HT_.out (by kernel_rfl)) (by decide) (fun K hK => ?_)
       refine goes_ Tryd.func37 (by kernel_rfl) rfl #[.pointer (some ⟨w.heap.size + 1 + 1 + 1, 0, none⟩), .int .i64 2] (by rfl) rfl rfl (by (try simp only [List.map_toArray, List.map_cons, List.map_nil]); first | done | rfl) ?_
       refine (number_ok 2 P8.out.rd HNUM.out).mono ?_
       rintro e w9 ⟨rfl, hR9, hC9⟩
       refine ⟨_, rfl, ?_⟩
       have P9 := Aside0.mk (P8.out.chg hR9.out hC9.out)
       refine hK.out _ _ ((blk_cell P9.out.vars.b2 1).trans rfl) (fun hHeld => ?_)
       clear hK K
       refine norm_ (a' := ?_) ?_ ?_
       rotate_left
       ·show Act.put _ (some 45) _ = _
        simp only [Act.put, List.setIfInBounds_toArray, List.set_cons_zero, List.set_cons_succ, i64_w, i32_w]
        rfl
       refine one_ (i := 4) (N := some 46) #[true, true, true, true, true, false, false, false] rfl rfl (one_of HT_.out (by kernel_rfl)) (by decide) (fun K hK => ?_)
       refine value_ (w1 := ?_) (v := ?_) (by rfl) rfl ?_ ?_
       rotate_left 2
       ·go_simp
        constructor
        ·rfl
        ·rfl
       refine hK.out _ _ ((blk_cell (blk_alloc P9.out.vars.b2 _) 1).trans rfl) (fun hHeld => ?_)
       clear hK K
       refine norm_ (a' := ?_) ?_ ?_
       rotate_left
       ·show Act.put _ (some 46) _ = _
        simp only [Act.put, List.setIfInBounds_toArray, List.set_cons_zero, List.set_cons_succ, i64_w, i32_w]
        rfl
       refine one_ (i := 5) (N := some 47) #[true, true, true, true, true, true, false, false] rfl rfl (one_of HT_.out (by kernel_rfl)) (by decide) (fun K hK => ?_)
       refine Kd.R_append_step (Kd.int .i64) (w0 := w) w.heap.size (by rfl) (.tmp 43) (.tmp 46) 33 2 (.int .i64 0) 8 rfl Tryd.underlying33 info2 rfl (by decide) (by omega) v1 d v8 [.int .i64 v8] (fun _ => True) (fun _ => False) rfl rfl rfl (fun _ hk => hk.elim) (fun _ _ => trivial) P9.out.own1 P9.out.below (Nat.le_trans (Nat.le_add_right _ 3) (Nat.le_of_lt P9.out.size)) (by omega) ?_
       intro v10 w10 ho hb hg hat
       obtain ⟨Ao, co, eo⟩ := Kd.R_slice ho
       rw [show (d ++ [v8]).length = d.length + 1 from by simp] at eo
       subst eo
       have P11 := Aside0.mk (P9.out.data ho hb hg)
       have g2 := blk_grown P9.out.vars.b2 hg (Kd.R_ne P9.out.own1 P9.out.vars.b2 (by decide))
       have hs1 : w10.cell? ⟨w.heap.size, 1, none⟩ = some v1 := (blk_cell g2 1).trans rfl
       have hfs := blk_frozen g2 1
       clear ho hb hg hat g2
       refine hK.out _ _ hs1 (fun hHeld => ?_)
       clear hK K
       refine norm_ (a' := ?_) ?_ ?_
       rotate_left
       ·show Act.put _ (some 47) _ = _
        simp only [Act.put, List.setIfInBounds_toArray, List.set_cons_zero, List.set_cons_succ, i64_w, i32_w]
        rfl
       refine pure_ (i := 6) (N := some 48) (v := ?_) (a' := ?_) #[true, true, true, true, true, true, true, false] rfl rfl (any_of HT_.out (by kernel_rfl)) (fun _ _ _ h => h) (Or.inl ⟨by rfl, ?_⟩) ?_ ?_
       rotate_left
       ·intro w'
        go_simp
        with_reducible rfl
       rotate_left
       ·simp only [Act.put, List.setIfInBounds_toArray, List.set_cons_zero, List.set_cons_succ, i64_w, i32_w]
        rfl
       refine last_ (i := 7) (N := none) #[true, true, true, true, true, true, true, true] rfl rfl (one_of HT_.out (by kernel_rfl)) (by decide) (fun K hK => ?_)
       refine skip_ (w1 := ?_) (by rfl) rfl ?_ ?_
       rotate_left
       ·go_simp
        rfl
       refine hK.out _ _ ?_
       clear hK K
       refine done_ (done_of HT_.out (by kernel_rfl)) ?_
       refine NoPanic.normal ?_
       go_wp2_with (go_at_call 36; refine (want_or ⟨#[59]⟩ P11.out.rd).mono ?_; rintro e w12 (⟨k12, rfl, hr12, hR12, hC12⟩ | ⟨p, rfl, hr, hC⟩))
       ·go_roundg kd
        case measure => exact Nat.lt_succ_self _
        case rel =>
         exact ⟨k12, _, d ++ [v8], ⟨P11.out.chg hR12.out hC12.out⟩, ⟨by
          have h1 := HF.out
          unfold dataF at h1
          rw [if_pos A1.out, hr7.out] at h1
          simp only [HNUM.out] at h1
          rw [if_pos hlen, hr12.out] at h1
          exact h1⟩⟩
       ·exact fail_at P11.out hC.out rfl rfl rfl (bad_of HF.out (by unfold dataF; rw [if_pos A1.out, hr7.out]; simp only [HNUM.out]; rw [if_pos hlen, hr.out]))
     ·exact fail_at PD.out hC.out rfl rfl rfl (bad_of HF.out (by unfold dataF; rw [if_pos A1.out, hr.out]))
     | false =>
     have a1 : ¬ (t.sort = 97 ∧ t.text.toList = dataW.toList) := by rw [dataW_list]; intro h; simp [h] at b3
     have H3 : tailR s k v5 (.ok (d, t)) = some r := by have := HF.out; unfold dataF at this; rw [if_neg a1] at this; exact this
     have HX := Aside0.mk (show (codeF s k [] t).bind (codeR s k v5 d) = some r from H3)
     clear H3 a1 HF
     go_wp2_with (fail)
     go_loopg [] k (fun kq wr => ∃ (t : Tok) (v0 : Value) (c : List Int), Aside0 (PS w wr s t v0 v1 v5 c d) ∧ Aside0 ((codeF s kq c t).bind (codeR s k v5 d) = some r))
     case atStart => exact ⟨t, .slice none 0 0, [], PD, HX⟩
     case round =>
      clear PD HX
      obtain ⟨t, v0, c, PC, HF⟩ := hrel
      cases gk with
      | zero => exact absurd HF.out (by simp [codeF])
      | succ kc =>
       have q1 : wr.cell? ⟨w.heap.size + 1 + 1 + 1, 1, none⟩ = some (.int .i64 t.at_) := PC.out.rd.facts.1
       have q3 : wr.cell? ⟨w.heap.size + 1 + 1 + 1, 3, none⟩ = some (.int .u8 t.sort) := PC.out.rd.facts.2.1
       have q4 : wr.cell? ⟨w.heap.size + 1 + 1 + 1, 4, none⟩ = some (.string t.text) := PC.out.rd.facts.2.2.1
       by_cases a0 : t.sort = 0
       ·have H4 : codeR s k v5 d (.ok c) = some r := by have := HF.out; unfold codeF at this; rw [if_pos a0] at this; exact this
        have H5 : (target_Check.f k c d v5).bind (fun e => some (if e = 0 then (c, d, v5, 0, 0) else ([], [], 0, 0, e))) = some r := H4
        have a0b : (t.sort != 0) = false := by simp [a0]
        obtain ⟨e5, he5, hr5e⟩ := Option.bind_eq_some_iff.mp H5
        have HCK := Aside0.mk he5
        have HRE := Aside0.mk (Option.some.inj hr5e)
        clear H4 H5 a0 he5 hr5e HF
        obtain ⟨A0, n0, ev0, hn0, hc0⟩ := Kd.R_reads PC.out.own0
        obtain ⟨A1_, n1, ev1, hn1, hc1⟩ := Kd.R_reads PC.out.own1
        subst ev0 ev1
        have HN0 := Aside0.mk hn0
        have HC0 := Aside0.mk hc0
        have HD1 : Aside0 (d.length ≤ 9223372036854775807) := ⟨hc1.2.1⟩
        have i0 := (blk_cell PC.out.vars.b2 0).trans rfl
        have i1 := (blk_cell PC.out.vars.b2 1).trans rfl
        have i2 := (blk_cell PC.out.vars.b2 2).trans rfl
        clear hn0 hc0 hn1 hc1
        by_cases e0 : e5 = 0
        ·subst e0
         have hr0 : r = (c, d, v5, 0, 0) := by rw [← HRE.out]; rfl
         have HR0 := Aside0.mk hr0
         clear hr0
         go_wp2_with (go_at_call 17; refine (target_Check.calls k A0 n0 c A1_ n1 d v5 0 _ PC.out.rd.env.tab HC0.out HN0.out HD1.out HCK.out).mono ?_; rintro e w7 ⟨rfl, hb7⟩; have P7 := Aside0.mk (PC.out.bel hb7); obtain j0 := (blk_cell P7.out.vars.b2 0).trans rfl; obtain j1 := (blk_cell P7.out.vars.b2 1).trans rfl; obtain j2 := (blk_cell P7.out.vars.b2 2).trans rfl; obtain j3 := (blk_cell P7.out.vars.b3 0).trans rfl; obtain j4 := (blk_cell P7.out.vars.b4 0).trans rfl; have f0 := blk_frozen P7.out.vars.b2 0; have f1 := blk_frozen P7.out.vars.b2 1; have f2 := blk_frozen P7.out.vars.b2 2; have f3 := blk_frozen P7.out.vars.b3 0; have f4 := blk_frozen P7.out.vars.b4 0)
         obtain ⟨g2, g3, g4⟩ := retSet_blks (.slice A0 c.length n0) (.slice A1_ d.length n1) v5 0 0 P7.out.vars.b2 P7.out.vars.b3 P7.out.vars.b4 (by omega) (by omega) (by omega)
         have k0 := retSet_R (.slice A0 c.length n0) (.slice A1_ d.length n1) v5 0 0 P7.out.vars.b2 P7.out.vars.b3 P7.out.vars.b4 (by omega) (by omega) (by omega) P7.out.own0 (by decide) (by decide) (by decide)
         have k1 := retSet_R (.slice A0 c.length n0) (.slice A1_ d.length n1) v5 0 0 P7.out.vars.b2 P7.out.vars.b3 P7.out.vars.b4 (by omega) (by omega) (by omega) P7.out.own1 (by decide) (by decide) (by decide)
         have kb := retSet_below P7.out.below (Nat.le_refl _) (show w.heap.size ≤ w.heap.size + 1 by omega) (show w.heap.size ≤ w.heap.size + 2 by omega) (.slice A0 c.length n0) (.slice A1_ d.length n1) v5 0 0
         refine door_ok g2 g3 g4 rfl rfl rfl HR0.out k0 k1 kb
        ·have e0b : (e5 != 0) = true := by simp [e0]
         have hr0 : r = ([], [], 0, 0, e5) := by rw [← HRE.out, if_neg e0]
         have HR0 := Aside0.mk hr0
         clear hr0 e0
         go_wp2_with (go_at_call 17; refine (target_Check.calls k A0 n0 c A1_ n1 d v5 e5 _ PC.out.rd.env.tab HC0.out HN0.out HD1.out HCK.out).mono ?_; rintro e w7 ⟨rfl, hb7⟩; have P7 := Aside0.mk (PC.out.bel hb7); obtain j0 := (blk_cell P7.out.vars.b2 0).trans rfl; obtain j1 := (blk_cell P7.out.vars.b2 1).trans rfl; obtain j2 := (blk_cell P7.out.vars.b2 2).trans rfl; obtain j3 := (blk_cell P7.out.vars.b3 0).trans rfl; obtain j4 := (blk_cell P7.out.vars.b4 0).trans rfl; have f0 := blk_frozen P7.out.vars.b2 0; have f1 := blk_frozen P7.out.vars.b2 1; have f2 := blk_frozen P7.out.vars.b2 2; have f3 := blk_frozen P7.out.vars.b3 0; have f4 := blk_frozen P7.out.vars.b4 0)
         obtain ⟨g2, g3, g4⟩ := retSet_blks (.slice none 0 0) (.slice none 0 0) 0 0 e5 P7.out.vars.b2 P7.out.vars.b3 P7.out.vars.b4 (by omega) (by omega) (by omega)
         have kb := retSet_below P7.out.below (Nat.le_refl _) (show w.heap.size ≤ w.heap.size + 1 by omega) (show w.heap.size ≤ w.heap.size + 2 by omega) (.slice none 0 0) (.slice none 0 0) 0 0 e5
         exact door_ok g2 g3 g4 rfl rfl rfl HR0.out (Kd.R_nil _ _ _ _ _) (Kd.R_nil _ _ _ _ _) kb
       ·have a0b : (t.sort != 0) = true := by simp [a0]
        have HS0 := Aside0.mk a0
        have hz : t.text.size ≤ 600000 := Nat.le_trans PC.out.rd.le.2 PC.out.rd.size
        have HZ := Aside0.mk hz
        clear a0 hz
        obtain ⟨⟨x0, x1, x2, x3, x4, x5⟩, is_, hX⟩ : ∃ x is_, namedP t.text = (x, is_) := ⟨_, _, rfl⟩
        have HNC : Aside0 (∀ W, Tab W → Calls Tryd.prog 38 #[.string t.text] W fun e w' => e = .returned (.tuple #[.agg #[.int .i64 x0, .string x1, .bool x2, .bool x3, .bool x4, .int .i64 x5], .bool is_]) ∧ Below W.heap.size W w') := ⟨fun W hT => by have := named_calls t.text HZ.out W hT; rw [hX] at this; exact this⟩
        have HX : Aside0 ((namedP t.text).1 = (x0, x1, x2, x3, x4, x5)) := ⟨by rw [hX]⟩
        have HX2 : Aside0 ((namedP t.text).2 = is_) := ⟨by rw [hX]⟩
        clear hX
        by_cases hnm : t.sort ≠ 97 ∨ (namedP t.text).2 = false
        ·have HERR : Aside0 (r = bad t.at_) := ⟨bad_of' HF.out (by unfold codeF; rw [if_neg HS0.out, if_pos hnm])⟩
         by_cases h97 : t.sort = 97
         ·have s97 : (t.sort != 97) = false := by simp [h97]
          have his : is_ = false := by rw [← HX2.out]; rcases hnm with hq | hq; (· exact absurd h97 hq); exact hq
          subst his
          clear hnm h97
          go_wp2_with (first | (go_at_call 39; refine (failed_or P3.out.rd).mono ?_; rintro e w4 ⟨rfl, rfl⟩) | (go_at_call 38; refine (HNC.out _ PC.out.rd.env.tab).mono ?_; rintro e w2 ⟨rfl, hb2⟩; have P2 := Aside0.mk (PC.out.bel hb2); clear hb2; have P3 := Aside0.mk (P2.out.alloc (.cells #[.int .i64 x0, .string x1, .bool x2, .bool x3, .bool x4, .int .i64 x5] 50 (0, 0))); obtain ⟨_, q3', _, _⟩ := P3.out.rd.facts))
          exact fail_at P3.out (Chg.refl _ _) rfl rfl rfl HERR.out
         ·have s97 : (t.sort != 97) = true := by simp [h97]
          clear hnm h97
          go_wp2_with (first | (go_at_call 39; refine (failed_or P3.out.rd).mono ?_; rintro e w4 ⟨rfl, rfl⟩) | (go_at_call 38; refine (HNC.out _ PC.out.rd.env.tab).mono ?_; rintro e w2 ⟨rfl, hb2⟩; have P2 := Aside0.mk (PC.out.bel hb2); clear hb2; have P3 := Aside0.mk (P2.out.alloc (.cells #[.int .i64 x0, .string x1, .bool x2, .bool x3, .bool x4, .int .i64 x5] 50 (0, 0))); obtain ⟨_, q3', _, _⟩ := P3.out.rd.facts))
          exact fail_at P3.out (Chg.refl _ _) rfl rfl rfl HERR.out
        ·have HNM := Aside0.mk hnm
         have his : is_ = true := by rw [← HX2.out]; cases hq : (namedP t.text).2 <;> simp_all
         subst his
         have h97 : t.sort = 97 := Classical.byContradiction fun e => hnm (.inl e)
         have s97 : (t.sort != 97) = false := by simp [h97]
         clear hnm h97
         go_wp2_with (first | (go_at_call 35; refine (next_or P3.out.rd).mono ?_; rintro e w4 (⟨k4, rfl, hr4, hR4, hC4⟩ | ⟨p, rfl, hr, hC⟩); (have P4 := Aside0.mk (P3.out.chg hR4.out hC4.out))) | (go_at_call 38; refine (HNC.out _ PC.out.rd.env.tab).mono ?_; rintro e w2 ⟨rfl, hb2⟩; have P2 := Aside0.mk (PC.out.bel hb2); clear hb2; have P3 := Aside0.mk (P2.out.alloc (.cells #[.int .i64 x0, .string x1, .bool x2, .bool x3, .bool x4, .int .i64 x5] 50 (0, 0))); obtain ⟨_, q3', _, _⟩ := P3.out.rd.facts))
         ·have HRN : Aside0 (w2.heap.size ≠ w.heap.size + 3) := ⟨by have := P2.out.size; omega⟩
          have R4 := Aside0.mk (hC4.out.blk (blk_new w2 (.cells #[.int .i64 x0, .string x1, .bool x2, .bool x3, .bool x4, .int .i64 x5] 50 (0, 0))) HRN.out)
          cases hins : instrP s (x0, x1, x2, x3, x4, x5) k4 with
          | error p =>
           have HINS := Aside0.mk hins
           clear hins
           have HERR : Aside0 (r = bad p) := ⟨bad_of' HF.out (by unfold codeF; rw [if_neg HS0.out, if_neg HNM.out, hr4.out, HX.out]; simp only [HINS.out])⟩
           refine wp_region_held_drew (S := (fun w' => w'.cell? ⟨w.heap.size, 0, none⟩ = some v0 ∧ w'.cell? ⟨w2.heap.size, 0, none⟩ = some (.int .i64 x0) ∧ w'.cell? ⟨w2.heap.size, 1, none⟩ = some (.string x1) ∧ w'.cell? ⟨w2.heap.size, 2, none⟩ = some (.bool x2) ∧ w'.cell? ⟨w2.heap.size, 3, none⟩ = some (.bool x3) ∧ w'.cell? ⟨w2.heap.size, 4, none⟩ = some (.bool x4) ∧ w'.cell? ⟨w2.heap.size, 5, none⟩ = some (.int .i64 x5))) (by kernel_rfl) (by exact ⟨(blk_cell P4.out.vars.b2 0).trans rfl, row50 R4.out⟩) (fun hHeld => ?_)
           refine wpAnyH_take (i := 0) (v := ?vb1) rfl (by kernel_rfl) (by kernel_rfl) (by kernel_rfl) (fun _ _ _ h => panic_put (d := 80) (by decide) h) (Or.inl ⟨by rfl, ?yb1⟩) (by assumption) ?sb1
           case yb1 => (intro w hSw; (try dsimp only at hSw); obtain ⟨s0, s1, s2, s3, s4, s5, s6⟩ := hSw; go_simp; try with_reducible rfl)
           try simp only [Act.put, List.setIfInBounds_toArray, List.set_cons_zero, List.set_cons_succ]
           refine wpAnyH_take (i := 1) (v := ?vb2) rfl (by kernel_rfl) (by kernel_rfl) (by kernel_rfl) (fun _ _ _ h => panic_put (d := 81) (by decide) h) (Or.inl ⟨by rfl, ?yb2⟩) (by assumption) ?sb2
           case yb2 => (intro w hSw; (try dsimp only at hSw); obtain ⟨s0, s1, s2, s3, s4, s5, s6⟩ := hSw; go_simp; try with_reducible rfl)
           try simp only [Act.put, List.setIfInBounds_toArray, List.set_cons_zero, List.set_cons_succ]
           refine wpAnyH_take (i := 2) (v := ?vb3) rfl (by kernel_rfl) (by kernel_rfl) (by kernel_rfl) (fun _ _ _ h => panic_put (d := 82) (by decide) h) (Or.inl ⟨by rfl, ?yb3⟩) (by assumption) ?sb3
           case yb3 => (intro w hSw; (try dsimp only at hSw); obtain ⟨s0, s1, s2, s3, s4, s5, s6⟩ := hSw; go_simp; try with_reducible rfl)
           try simp only [Act.put, List.setIfInBounds_toArray, List.set_cons_zero, List.set_cons_succ]
           refine wpAnyH_take (i := 3) (v := ?vb4) rfl (by kernel_rfl) (by kernel_rfl) (by kernel_rfl) (fun _ _ _ h => panic_put (d := 83) (by decide) h) (Or.inl ⟨by rfl, ?yb4⟩) (by assumption) ?sb4
           case yb4 => (intro w hSw; (try dsimp only at hSw); obtain ⟨s0, s1, s2, s3, s4, s5, s6⟩ := hSw; go_simp; try with_reducible rfl)
           try simp only [Act.put, List.setIfInBounds_toArray, List.set_cons_zero, List.set_cons_succ]
           refine wpAnyH_ready (rs := [4]) (by kernel_rfl) (by simp) ?_
           refine AllReadyH.cons rfl (fun K hK => ?_) AllReadyH.nil
           go_simp
           go_at_call 40; refine (instr_bad (x0, x1, x2, x3, x4, x5) (by first | exact P4.out.rd | exact P4.out.drew.rd) HINS.out).mono ?_; rintro e w9 ⟨rfl, hC9⟩
           exact fail_at (by first | exact P4.out | exact P4.out.drew) hC9.out rfl rfl rfl HERR.out
          | ok vk =>
           obtain ⟨⟨y0, y1, y2, y3, y4⟩, k9⟩ := vk
           have HINS := Aside0.mk hins
           clear hins
           cases hw : target_words.f c y0 y1 y2 y3 y4 with
           | none =>
            exfalso
            have h1 := HF.out
            unfold codeF at h1
            rw [if_neg HS0.out, if_neg HNM.out, hr4.out, HX.out] at h1
            simp only [HINS.out, hw] at h1
            exact absurd h1 (by simp)
           | some c' =>
            have HW := Aside0.mk hw
            clear hw
            refine wp_region_noPanic ?_
            refine start_ (n := 8) (S := (fun w' => w'.cell? ⟨w.heap.size, 0, none⟩ = some v0 ∧ w'.cell? ⟨w2.heap.size, 0, none⟩ = some (.int .i64 x0) ∧ w'.cell? ⟨w2.heap.size, 1, none⟩ = some (.string x1) ∧ w'.cell? ⟨w2.heap.size, 2, none⟩ = some (.bool x2) ∧ w'.cell? ⟨w2.heap.size, 3, none⟩ = some (.bool x3) ∧ w'.cell? ⟨w2.heap.size, 4, none⟩ = some (.bool x4) ∧ w'.cell? ⟨w2.heap.size, 5, none⟩ = some (.int .i64 x5))) (ds := [7]) #[false, false, false, false, false, false, false, false] (by kernel_rfl) rfl rfl ⟨(blk_cell P4.out.vars.b2 0).trans rfl, row50 R4.out⟩ (fun hHeld => ?_)
            refine with_tabW tab18 bits18 (fun HT_ HW_ => ?_)
            have P8 := Aside0.mk P4.out.drew
            have R8 := Aside0.mk (blk_drew R4.out)
            generalize w4.drew = w8 at P8 R8 hHeld ⊢
            refine pure_ (i := 0) (N := some 80) (v := ?_) (a' := ?_) #[true, false, false, false, false, false, false, false] rfl rfl (any_of HT_.out (by kernel_rfl)) (fun _ _ _ h => h) (Or.inl ⟨by rfl, ?_⟩) ?_ ?_
            rotate_left
            ·intro w'
             go_simp
             with_reducible rfl
            rotate_left
            ·simp only [Act.put, List.setIfInBounds_toArray, List.set_cons_zero, List.set_cons_succ, i64_w, i32_w]
             rfl
            refine pure_ (i := 2) (N := some 82) (v := ?_) (a' := ?_) #[true, false, true, false, false, false, false, false] rfl rfl (any_of HT_.out (by kernel_rfl)) (fun _ _ _ h => h) (Or.inl ⟨by rfl, ?_⟩) ?_ ?_
            rotate_left
            ·intro w'
             go_simp
             with_reducible rfl
            rotate_left
            ·simp only [Act.put, List.setIfInBounds_toArray, List.set_cons_zero, List.set_cons_succ, i64_w, i32_w]
             rfl
            refine take_ (i := 1) (N := some 81) (v := ?_) (a' := ?_) #[true, true, true, false, false, false, false, false] rfl rfl (take_ofW HT_.out HW_.out (by kernel_rfl)) (fun _ _ _ h => h) (Or.inl ⟨by rfl, ?_⟩) hHeld ?_ ?_
            rotate_left
            ·rintro w' ⟨s0, s1, s2, s3, s4, s5, s6⟩
             go_simp
             with_reducible rfl
            rotate_left
            ·simp only [Act.put, List.setIfInBounds_toArray, List.set_cons_zero, List.set_cons_succ, i64_w, i32_w]
             rfl
            refine take_ (i := 3) (N := some 83) (v := ?_) (a' := ?_) #[true, true, true, true, false, false, false, false] rfl rfl (take_ofW HT_.out HW_.out (by kernel_rfl)) (fun _ _ _ h => h) (Or.inl ⟨by rfl, ?_⟩) hHeld ?_ ?_
            rotate_left
            ·rintro w' ⟨s0, s1, s2, s3, s4, s5, s6⟩
             go_simp
             with_reducible rfl
            rotate_left
            ·simp only [Act.put, List.setIfInBounds_toArray, List.set_cons_zero, List.set_cons_succ, i64_w, i32_w]
             rfl
            refine one_ (i := 4) (N := some 84) #[true, true, true, true, true, false, false, false] rfl rfl (one_of HT_.out (by kernel_rfl)) (by decide) (fun K hK => ?_)
            refine goes_ Tryd.func40 (by kernel_rfl) rfl #[.pointer (some ⟨w.heap.size + 1 + 1 + 1, 0, none⟩), .agg #[.int .i64 x0, .string x1, .bool x2, .bool x3, .bool x4, .int .i64 x5]] (by rfl) rfl rfl (by (try simp only [List.map_toArray, List.map_cons, List.map_nil]); first | done | rfl) ?_
            refine (instr_ok (x0, x1, x2, x3, x4, x5) P8.out.rd HINS.out).mono ?_
            rintro e w9 ⟨rfl, hR9, hC9⟩
            refine ⟨_, rfl, ?_⟩
            have P9 := Aside0.mk (P8.out.chg hR9.out hC9.out)
            have R9 := Aside0.mk (hC9.out.blk R8.out HRN.out)
            refine hK.out _ _ ⟨(blk_cell P9.out.vars.b2 0).trans rfl, row50 R9.out⟩ (fun hHeld => ?_)
            clear hK K
            refine norm_ (a' := ?_) ?_ ?_
            rotate_left
            ·show Act.put _ (some 84) _ = _
             simp only [Act.put, List.setIfInBounds_toArray, List.set_cons_zero, List.set_cons_succ, i64_w, i32_w]
             rfl
            refine one_ (i := 5) (N := some 85) #[true, true, true, true, true, true, false, false] rfl rfl (one_of HT_.out (by kernel_rfl)) (by decide) (fun K hK => ?_)
            refine goes_ Tryd.func30 (by kernel_rfl) rfl #[v0, .agg #[.int .i64 y0, .int .i64 y1, .int .i64 y2, .int .i64 y3, .int .i64 y4]] (by rfl) rfl rfl (by (try simp only [List.map_toArray, List.map_cons, List.map_nil]); first | done | rfl) ?_
            refine (target_words.calls (fun k => some k = v0.ownBlock) v0 c y0 y1 y2 y3 y4 c' w w9 P9.out.below (Kd.R_tight rfl P9.out.own0) HW.out).mono ?_
            rintro e w10 ⟨v10, rfl, ho, hb, hkp⟩
            refine ⟨_, rfl, ?_⟩
            obtain ⟨Ao, co, eo⟩ := Kd.R_slice ho
            subst eo
            have P11 := Aside0.mk (P9.out.code (Kd.R_mono ho (fun _ _ => trivial)) hb hkp)
            have g2 : w10.heap[w.heap.size]? = some (.cells #[v0, v1, .int .i64 v5] 35 (0, 0)) := (hkp.2 _ (blk_lt P9.out.vars.b2) (Kd.R_ne P9.out.own0 P9.out.vars.b2 (by decide))).trans P9.out.vars.b2
            have g3 : w10.heap[w2.heap.size]? = some (.cells #[.int .i64 x0, .string x1, .bool x2, .bool x3, .bool x4, .int .i64 x5] 50 (0, 0)) := (hkp.2 _ (blk_lt R9.out) (Kd.R_ne P9.out.own0 R9.out (by decide))).trans R9.out
            have hs1 : w10.cell? ⟨w.heap.size, 0, none⟩ = some v0 := (blk_cell g2 0).trans rfl
            have hfs := blk_frozen g2 0
            have hrw := row50 g3
            clear ho hb hkp g2 g3
            refine hK.out _ _ ⟨hs1, hrw⟩ (fun hHeld => ?_)
            clear hrw
            clear hK K
            refine norm_ (a' := ?_) ?_ ?_
            rotate_left
            ·show Act.put _ (some 85) _ = _
             simp only [Act.put, List.setIfInBounds_toArray, List.set_cons_zero, List.set_cons_succ, i64_w, i32_w]
             rfl
            refine pure_ (i := 6) (N := some 86) (v := ?_) (a' := ?_) #[true, true, true, true, true, true, true, false] rfl rfl (any_of HT_.out (by kernel_rfl)) (fun _ _ _ h => h) (Or.inl ⟨by rfl, ?_⟩) ?_ ?_
            rotate_left
            ·intro w'
             go_simp
             with_reducible rfl
            rotate_left
            ·simp only [Act.put, List.setIfInBounds_toArray, List.set_cons_zero, List.set_cons_succ, i64_w, i32_w]
             rfl
            refine last_ (i := 7) (N := none) #[true, true, true, true, true, true, true, true] rfl rfl (one_of HT_.out (by kernel_rfl)) (by decide) (fun K hK => ?_)
            refine skip_ (w1 := ?_) (by rfl) rfl ?_ ?_
            rotate_left
            ·go_simp
             rfl
            refine hK.out _ _ ?_
            clear hK K
            refine done_ (done_of HT_.out (by kernel_rfl)) ?_
            refine NoPanic.normal ?_
            try go_wp2_with (fail)
            go_roundg kc
            case measure => exact Nat.lt_succ_self _
            case rel =>
             exact ⟨k9, _, c', P11, ⟨by
              have h1 := HF.out
              unfold codeF at h1
              rw [if_neg HS0.out, if_neg HNM.out, hr4.out, HX.out] at h1
              simp only [HINS.out, HW.out] at h1
              exact h1⟩⟩
         ·exact fail_at P3.out hC.out rfl rfl rfl (bad_of' HF.out (by unfold codeF; rw [if_neg HS0.out, if_neg HNM.out, hr.out]))
 ·exact fail_at (P5.out.setEn v5) hC.out rfl rfl rfl (head_bad HH.out hS.out (by unfold headP; simp [hr2.out, hr4.out, hr5.out, hr.out, Except.bind]))
 ·exact fail_at P4.out hC.out rfl rfl rfl (head_bad HH.out hS.out (by unfold headP; simp [hr2.out, hr4.out, hr.out, Except.bind]))
 ·exact fail_at P2.out hC.out rfl rfl rfl (head_bad HH.out hS.out (by unfold headP; simp [hr2.out, hr.out, Except.bind]))
 ·exact fail_at P0.out hC.out rfl rfl rfl (head_bad HH.out hS.out (by unfold headP; simp [hr.out, Except.bind]))
theorem parse_calls (k : Nat) (s : ByteArray) (r : PRes) (w : World) (hE : Env w) (h : parseP k s = some r) : Calls Tryd.prog 19 #[.string s] w (PPost w r) := by
 by_cases hs : s.size ≤ 600000
 ·exact parse_short k s r w hE hs h
 ·exact parse_long k s r w hE hs h
end Go.Proofs.YtlaijeeeblcinaaDoor.A

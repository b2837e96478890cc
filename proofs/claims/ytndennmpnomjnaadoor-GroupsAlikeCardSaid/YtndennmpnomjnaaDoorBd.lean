/- What groups.Key leans on: the laid variables, the texts of numbers, the builder handed by its pointer; groups.bare, groups.end and groups.part: plain twins and contracts. -/
import Derived.Test.YtndennmpnomjnaaDoorAx0
import Derived.Test.YtndennmpnomjnaaDoorShelf
import Derived.Shelf.Strings.BuilderK
import Derived.Lib.OthersKept
import Derived.Lib.AppendIntMem
import Derived.Lib.ItoaLen
import Derived.RangeFuncNested
set_option linter.all false
set_option linter.unusedVariables false
set_option maxRecDepth 100000
namespace Go.Proofs.YtndennmpnomjnaaDoor.A
open Go.RowKit Go.Proofs.YtndennmpnomjnaaDoorW.PrintWords Go.Proofs.YtndennmpnomjnaaDoorW.PrintLast Go.Proofs.YtndennmpnomjnaaDoorW.PrintMore
set_option maxHeartbeats 4000000
/-- the laid variables hold what they were laid with -/
structure Env (w : World) : Prop where
 len : ∃ m, w.cell? ⟨0, 0, none⟩ = some (.int .i64 m)
 pow : Lib.TabIs Tryd.prog w "internal/strconv.uint64pow10" .u64 Lib.pow10Tab
 big : 6 ≤ w.heap.size
theorem cell_b {w w' : World} {B b o : Nat} {v : Value} (h : Below B w w') (hb : b < B) (hc : w.cell? ⟨b, o, none⟩ = some v) : w'.cell? ⟨b, o, none⟩ = some v := by
 have := h.block b hb
 simp only [World.cell?, this] at hc ⊢
 exact hc
theorem vars_below {B g : Nat} {W W' : World} {n : String} {cs : Array Value} (h : Below B W W') (hg : Tryd.prog.globalNamed n = some g) (hgB : g < B) (hv : W.var? Tryd.prog n = some cs) : W'.var? Tryd.prog n = some cs := by
 unfold World.var? at hv ⊢
 rw [hg] at hv ⊢
 simp only [Option.bind_some] at hv ⊢
 rw [h.block g hgB]
 exact hv
theorem Env.below {w w' : World} {B : Nat} (hE : Env w) (hb : Below B w w') (hB : 6 ≤ B) : Env w' := by
 refine ⟨?_, vars_below hb (g := 1) (by kernel_rfl) (by omega) hE.pow, Nat.le_trans hE.big hb.size⟩
 obtain ⟨m, h⟩ := hE.len
 exact ⟨m, cell_b hb (by omega) h⟩
def itoaB (n : Int) : ByteArray := ⟨(Lib.itoa n).toArray⟩
theorem itoa_calls (v : Int) (h0 : -9223372036854775808 ≤ v) (h1 : v ≤ 9223372036854775807) (w : World) (hE : Env w) :
  Calls Tryd.prog 24 #[.int .i64 v] w fun e w' => e = .returned (.string (itoaB v)) ∧ Below w.heap.size w w' := by
 refine (Tryd.strconv_Itoa v h0 h1 w hE.pow).mono ?_
 rintro e w' ⟨rfl, k, os, rfl⟩
 exact ⟨rfl, Lib.below_grow _ _ (Nat.le_refl _) _ _⟩
theorem Tryd.lays166 : Go.Proofs.Lays.n166 Tryd.prog Tryd.lays156_ren := let L := Tryd.lays156
 { mixed := L.mixed, f166 := L.f166, f240 := L.f240, f276 := L.f276, t0 := L.t0, a0 := L.a0, z0 := L.z0, v0 := L.v0, t3 := L.t3, a3 := L.a3, z3 := L.z3, v3 := L.v3, t4 := L.t4, a4 := L.a4, z4 := L.z4, v4 := L.v4, t9 := L.t9, a9 := L.a9, z9 := L.z9, v9 := L.v9, t20 := L.t20, a20 := L.a20, z20 := L.z20, v20 := L.v20, t37 := L.t37, a37 := L.a37, z37 := L.z37, v37 := L.v37, t70 := L.t70, a70 := L.a70, z70 := L.z70, v70 := L.v70, t72 := L.t72, a72 := L.a72, z72 := L.z72, v72 := L.v72, t75 := L.t75, a75 := L.a75, z75 := L.z75, v75 := L.v75, t164 := L.t164, a164 := L.a164, z164 := L.z164, v164 := L.v164 }
abbrev bc (s : ByteArray) : List Value := Lib.byteCells s.data.toList
theorem bc_app (a b : ByteArray) : bc (a ++ b) = bc a ++ bc b := by
 unfold bc
 rw [ByteArray.data_append, Array.toList_append, Lib.byteCells_append]
theorem bc_len (a : ByteArray) : (bc a).length = a.size := by
 unfold bc
 rw [Lib.byteCells_length, Array.length_toList]; rfl
abbrev IsBd (b : Nat) (acc : ByteArray) (w : World) : Prop := Lib.IsBuilderF 61 5 b b (bc acc) w
theorem ws_calls (b : Nat) (acc s : ByteArray) (w : World) (h : IsBd b acc w) (hlen : acc.size + s.size ≤ 140737488355328) (hBw : b ≤ w.heap.size) :
  Calls Tryd.prog 45 #[.pointer (some ⟨b, 0, none⟩), .string s] w fun e w' => ∃ m : Int, e = .returned (.tuple #[.int .i64 m, .nilIface]) ∧ (IsBd b (acc ++ s) w' ∧ Below b w w' ∧ Lib.OthersKept 5 (some b) w w') := by
 refine (Any.Builder_WriteString_k Tryd.lays166 Tryd.Builder_Extra_156 b b (bc acc) s w h (by rw [bc_len]; exact hlen) hBw).mono ?_
 rintro e w' ⟨rfl, h1, h2, h3⟩
 refine ⟨_, rfl, .inr ?_, h2, h3⟩
 rw [bc_app]; exact h1
theorem str_calls (b : Nat) (acc : ByteArray) (w : World) (h : IsBd b acc w) (hBw : b ≤ w.heap.size) :
  Calls Tryd.prog 26 #[.pointer (some ⟨b, 0, none⟩)] w fun e w' => e = .returned (.string acc) ∧ IsBd b acc w' ∧ Below b w w' ∧ Lib.OthersKept 5 (some b) w w' := by
 refine (Any.Builder_String_any_k Tryd.lays169 Tryd.Builder_Extra_169 b b acc.data.toList w h hBw).mono ?_
 rintro e w' ⟨rfl, h1, h2, h3⟩
 exact ⟨by rw [Array.toArray_toList], h1, h2, h3⟩
theorem IsBd.fresh (w : World) : IsBd w.heap.size ByteArray.empty (w.alloc (.cells #[.pointer none, .slice none 0 0] 61)) := Lib.IsBuilderF.of (Lib.fresh_isBuilder 61 5 w)
theorem IsBd.lt {b : Nat} {acc : ByteArray} {w : World} (h : IsBd b acc w) : b < w.heap.size := by
 rcases h with h | h
 ·exact h.lt
 ·exact h.lt
theorem IsBd.kept {b : Nat} {acc : ByteArray} {w w' : World} {row : Option Nat} (h : IsBd b acc w) (hg : w.grownBy w' row) (hr : ∀ r, row = some r → ∃ o : Obj, w.heap[r]? = some o ∧ o.isCells = false) : IsBd b acc w' := by
 have key : ∀ p, Lib.BuilderAtF 61 5 b b p (bc acc) w → Lib.BuilderAtF 61 5 b b p (bc acc) w' := by
  rintro p ⟨hB, v, hb, ho, hne⟩
  refine ⟨hB, v, ?_, ho.kept hg ?_, hne⟩
  ·rw [hg.block b (Array.getElem?_eq_some_iff.1 hb).1 ?_]
   ·exact hb
   ·intro e
    obtain ⟨o, h1, h2⟩ := hr b e.symm
    rw [hb] at h1
    cases h1; cases h2
  ·cases hv : v.ownBlock with
   | none => exact .inl rfl
   | some g =>
    refine .inr fun e => ?_
    obtain ⟨o, h1, h2⟩ := hr g e.symm
    obtain ⟨c, fz, h3⟩ := Lib.ownsRowF_kind ho g hv
    rw [h3] at h1
    cases h1; cases h2
 exact h.elim (fun x => .inl (key _ x)) (fun x => .inr (key _ x))
theorem IsBd.below {b : Nat} {acc : ByteArray} {w w' : World} (h : IsBd b acc w) (hb : Below w.heap.size w w') : IsBd b acc w' := h.kept (row := none) (grown_of_below hb none) (fun r e => by cases e)
theorem kept_below {w w' : World} {e : TypeId} {r : Option Nat} (h : Below w.heap.size w w') : Lib.OthersKept e r w w' := fun k o ho _ _ => (h.block k (Array.getElem?_eq_some_iff.1 ho).1).trans ho
/-- The text of an end. -/
def endT (e code : Int) : ByteArray :=
 if e = 1 then ⟨#[100, 111, 110, 101]⟩ else if e = 2 then ⟨#[116, 114, 97, 112, 32]⟩ ++ itoaB code else if e = 3 then ⟨#[117, 110, 100, 101, 102, 105, 110, 101, 100, 32]⟩ ++ itoaB code else if e = 4 then ⟨#[99, 117, 116]⟩ else ⟨#[111, 116, 104, 101, 114]⟩
theorem itoaB_size (n : Int) (h0 : -9223372036854775808 ≤ n) (h1 : n ≤ 9223372036854775807) : (itoaB n).size ≤ 30 := by
 unfold itoaB
 show (Lib.itoa n).toArray.size ≤ 30
 have := Lib.itoa_length_le n h0 h1
 simp only [List.size_toArray]
 omega
theorem bd_add (acc s : ByteArray) : (acc ++ s).size = acc.size + s.size := ByteArray.size_append
/-- What a write into the builder at b comes to. -/
def Wrote (b : Nat) (acc : ByteArray) (w w' : World) : Prop := IsBd b acc w' ∧ Below b w w' ∧ Lib.OthersKept 5 (some b) w w'
theorem Wrote.trans {b : Nat} {x y : ByteArray} {w w1 w2 : World} (h : Wrote b x w w1) (h' : Wrote b y w1 w2) : Wrote b y w w2 := ⟨h'.1, h.2.1.trans h'.2.1, h.2.2.trans h'.2.2⟩
theorem Wrote.grow {b : Nat} {x : ByteArray} {w w1 : World} (h : IsBd b x w) (hb : Below w.heap.size w w1) (hB : b ≤ w.heap.size) : Wrote b x w w1 := ⟨h.below hb, hb.mono hB, kept_below hb⟩
theorem write_calls (b : Nat) (acc s : ByteArray) (w w1 : World) (h : Wrote b acc w w1) (hlen : acc.size + s.size ≤ 140737488355328) (hBw : b ≤ w.heap.size) :
  Calls Tryd.prog 45 #[.pointer (some ⟨b, 0, none⟩), .string s] w1 fun e w' => ∃ m : Int, e = .returned (.tuple #[.int .i64 m, .nilIface]) ∧ Wrote b (acc ++ s) w w' := by
 refine (ws_calls b acc s w1 h.1 hlen (Nat.le_trans hBw h.2.1.size)).mono ?_
 rintro e w' ⟨m, rfl, h1⟩
 exact ⟨m, rfl, h.trans h1⟩
theorem end_calls (b : Nat) (acc : ByteArray) (A : Option Addr) (n c : Nat) (e code : Int) (w : World) (h : IsBd b acc w) (hE : Env w) (hBw : b ≤ w.heap.size) (hlen : acc.size ≤ 1000000000) (hc0 : -9223372036854775808 ≤ code) (hc1 : code ≤ 9223372036854775807) :
  Calls Tryd.prog 47 #[.pointer (some ⟨b, 0, none⟩), .agg #[.slice A n c, .int .i64 e, .int .i64 code]] w fun r w' => r = .returned (.tuple #[]) ∧ Wrote b (acc ++ endT e code) w w' := by
 by_cases c1 : e = 1
 ·subst c1
  rw [show endT 1 code = ⟨#[100, 111, 110, 101]⟩ from rfl]
  have HW := Aside0.mk (fun (o : Obj) => write_calls b acc ⟨#[100, 111, 110, 101]⟩ w (w.alloc o) (Wrote.grow h (below_alloc (Below.refl _ _) o) hBw) (by show _ + 4 ≤ _; omega) hBw)
  go_enter Tryd.func47, Tryd.ntmps47
  go_wp2_with (go_at_call 45; refine (HW.out _).mono ?_; rintro e w3 ⟨m, rfl, hwr⟩)
  go_end0
  exact ⟨rfl, hwr⟩
 by_cases c2 : e = 2
 ·subst c2
  rw [show endT 2 code = ⟨#[116, 114, 97, 112, 32]⟩ ++ itoaB code from rfl]
  have hi := fun o => itoa_calls code hc0 hc1 (w.alloc o) (hE.below (below_alloc (Below.refl _ _) o) hE.big)
  have HI := Aside0.mk hi
  have HW := Aside0.mk (fun (o : Obj) (w2 : World) (hb2 : Below (w.alloc o).heap.size (w.alloc o) w2) => write_calls b acc (⟨#[116, 114, 97, 112, 32]⟩ ++ itoaB code) w w2 ((Wrote.grow h (below_alloc (Below.refl _ _) o) hBw).trans (Wrote.grow ((h.below (below_alloc (Below.refl _ _) o))) hb2 (Nat.le_trans hBw (below_alloc (Below.refl _ _) o).size))) (by have := itoaB_size code hc0 hc1; rw [bd_add]; show _ + (5 + _) ≤ _; omega) hBw)
  have hsz : ¬ (9223372036854775807 < ((⟨#[116, 114, 97, 112, 32]⟩ : ByteArray) ++ itoaB code).size) := by have := itoaB_size code hc0 hc1; rw [bd_add]; show ¬ (_ < 5 + _); omega
  have hsz2 : ¬ (9223372036854775807 < 5 + (itoaB code).size) := by have := itoaB_size code hc0 hc1; omega
  clear hi hc0 hc1
  go_enter Tryd.func47, Tryd.ntmps47
  go_wp2_with (first | (go_at_call 24; refine (HI.out _).mono ?_; rintro e w2 ⟨rfl, hb2⟩) | (go_at_call 45; refine (HW.out _ _ hb2).mono ?_; rintro e w3 ⟨m, rfl, hwr⟩))
  go_end0
  exact ⟨rfl, hwr⟩
 by_cases c3 : e = 3
 ·subst c3
  rw [show endT 3 code = ⟨#[117, 110, 100, 101, 102, 105, 110, 101, 100, 32]⟩ ++ itoaB code from rfl]
  have hi := fun o => itoa_calls code hc0 hc1 (w.alloc o) (hE.below (below_alloc (Below.refl _ _) o) hE.big)
  have HI := Aside0.mk hi
  have HW := Aside0.mk (fun (o : Obj) (w2 : World) (hb2 : Below (w.alloc o).heap.size (w.alloc o) w2) => write_calls b acc (⟨#[117, 110, 100, 101, 102, 105, 110, 101, 100, 32]⟩ ++ itoaB code) w w2 ((Wrote.grow h (below_alloc (Below.refl _ _) o) hBw).trans (Wrote.grow ((h.below (below_alloc (Below.refl _ _) o))) hb2 (Nat.le_trans hBw (below_alloc (Below.refl _ _) o).size))) (by have := itoaB_size code hc0 hc1; rw [bd_add]; show _ + (10 + _) ≤ _; omega) hBw)
  have hsz : ¬ (9223372036854775807 < ((⟨#[117, 110, 100, 101, 102, 105, 110, 101, 100, 32]⟩ : ByteArray) ++ itoaB code).size) := by have := itoaB_size code hc0 hc1; rw [bd_add]; show ¬ (_ < 10 + _); omega
  have hsz2 : ¬ (9223372036854775807 < 10 + (itoaB code).size) := by have := itoaB_size code hc0 hc1; omega
  clear hi hc0 hc1
  go_enter Tryd.func47, Tryd.ntmps47
  go_wp2_with (first | (go_at_call 24; refine (HI.out _).mono ?_; rintro e w2 ⟨rfl, hb2⟩) | (go_at_call 45; refine (HW.out _ _ hb2).mono ?_; rintro e w3 ⟨m, rfl, hwr⟩))
  go_end0
  exact ⟨rfl, hwr⟩
 by_cases c4 : e = 4
 ·subst c4
  rw [show endT 4 code = ⟨#[99, 117, 116]⟩ from rfl]
  have HW := Aside0.mk (fun (o : Obj) => write_calls b acc ⟨#[99, 117, 116]⟩ w (w.alloc o) (Wrote.grow h (below_alloc (Below.refl _ _) o) hBw) (by show _ + 3 ≤ _; omega) hBw)
  go_enter Tryd.func47, Tryd.ntmps47
  go_wp2_with (go_at_call 45; refine (HW.out _).mono ?_; rintro e w3 ⟨m, rfl, hwr⟩)
  go_end0
  exact ⟨rfl, hwr⟩
 have e0 : endT e code = ⟨#[111, 116, 104, 101, 114]⟩ := by unfold endT; rw [if_neg c1, if_neg c2, if_neg c3, if_neg c4]
 rw [e0]
 have HW := Aside0.mk (fun (o : Obj) => write_calls b acc ⟨#[111, 116, 104, 101, 114]⟩ w (w.alloc o) (Wrote.grow h (below_alloc (Below.refl _ _) o) hBw) (by show _ + 5 ≤ _; omega) hBw)
 have d1 : (e == 1) = false := by simpa using c1
 have d2 : (e == 2) = false := by simpa using c2
 have d3 : (e == 3) = false := by simpa using c3
 have d4 : (e == 4) = false := by simpa using c4
 go_enter Tryd.func47, Tryd.ntmps47
 go_wp2_with (go_at_call 45; refine (HW.out _).mono ?_; rintro e w3 ⟨m, rfl, hwr⟩)
 go_end0
 exact ⟨rfl, hwr⟩
end Go.Proofs.YtndennmpnomjnaaDoor.A

/- What the condition on the two laid variables gives a walk: the tables lie in blocks 0 and 1. -/
import Derived.Test.YtlaijeeeblcinaaDoorRows
import Derived.Test.YtlaijeeeblcinaaDoorTgtTab
import Derived.Lib.LaidTab
import Derived.LaidLaws
import Derived.ChangeArms
set_option linter.all false
set_option linter.unusedVariables false
set_option linter.unusedSimpArgs false
set_option maxRecDepth 100000
namespace Go.Proofs.YtlaijeeeblcinaaDoor.A
open Go.RowKit Go.Lib
theorem cells1 : Tryd.prog.cellsOf 3 = 1 ∧ Tryd.prog.cellsOf 4 = 1 ∧ Tryd.prog.cellsOf 9 = 1 ∧ Tryd.prog.cellsOf 50 = 6 ∧ Tryd.prog.cellsOf 97 = 84 ∧ Tryd.prog.cellsOf 98 = 14 := by
 refine ⟨?_, ?_, ?_, ?_, ?_, ?_⟩ <;> kernel_rfl
section
variable {H : Type} {enc : TypeId × Value → H} {w : World} {base : Nat} {sp : Nat → Bool} {held : Bool}
theorem trod_str {fuel : Nat} {cs : List Value} {s : List UInt8} {p : List MemPlace} (h : DataW.trod enc Tryd.prog w base sp held fuel 9 cs = some (.lit (.string s), p)) : cs = [.string ⟨s.toArray⟩] := by
 cases fuel with
 | zero => simp [DataW.trod] at h
 | succ fuel =>
  simp only [DataW.trod, Tryd.underlying9] at h
  split at h <;> simp_all
  all_goals (obtain ⟨_, h1, _⟩ := h; subst h1; rfl)
theorem trod_row {fuel : Nat} {cs : List Value} {a c : Int} {s : List UInt8} {b1 b2 b3 : Bool} {p : List MemPlace}
  (h : DataW.trod enc Tryd.prog w base sp held fuel 50 cs = some (.agg [.lit (.int .i64 a), .lit (.string s), .lit (.bool b1), .lit (.bool b2), .lit (.bool b3), .lit (.int .i64 c)], p)) (hl : cs.length = 6) :
  cs = [.int .i64 a, .string ⟨s.toArray⟩, .bool b1, .bool b2, .bool b3, .int .i64 c] := by
 obtain ⟨x0, x1, x2, x3, x4, x5, rfl⟩ : ∃ x0 x1 x2 x3 x4 x5, cs = [x0, x1, x2, x3, x4, x5] := by
  match cs, hl with
  | [x0, x1, x2, x3, x4, x5], _ => exact ⟨_, _, _, _, _, _, rfl⟩
 obtain ⟨e3, e4, e9, e113, _, _⟩ := cells1
 cases fuel with
 | zero => simp [DataW.trod] at h
 | succ fuel =>
  simp only [DataW.trod, Tryd.underlying50, e113] at h
  rw [if_pos hl] at h
  obtain ⟨xs, hm, hx⟩ := Option.map_eq_some_iff.1 h
  have hxs := congrArg Prod.fst hx
  simp only [DataW.agg.injEq] at hxs
  have hat : ∀ (i : Nat) (b : DataW H × List MemPlace), xs[i]? = some b → [DataW.lit (.int .i64 a), .lit (.string s), .lit (.bool b1), .lit (.bool b2), .lit (.bool b3), .lit (.int .i64 c)][i]? = some b.1 := fun i b hb => by
   rw [← hxs, List.getElem?_map, hb]; rfl
  obtain ⟨y0, hy0, hf0⟩ := mapM_at hm 0 _ rfl
  obtain ⟨n0, hc0, rfl, _⟩ := DataW.trod_int Tryd.underlying3 hf0
  have hv0 := hat 0 _ hy0
  simp only [e3, List.drop_succ_cons, List.drop_zero, List.take_succ_cons, List.take_zero, List.cons.injEq, and_true] at hc0
  have hw0 : n0 = a := by simpa using hv0.symm
  subst hw0
  subst hc0
  obtain ⟨y1, hy1, hf1⟩ := mapM_at hm 1 _ rfl
  obtain ⟨z1, p1⟩ := y1
  have hv1 := hat 1 _ hy1
  have hw1 : DataW.lit (.string s) = z1 := by simpa using hv1
  subst hw1
  have hc1 := trod_str hf1
  simp only [e9, List.drop_succ_cons, List.drop_zero, List.take_succ_cons, List.take_zero, List.cons.injEq, and_true] at hc1
  subst hc1
  obtain ⟨y2, hy2, hf2⟩ := mapM_at hm 2 _ rfl
  obtain ⟨n2, hc2, rfl⟩ := DataW.trod_bool Tryd.underlying4 hf2
  have hv2 := hat 2 _ hy2
  simp only [e4, List.drop_succ_cons, List.drop_zero, List.take_succ_cons, List.take_zero, List.cons.injEq, and_true] at hc2
  have hw2 : n2 = b1 := by simpa using hv2.symm
  subst hw2
  subst hc2
  obtain ⟨y3, hy3, hf3⟩ := mapM_at hm 3 _ rfl
  obtain ⟨n3, hc3, rfl⟩ := DataW.trod_bool Tryd.underlying4 hf3
  have hv3 := hat 3 _ hy3
  simp only [e4, List.drop_succ_cons, List.drop_zero, List.take_succ_cons, List.take_zero, List.cons.injEq, and_true] at hc3
  have hw3 : n3 = b2 := by simpa using hv3.symm
  subst hw3
  subst hc3
  obtain ⟨y4, hy4, hf4⟩ := mapM_at hm 4 _ rfl
  obtain ⟨n4, hc4, rfl⟩ := DataW.trod_bool Tryd.underlying4 hf4
  have hv4 := hat 4 _ hy4
  simp only [e4, List.drop_succ_cons, List.drop_zero, List.take_succ_cons, List.take_zero, List.cons.injEq, and_true] at hc4
  have hw4 : n4 = b3 := by simpa using hv4.symm
  subst hw4
  subst hc4
  obtain ⟨y5, hy5, hf5⟩ := mapM_at hm 5 _ rfl
  obtain ⟨n5, hc5, rfl, _⟩ := DataW.trod_int Tryd.underlying3 hf5
  have hv5 := hat 5 _ hy5
  simp only [e3, List.drop_succ_cons, List.drop_zero, List.take_succ_cons, List.take_zero, List.cons.injEq, and_true] at hc5
  have hw5 : n5 = c := by simpa using hv5.symm
  subst hw5
  subst hc5
  rfl
theorem take_chunks {α : Type} (m : Nat) (cs : List α) : ∀ n, cs.take (n * m) = ((List.range n).map fun i => (cs.drop (i * m)).take m).flatten
 | 0 => by simp
 | n + 1 => by
  rw [List.range_succ, List.map_append, List.flatten_append, ← take_chunks m cs n, Nat.succ_mul, List.take_add]
  simp
theorem eq_of_chunks {α : Type} {m n : Nat} {cs ds : List α} (hc : cs.length = n * m) (hd : ds.length = n * m) (h : ∀ i, i < n → (cs.drop (i * m)).take m = (ds.drop (i * m)).take m) : cs = ds := by
 have h1 := take_chunks m cs n
 have h2 := take_chunks m ds n
 rw [← hc, List.take_length] at h1
 rw [← hd, List.take_length] at h2
 rw [h1, h2]
 congr 1
 exact List.map_congr_left fun i hi => h i (List.mem_range.1 hi)
def tableD {H : Type} : List (DataW H) := [.agg [.lit (.int .i64 1), .lit (.string [109, 111, 118, 101]), .lit (.bool true), .lit (.bool true), .lit (.bool false), .lit (.int .i64 0)], .agg [.lit (.int .i64 2), .lit (.string [115, 101, 116]), .lit (.bool true), .lit (.bool false), .lit (.bool false), .lit (.int .i64 1)], .agg [.lit (.int .i64 3), .lit (.string [119, 105, 100, 101]), .lit (.bool true), .lit (.bool false), .lit (.bool false), .lit (.int .i64 2)], .agg [.lit (.int .i64 4), .lit (.string [108, 111, 97, 100]), .lit (.bool true), .lit (.bool true), .lit (.bool false), .lit (.int .i64 1)], .agg [.lit (.int .i64 5), .lit (.string [115, 116, 111, 114, 101]), .lit (.bool false), .lit (.bool true), .lit (.bool true), .lit (.int .i64 1)], .agg [.lit (.int .i64 6), .lit (.string [106, 117, 109, 112]), .lit (.bool false), .lit (.bool false), .lit (.bool false), .lit (.int .i64 3)], .agg [.lit (.int .i64 7), .lit (.string [122, 101, 114, 111]), .lit (.bool false), .lit (.bool true), .lit (.bool false), .lit (.int .i64 3)], .agg [.lit (.int .i64 8), .lit (.string [99, 104, 101, 99, 107]), .lit (.bool false), .lit (.bool true), .lit (.bool true), .lit (.int .i64 0)], .agg [.lit (.int .i64 9), .lit (.string [99, 104, 101, 99, 107, 105]), .lit (.bool false), .lit (.bool true), .lit (.bool false), .lit (.int .i64 1)], .agg [.lit (.int .i64 10), .lit (.string [112, 114, 105, 110, 116]), .lit (.bool false), .lit (.bool true), .lit (.bool false), .lit (.int .i64 0)], .agg [.lit (.int .i64 11), .lit (.string [99, 97, 108, 108]), .lit (.bool false), .lit (.bool false), .lit (.bool false), .lit (.int .i64 3)], .agg [.lit (.int .i64 12), .lit (.string [114, 101, 116, 117, 114, 110]), .lit (.bool false), .lit (.bool false), .lit (.bool false), .lit (.int .i64 0)], .agg [.lit (.int .i64 13), .lit (.string [116, 114, 97, 112]), .lit (.bool false), .lit (.bool false), .lit (.bool false), .lit (.int .i64 0)], .agg [.lit (.int .i64 14), .lit (.string [104, 97, 108, 116]), .lit (.bool false), .lit (.bool false), .lit (.bool false), .lit (.int .i64 0)]]
def binaryD {H : Type} : List (DataW H) := [.lit (.string [97, 100, 100]), .lit (.string [115, 117, 98]), .lit (.string [109, 117, 108]), .lit (.string [100, 105, 118]), .lit (.string [114, 101, 109]), .lit (.string [97, 110, 100]), .lit (.string [111, 114]), .lit (.string [120, 111, 114]), .lit (.string [115, 104, 108]), .lit (.string [115, 104, 114]), .lit (.string [101, 113]), .lit (.string [110, 101]), .lit (.string [108, 116]), .lit (.string [108, 101])]
theorem tableD_is {H : Type} : (Rows.laid_cupel_target_table : DataW H) = .agg tableD := rfl
theorem binaryD_is {H : Type} : (Rows.laid_cupel_target_binary : DataW H) = .agg binaryD := rfl
theorem trod_table {fuel : Nat} {cs : List Value} {p : List MemPlace} (h : DataW.trod enc Tryd.prog w base sp held fuel 97 cs = some (Rows.laid_cupel_target_table, p)) : cs = tableCells.toList := by
 rw [tableD_is] at h
 obtain ⟨_, _, _, e113, e124, _⟩ := cells1
 cases fuel with
 | zero => simp [DataW.trod] at h
 | succ fuel =>
  simp only [DataW.trod, Tryd.underlying97, e124, e113] at h
  by_cases hl : cs.length = 84
  ·rw [if_pos hl] at h
   obtain ⟨xs, hm, hx⟩ := Option.map_eq_some_iff.1 h
   have hxs := congrArg Prod.fst hx
   simp only [DataW.agg.injEq] at hxs
   have hat : ∀ (i : Nat) (b : DataW H × List MemPlace), xs[i]? = some b → (tableD : List (DataW H))[i]? = some b.1 := fun i b hb => by
    rw [← hxs, List.getElem?_map, hb]; rfl
   refine eq_of_chunks (m := 6) (n := 14) hl rfl (fun i hi => ?_)
   obtain ⟨⟨z, q⟩, hy, hf⟩ := mapM_at hm i i (by simp [hi])
   have hv := hat i _ hy
   have hlen : ((cs.drop (i * 6)).take 6).length = 6 := by rw [List.length_take, List.length_drop]; omega
   match i, hi with
   | 0, _ => obtain rfl := Option.some.inj hv; exact trod_row hf hlen
   | 1, _ => obtain rfl := Option.some.inj hv; exact trod_row hf hlen
   | 2, _ => obtain rfl := Option.some.inj hv; exact trod_row hf hlen
   | 3, _ => obtain rfl := Option.some.inj hv; exact trod_row hf hlen
   | 4, _ => obtain rfl := Option.some.inj hv; exact trod_row hf hlen
   | 5, _ => obtain rfl := Option.some.inj hv; exact trod_row hf hlen
   | 6, _ => obtain rfl := Option.some.inj hv; exact trod_row hf hlen
   | 7, _ => obtain rfl := Option.some.inj hv; exact trod_row hf hlen
   | 8, _ => obtain rfl := Option.some.inj hv; exact trod_row hf hlen
   | 9, _ => obtain rfl := Option.some.inj hv; exact trod_row hf hlen
   | 10, _ => obtain rfl := Option.some.inj hv; exact trod_row hf hlen
   | 11, _ => obtain rfl := Option.some.inj hv; exact trod_row hf hlen
   | 12, _ => obtain rfl := Option.some.inj hv; exact trod_row hf hlen
   | 13, _ => obtain rfl := Option.some.inj hv; exact trod_row hf hlen
  ·rw [if_neg hl] at h
   cases h
theorem trod_binary {fuel : Nat} {cs : List Value} {p : List MemPlace} (h : DataW.trod enc Tryd.prog w base sp held fuel 98 cs = some (Rows.laid_cupel_target_binary, p)) : cs = operationsCells.toList := by
 rw [binaryD_is] at h
 obtain ⟨_, _, e9, _, _, e116⟩ := cells1
 cases fuel with
 | zero => simp [DataW.trod] at h
 | succ fuel =>
  simp only [DataW.trod, Tryd.underlying98, e116, e9] at h
  by_cases hl : cs.length = 14
  ·rw [if_pos hl] at h
   obtain ⟨xs, hm, hx⟩ := Option.map_eq_some_iff.1 h
   have hxs := congrArg Prod.fst hx
   simp only [DataW.agg.injEq] at hxs
   have hat : ∀ (i : Nat) (b : DataW H × List MemPlace), xs[i]? = some b → (binaryD : List (DataW H))[i]? = some b.1 := fun i b hb => by
    rw [← hxs, List.getElem?_map, hb]; rfl
   refine eq_of_chunks (m := 1) (n := 14) (by omega) rfl (fun i hi => ?_)
   obtain ⟨⟨z, q⟩, hy, hf⟩ := mapM_at hm i i (by simp [hi])
   have hv := hat i _ hy
   match i, hi with
   | 0, _ => obtain rfl := Option.some.inj hv; exact trod_str hf
   | 1, _ => obtain rfl := Option.some.inj hv; exact trod_str hf
   | 2, _ => obtain rfl := Option.some.inj hv; exact trod_str hf
   | 3, _ => obtain rfl := Option.some.inj hv; exact trod_str hf
   | 4, _ => obtain rfl := Option.some.inj hv; exact trod_str hf
   | 5, _ => obtain rfl := Option.some.inj hv; exact trod_str hf
   | 6, _ => obtain rfl := Option.some.inj hv; exact trod_str hf
   | 7, _ => obtain rfl := Option.some.inj hv; exact trod_str hf
   | 8, _ => obtain rfl := Option.some.inj hv; exact trod_str hf
   | 9, _ => obtain rfl := Option.some.inj hv; exact trod_str hf
   | 10, _ => obtain rfl := Option.some.inj hv; exact trod_str hf
   | 11, _ => obtain rfl := Option.some.inj hv; exact trod_str hf
   | 12, _ => obtain rfl := Option.some.inj hv; exact trod_str hf
   | 13, _ => obtain rfl := Option.some.inj hv; exact trod_str hf
  ·rw [if_neg hl] at h
   cases h
end
end Go.Proofs.YtlaijeeeblcinaaDoor.A

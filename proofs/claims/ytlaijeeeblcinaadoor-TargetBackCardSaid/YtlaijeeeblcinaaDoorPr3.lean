/- target.Print: the iterator over the instructions of words once more (what the rounds keep), the builder, and the contract of Print's call. -/
import Derived.Test.YtlaijeeeblcinaaDoorPr0
import Derived.RangeFuncNested
import Derived.Test.YtlaijeeeblcinaaDoorEv2
import Derived.Test.YtlaijeeeblcinaaDoorCx6
import Derived.Shelf.Strings.BuilderK
import Derived.RangeFuncBound
import Derived.RangeFuncCalls
import Derived.RangeFuncLeaves
import Derived.Shelf.Abstract
import Derived.Shelf.RegionOpen
import Derived.WalkKit
import Derived.OwnWalkIn
import Derived.TacticsInMore
import Derived.LoopNIn
import Derived.LoopIn
import Derived.Sort.LoopGhostIn
set_option linter.all false
set_option linter.unusedVariables false
set_option maxRecDepth 100000
namespace Go.Proofs.YtlaijeeeblcinaaDoor.A
open Go.RowKit Go.Shelf Go.Proofs.YtlaijeeeblcinaaDoorW.PrintWords Go.Proofs.YtlaijeeeblcinaaDoorW.PrintLast Go.Proofs.YtlaijeeeblcinaaDoorW.PrintMore
attribute [local go_sem] Oper.semAt_some
set_option maxHeartbeats 8000000
theorem Tryd.lays166 : Go.Proofs.Lays.n166 Tryd.prog Tryd.lays156_ren := let L := Tryd.lays156
 { mixed := L.mixed, f166 := L.f166, f240 := L.f240, f276 := L.f276, t0 := L.t0, a0 := L.a0, z0 := L.z0, v0 := L.v0, t3 := L.t3, a3 := L.a3, z3 := L.z3, v3 := L.v3, t4 := L.t4, a4 := L.a4, z4 := L.z4, v4 := L.v4, t9 := L.t9, a9 := L.a9, z9 := L.z9, v9 := L.v9, t20 := L.t20, a20 := L.a20, z20 := L.z20, v20 := L.v20, t37 := L.t37, a37 := L.a37, z37 := L.z37, v37 := L.v37, t70 := L.t70, a70 := L.a70, z70 := L.z70, v70 := L.v70, t72 := L.t72, a72 := L.a72, z72 := L.z72, v72 := L.v72, t75 := L.t75, a75 := L.a75, z75 := L.z75, v75 := L.v75, t164 := L.t164, a164 := L.a164, z164 := L.z164, v164 := L.v164 }
abbrev bc (s : ByteArray) : List Value := Lib.byteCells s.data.toList
theorem bc_app (a b : ByteArray) : bc (a ++ b) = bc a ++ bc b := by
 unfold bc
 rw [ByteArray.data_append, Array.toList_append, Lib.byteCells_append]
theorem bc_len (a : ByteArray) : (bc a).length = a.size := by
 unfold bc
 rw [Lib.byteCells_length, Array.length_toList]; rfl
abbrev IsBd (b : Nat) (acc : ByteArray) (w : World) : Prop := Lib.IsBuilderF 87 5 b b (bc acc) w
theorem ws_calls (b : Nat) (acc s : ByteArray) (w : World) (h : IsBd b acc w) (hlen : acc.size + s.size ≤ 140737488355328) (hBw : b ≤ w.heap.size) :
  Calls Tryd.prog 48 #[.pointer (some ⟨b, 0, none⟩), .string s] w fun e w' => ∃ m : Int, e = .returned (.tuple #[.int .i64 m, .nilIface]) ∧ (IsBd b (acc ++ s) w' ∧ Below b w w' ∧ Lib.OthersKept 5 (some b) w w') := by
 refine (Any.Builder_WriteString_k Tryd.lays166 Tryd.Builder_Extra_156 b b (bc acc) s w h (by rw [bc_len]; exact hlen) hBw).mono ?_
 rintro e w' ⟨rfl, h1, h2, h3⟩
 refine ⟨_, rfl, .inr ?_, h2, h3⟩
 rw [bc_app]; exact h1
theorem str_calls (b : Nat) (acc : ByteArray) (w : World) (h : IsBd b acc w) (hBw : b ≤ w.heap.size) :
  Calls Tryd.prog 52 #[.pointer (some ⟨b, 0, none⟩)] w fun e w' => e = .returned (.string acc) ∧ Below b w w' ∧ Lib.OthersKept 5 (some b) w w' := by
 refine (Any.Builder_String_any_k Tryd.lays169 Tryd.Builder_Extra_169 b b acc.data.toList w h hBw).mono ?_
 rintro e w' ⟨rfl, _, h2, h3⟩
 exact ⟨by rw [Array.toArray_toList], h2, h3⟩
theorem IsBd.fresh (w : World) : IsBd w.heap.size ByteArray.empty (w.alloc (.cells #[.pointer none, .slice none 0 0] 87)) := Lib.IsBuilderF.of (Lib.fresh_isBuilder 87 5 w)
theorem IsBd.lt {b : Nat} {acc : ByteArray} {w : World} (h : IsBd b acc w) : b < w.heap.size := by
 rcases h with h | h
 ·exact h.lt
 ·exact h.lt
theorem IsBd.kept {b : Nat} {acc : ByteArray} {w w' : World} {row : Option Nat} (h : IsBd b acc w) (hg : w.grownBy w' row) (hr : ∀ r, row = some r → ∃ o : Obj, w.heap[r]? = some o ∧ o.isCells = false) : IsBd b acc w' := by
 have key : ∀ p, Lib.BuilderAtF 87 5 b b p (bc acc) w → Lib.BuilderAtF 87 5 b b p (bc acc) w' := by
  rintro p ⟨hB, v, hb, ho, hne⟩
  refine ⟨hB, v, ?_, ho.kept hg ?_, hne⟩
  ·rw [hg.block b (Array.getElem?_eq_some_iff.1 hb).1 ?_]
   ·exact hb
   ·intro e
    obtain ⟨o, h1, h2⟩ := hr b e.symm
    rw [hb] at h1
    cases h1; cases h2
  ·cases hv : v.ownBlock with
   | none => exact .inl rfl
   | some g =>
    refine .inr fun e => ?_
    obtain ⟨o, h1, h2⟩ := hr g e.symm
    obtain ⟨c, fz, h3⟩ := Lib.ownsRowF_kind ho g hv
    rw [h3] at h1
    cases h1; cases h2
 exact h.elim (fun x => .inl (key _ x)) (fun x => .inr (key _ x))
theorem IsBd.below {b : Nat} {acc : ByteArray} {w w' : World} (h : IsBd b acc w) (hb : Below w.heap.size w w') : IsBd b acc w' := h.kept (grown_of_below hb) (fun r e => by cases e)
theorem IsBd.cells {b : Nat} {acc : ByteArray} {w : World} (h : IsBd b acc w) : ∃ cs T fz, w.heap[b]? = some (.cells cs T fz) := by
 rcases h with ⟨_, v, hb, _⟩ | ⟨_, v, hb, _⟩ <;> exact ⟨_, _, _, hb⟩
theorem kept_other {b : Nat} {acc : ByteArray} {w w' : World} (h : IsBd b acc w) (hk : Lib.OthersKept 5 (some b) w w') {k : Nat} {o : Obj} (ho : w.heap[k]? = some o) (hc : o.isCells = false) : w'.heap[k]? = some o := by
 refine hk k o ho (fun e => ?_) (fun c fz e => by rw [e] at hc; cases hc)
 obtain ⟨cs, T, fz, hb⟩ := h.cells
 rw [Option.some.inj e, hb] at ho
 cases ho; cases hc
theorem kf_write {B b : Nat} {acc : ByteArray} {w w' : World} (h : IsBd b acc w) (hb : Below b w w') (hk : Lib.OthersKept 5 (some b) w w') : KeepsFrom B w w' := ⟨hb.size, fun k o _ ho hc => kept_other h hk ho hc⟩
def wrB (acc s : ByteArray) : Option ByteArray := if acc.size + s.size ≤ 140737488355328 then some (acc ++ s) else none
def entryT (n : ByteArray) : ByteArray := ⟨#[101, 110, 116, 114, 121, 32]⟩ ++ n ++ ⟨#[59, 10]⟩
def dataL (n : ByteArray) : ByteArray := ⟨#[100, 97, 116, 97, 32]⟩ ++ n ++ ⟨#[59, 10]⟩
def dataT : List Int → ByteArray → Option ByteArray
 | [], acc => some acc
 | v :: l, acc => (et_Itoa.f v).bind fun n => (wrB acc (dataL n)).bind fun a => dataT l a
def lineB (k : Nat) (x : Item) : Option ByteArray := target_line.f k x.1 x.2.1 x.2.2.1 x.2.2.2.1 x.2.2.2.2.1
def okLine (k : Nat) (x : Item) : Bool := match lineB k x with
 | some s => decide (s.size ≤ 1000)
 | none => false
def outB (k : Nat) (xs : List Item) (acc : ByteArray) : ByteArray := xs.foldl (fun a x => a ++ (lineB k x).getD ByteArray.empty) acc
def target_Print.f (k : Nat) (code data : List Int) (entry : Int) : Option (ByteArray × Int) :=
 (et_Check.f k code data entry).bind fun e => if e = 0 then (et_Itoa.f entry).bind fun n => (wrB ByteArray.empty (entryT n)).bind fun a0 => (dataT data a0).bind fun a1 => (itemsF k code 0).bind fun xs => if a1.size ≤ 1000000000 ∧ xs.length ≤ 100000 ∧ xs.all (okLine k) = true then some (outB k xs a1, 0) else none else some (⟨#[]⟩, e)
theorem okLine_some {k : Nat} {x : Item} (h : okLine k x = true) : ∃ s, lineB k x = some s ∧ s.size ≤ 1000 := by
 unfold okLine at h
 cases e : lineB k x with
 | none => rw [e] at h; cases h
 | some s => rw [e] at h; exact ⟨s, rfl, of_decide_eq_true h⟩
theorem outB_snoc (k : Nat) (xs : List Item) (x : Item) (acc : ByteArray) : outB k (xs ++ [x]) acc = outB k xs acc ++ (lineB k x).getD ByteArray.empty := by
 unfold outB; rw [List.foldl_append]; rfl
theorem outB_size (k : Nat) (xs : List Item) (h : ∀ x ∈ xs, okLine k x = true) (acc : ByteArray) : (outB k xs acc).size ≤ acc.size + 1000 * xs.length := by
 induction xs generalizing acc with
 | nil => exact Nat.le_refl _
 | cons x xs ih =>
  obtain ⟨s, e, hs⟩ := okLine_some (h x List.mem_cons_self)
  have := ih (fun y hy => h y (List.mem_cons_of_mem _ hy)) (acc ++ (lineB k x).getD ByteArray.empty)
  rw [e] at this
  simp only [Option.getD_some, ByteArray.size_append] at this
  show (outB k xs (acc ++ (lineB k x).getD ByteArray.empty)).size ≤ _
  rw [e]
  simp only [Option.getD_some, List.length_cons]
  omega
/-- the iterator, for the elements that come -/
theorem all_seq (n Bn : Nat) (wb W0 : World) (A0 : Option Addr) (c0 : Nat) (code : List Int) (k : Nat) (xs : List Item) (hd : itemsF k code 0 = some xs) (hc0 : code.length ≤ c0)
  (hC : Kd.C (Kd.int .u64) wb A0 code.length code) (hT : Tab wb) (hB : Below wb.heap.size wb W0) (hBn : W0.heap[Bn]? = some (.cells #[.slice A0 code.length c0] 27 (0, 0))) :
  SeqStopsK Fence.wide n Tryd.prog 57 #[.pointer (some ⟨Bn, 0, none⟩)] (fun y : {y : Item // y ∈ xs} => encI y.1) (KP wb.heap.size Bn (.cells #[.slice A0 code.length c0] 27 (0, 0))) (fun ys => ys.map (·.1) = xs) (fun pre => pre.map (·.1) <+: xs) xs.length W0 := by
 intro l J Jx W hW hJ hJx hY hJ0
 refine (all1_K n l Bn wb A0 c0 code k xs (fun p A => ∃ q : List {y : Item // y ∈ xs}, q.map (·.1) = p ∧ J q A) (fun p A => ∃ q : List {y : Item // y ∈ xs}, q.map (·.1) = p ∧ Jx q A) hd hc0 hC hT W ?_ ?_ (hB.trans (hW.mono hB.size)) (blk_below hBn hW) ⟨[], rfl, hJ0⟩).mono ?_
 ·rintro s A B row ⟨q, hq, hj⟩ hg hr
  exact ⟨q, hq, hJ q A B row hj hg hr⟩
 ·rintro pre x A hx ⟨q, rfl, hj⟩ hl
  refine (hY q ⟨x, hx⟩ A hj (by simpa using hl)).mono ?_
  rintro e B (⟨h1, h2, h3⟩ | ⟨h1, h2⟩)
  ·exact .inl ⟨h1, ⟨q ++ [⟨x, hx⟩], by simp, h2⟩, h3⟩
  ·exact .inr ⟨h1, ⟨q ++ [⟨x, hx⟩], by simp, h2⟩⟩
 ·rintro e A ⟨hv, ⟨ys, rfl, q, hq, hj⟩ | ⟨pre, hp, q, rfl, hj⟩⟩
  ·exact ⟨hv, .inl ⟨q, hq, hj⟩⟩
  ·exact ⟨hv, .inr ⟨q, hp, hj⟩⟩
end Go.Proofs.YtlaijeeeblcinaaDoor.A
set_option linter.all false
set_option linter.unusedVariables false
set_option maxRecDepth 100000
namespace Go.Proofs.YtlaijeeeblcinaaDoor.A
open Go.RowKit Go.Shelf Go.Proofs.YtlaijeeeblcinaaDoorW.PrintWords Go.Proofs.YtlaijeeeblcinaaDoorW.PrintLast Go.Proofs.YtlaijeeeblcinaaDoorW.PrintMore
attribute [local go_sem] Oper.semAt_some
set_option maxHeartbeats 8000000
theorem wrB_some {acc s r : ByteArray} (h : wrB acc s = some r) : acc.size + s.size ≤ 140737488355328 ∧ acc ++ s = r := by
 unfold wrB at h
 split at h
 ·rename_i c; exact ⟨c, Option.some.inj h⟩
 ·cases h
theorem blk_keep {B g : Nat} {w w' : World} {o : Obj} (h : w.heap[g]? = some o) (hb : Below B w w') (hg : g < B) : w'.heap[g]? = some o := (hb.block g hg).trans h
theorem target_Print.calls (k : Nat) (A0 : Option Addr) (c0 : Nat) (code : List Int) (A1 : Option Addr) (c1 : Nat) (data : List Int) (entry : Int) (r1 : ByteArray) (r2 : Int) (w : World) (hC : Kd.C (Kd.int .u64) w A0 code.length code) (hc0 : code.length ≤ c0) (hD : Kd.C (Kd.int .i64) w A1 data.length data) (hc1 : data.length ≤ c1) (h : target_Print.f k code data entry = some (r1, r2)) (hE_ : Env w := by exact Env.below HEnv_.out (by repeat (first | (with_reducible first | exact HB.out | apply below_alloc | apply pw_below_drewN | apply below_drew1 | refine below_set ?_ (Aside0.out (by assumption))) | exact HB.out)) HEnv_.out.big) :
  Calls Tryd.prog 22 #[.agg #[.slice A0 code.length c0, .slice A1 data.length c1, .int .i64 entry]] w fun e w' => e = .returned (.tuple #[.string r1, .int .i64 r2]) ∧ Below w.heap.size w w' := by
 obtain ⟨ec, hck, H⟩ := Option.bind_eq_some_iff.1 h
 have HCk := Aside0.mk hck
 have HC := Aside0.mk hC
 have HD := Aside0.mk hD
 have HEnv_ := Aside0.mk hE_
 have HB := Aside0.mk (Below.refl w.heap.size w)
 clear hC hD hE_ h hck
 by_cases c0e : ec = 0
 rotate_left
 ·rw [if_neg c0e] at H
  have H1 := Option.some.inj H
  obtain ⟨rfl, rfl⟩ : (⟨#[]⟩ : ByteArray) = r1 ∧ ec = r2 := by cases H1; exact ⟨rfl, rfl⟩
  clear H H1
  have e1 : (ec != 0) = true := bne_iff_ne.mpr c0e
  go_enter Tryd.func22, Tryd.ntmps22
  go_wp2_with (go_at_call 17; (with_reducible refine (et_Check.calls k A0 c0 code A1 c1 data entry ec _ (Kd.C_alloc HC.out _) hc0 (Kd.C_alloc HD.out _) hc1 HCk.out).mono ?_); rintro e w2 ⟨rfl, hb⟩; have HB2 := Aside0.mk (below_step (below_alloc HB.out _) hb))
  refine bodyPost_ret (v := .tuple #[.string ⟨#[]⟩, .int .i64 ec]) (by simp [results, Tryd.f22, go_sem]) rfl ?_
  exact ⟨rfl, HB2.out⟩
 subst c0e
 rw [if_pos rfl] at H
 obtain ⟨n, hn, H⟩ := Option.bind_eq_some_iff.1 H
 obtain ⟨a0, ha0, H⟩ := Option.bind_eq_some_iff.1 H
 obtain ⟨a1, ha1, H⟩ := Option.bind_eq_some_iff.1 H
 obtain ⟨xs, hxs, H⟩ := Option.bind_eq_some_iff.1 H
 by_cases hall : a1.size ≤ 1000000000 ∧ xs.length ≤ 100000 ∧ xs.all (okLine k) = true
 rotate_left
 ·rw [if_neg hall] at H; cases H
 rw [if_pos hall] at H
 have H1 := Option.some.inj H
 obtain ⟨rfl, rfl⟩ : outB k xs a1 = r1 ∧ (0 : Int) = r2 := by cases H1; exact ⟨rfl, rfl⟩
 have HALL := Aside0.mk hall
 clear hall
 clear H H1
 have HN := Aside0.mk hn
 have hns : n.size ≤ 21 := by
  unfold et_Itoa.f at hn
  split at hn
  ·rename_i c; cases hn; exact numB_size _ c.1 c.2
  ·cases hn
 have s1 : (9223372036854775807 < 6 + n.size) = False := eq_false (by omega)
 have s2 : (9223372036854775807 < 6 + n.size + 2) = False := eq_false (by omega)
 have s1' : decide (9223372036854775807 < 6 + n.size) = false := decide_eq_false (by omega)
 have s2' : decide (9223372036854775807 < 6 + n.size + 2) = false := decide_eq_false (by omega)
 have HA0 := Aside0.mk ha0
 have HA1 := Aside0.mk ha1
 have HXS := Aside0.mk hxs
 have hw0 := wrB_some ha0
 rw [show entryT n = (⟨#[101, 110, 116, 114, 121, 32]⟩ : ByteArray) ++ n ++ ⟨#[59, 10]⟩ from rfl] at hw0
 have HW1 := Aside0.mk hw0.1
 have HW2 := Aside0.mk hw0.2
 clear hn ha0 ha1 hxs hw0
 refine (callsIn_wide (n := 3)).1 ?_
 refine callsIn_of_wp_marks Tryd.func22 rfl trivial ?_ rfl
 simp only [Tryd.ntmps22, List.size_toArray, List.length_cons, List.length_nil, Nat.reduceAdd, Nat.reduceSub, Array.replicate_succ, Array.replicate_zero, List.push_toArray, List.append_toArray, List.nil_append, List.cons_append]
 gi_wp2_with (first | ((first | refine ⟨trivial, fun h => (by cases h), ?_⟩ | refine ⟨trivial, ?_⟩); gi_at_call 17; (refine (callsIn_wide.2 (et_Check.calls k A0 c0 code A1 c1 data entry 0 _ (Kd.C_alloc HC.out _) hc0 (Kd.C_alloc HD.out _) hc1 HCk.out)).mono ?_); rintro e w2 ⟨rfl, hb⟩; have HB2 := Aside0.mk (below_step (below_alloc HB.out _) hb); have HS2 := Aside0.mk (Nat.lt_of_lt_of_le (by rw [World.size_alloc]; exact Nat.lt_succ_self _) hb.size : w.heap.size < w2.heap.size); have BK2 := Aside0.mk (blk_below (blk_new w (.cells #[.slice A0 code.length c0, .slice A1 data.length c1, .int .i64 entry] 35)) hb); have z2 : ∀ o, (w2.alloc o).cell? ⟨w.heap.size, 2, none⟩ = some (.int .i64 entry) := (fun o => (blk_cell (blk_alloc BK2.out o) 2).trans rfl); clear hb) | ((first | refine ⟨trivial, fun h => (by cases h), ?_⟩ | refine ⟨trivial, ?_⟩); gi_at_call 49; (refine (callsIn_wide.2 (et_Itoa.calls entry n _ HN.out (Env.below HEnv_.out (below_alloc HB2.out _) HEnv_.out.big))).mono ?_); rintro e w3 ⟨rfl, hb⟩; clear z2; have HI3 := Aside0.mk ((IsBd.fresh w2).below hb); have HB3 := Aside0.mk (below_step (below_alloc HB2.out _) hb); have BK3 := Aside0.mk (blk_below (blk_alloc BK2.out _) hb); have HS3 := Aside0.mk (HI3.out.lt); clear hb))
 refine ⟨trivial, ?_⟩
 have hc := (ws_calls w2.heap.size ByteArray.empty ((⟨#[101, 110, 116, 114, 121, 32]⟩ : ByteArray) ++ n ++ ⟨#[59, 10]⟩) w3 HI3.out HW1.out (Nat.le_of_lt HS3.out))
 refine (callsIn_wide.2 hc).mono ?_
 rintro e w4 ⟨m4, rfl, hi, hb, hk⟩
 have HI4 := Aside0.mk (show IsBd w2.heap.size a0 w4 by rw [← HW2.out]; exact hi)
 have HB4 := Aside0.mk (HB3.out.trans (hb.mono (Nat.le_of_lt HS2.out)))
 have BK4 := Aside0.mk (blk_keep BK3.out hb HS2.out)
 have z4a : w4.cell? ⟨w.heap.size, 0, none⟩ = some (.slice A0 code.length c0) := (blk_cell BK4.out 0).trans rfl
 have z4b : w4.cell? ⟨w.heap.size, 1, none⟩ = some (.slice A1 data.length c1) := (blk_cell BK4.out 1).trans rfl
 clear hi hb hk hc
 gi_wp2
 gi_loopg [23] (data.length + 1) (fun kq v wr => ∃ (x : Int) (acc : ByteArray), v = .int .i64 x ∧ Aside0 (0 ≤ x ∧ x.toNat + kq = data.length + 1 ∧ dataT (data.drop x.toNat) acc = some a1) ∧ Aside0 (IsBd w2.heap.size acc wr) ∧ Aside0 (Below w.heap.size w wr) ∧ Aside0 (wr.heap[w.heap.size]? = some (.cells #[.slice A0 code.length c0, .slice A1 data.length c1, .int .i64 entry] 35 (0, 0))))
 case atStart => exact ⟨0, a0, rfl, ⟨by omega, by omega, HA1.out⟩, HI4, HB4, BK4⟩
 case round =>
  clear HB4 HI4 BK4 z4a z4b
  obtain ⟨x, acc, rfl, HX, HI, HB4, BK4⟩ := hrel
  obtain ⟨hx0, hx1, hx2⟩ := HX.out
  have hlen := HD.out.2.1
  have HS := Aside0.mk HI.out.lt
  by_cases ci : x < (data.length : Int)
  ·have cib : decide (x < (data.length : Int)) = true := decide_eq_true ci
   have ci' : x.toNat < data.length := by omega
   rw [List.drop_eq_getElem_cons ci'] at hx2
   simp only [dataT] at hx2
   obtain ⟨n1, hn1, hx2⟩ := Option.bind_eq_some_iff.1 hx2
   obtain ⟨acc1, hac, hx2⟩ := Option.bind_eq_some_iff.1 hx2
   have hrd : rd data x = data[x.toNat] := by
    unfold rd; simp [List.getD_eq_getElem?_getD, ci']
   rw [← hrd] at hn1
   have hn1s : n1.size ≤ 21 := by
    unfold et_Itoa.f at hn1
    split at hn1
    ·rename_i c; cases hn1; exact numB_size _ c.1 c.2
    ·cases hn1
   have hwd := wrB_some hac
   rw [show dataL n1 = (⟨#[100, 97, 116, 97, 32]⟩ : ByteArray) ++ n1 ++ ⟨#[59, 10]⟩ from rfl] at hwd
   have HWa := Aside0.mk hwd.1
   have HWb := Aside0.mk hwd.2
   have HN1 := Aside0.mk (show et_FormatInt.f (rd data x) 10 = some n1 by unfold et_FormatInt.f; rw [if_pos rfl]; exact hn1)
   have HX2 := Aside0.mk hx2
   have s3 : (9223372036854775807 < 5 + n1.size) = False := eq_false (by omega)
   have s4 : (9223372036854775807 < 5 + n1.size + 2) = False := eq_false (by omega)
   have s3' : decide (9223372036854775807 < 5 + n1.size) = false := decide_eq_false (by omega)
   have s4' : decide (9223372036854775807 < 5 + n1.size + 2) = false := decide_eq_false (by omega)
   have p0 : 0 ≤ x := hx0
   have p1 : x < (data.length : Int) := ci
   obtain ⟨ad, e, hz⟩ := Kd.at_int (Kd.C_below HD.out HB4.out) x p0 p1
   have HCl := Aside0.mk hlen
   clear hx2 hx1 hac hwd hn1 hrd hn1s hlen
   cases e
   gi_wp2_with ((first | refine ⟨trivial, ?_⟩ | refine ⟨trivial, fun h => (by cases h), ?_⟩); gi_at_call 50; (refine (callsIn_wide.2 (et_FormatInt.calls (rd data x) 10 n1 _ HN1.out (Env.below HEnv_.out HB4.out HEnv_.out.big))).mono ?_); rintro e w5 ⟨rfl, hb⟩; have HI5 := Aside0.mk (HI.out.below hb); have HB5 := Aside0.mk (below_step HB4.out hb); have BK5 := Aside0.mk (blk_below BK4.out hb); have HS5 := Aside0.mk (HI5.out.lt); clear hb hz)
   refine ⟨trivial, ?_⟩
   have hc := (ws_calls w2.heap.size acc ((⟨#[100, 97, 116, 97, 32]⟩ : ByteArray) ++ n1 ++ ⟨#[59, 10]⟩) w5 HI5.out HWa.out (Nat.le_of_lt HS5.out))
   refine (callsIn_wide.2 hc).mono ?_
   rintro e w6 ⟨m6, rfl, hi, hb, hk⟩
   have HI6 := Aside0.mk (show IsBd w2.heap.size acc1 w6 by rw [← HWb.out]; exact hi)
   have HB6 := Aside0.mk (HB5.out.trans (hb.mono (Nat.le_of_lt HS2.out)))
   have BK6 := Aside0.mk (blk_keep BK5.out hb HS2.out)
   clear hi hb hk hc
   have hwr : wrap64 (x + 1) = x + 1 := by have := HCl.out; unfold wrap64; omega
   clear HCl
   replace p0 := eq_true p0
   replace p1 := eq_true p1
   gi_wp2
   gi_roundg (data.length - x.toNat)
   case measure => have := HX.out.2.1; omega
   case rel => exact ⟨x + 1, acc1, by first | rfl | simp [hwr], ⟨by omega, by have := HX.out.2.1; omega, by rw [show (x + 1).toNat = x.toNat + 1 by omega]; exact HX2.out⟩, HI6, HB6, BK6⟩
  ·have cib : decide (x < (data.length : Int)) = false := decide_eq_false ci
   rw [List.drop_of_length_le (by omega)] at hx2
   obtain rfl : acc = a1 := Option.some.inj hx2
   clear hx2 hx1 hlen
   have z7 : wr.cell? ⟨w.heap.size, 0, none⟩ = some (.slice A0 code.length c0) := (blk_cell BK4.out 0).trans rfl
   gi_wp2_with ((first | refine ⟨trivial, ?_⟩ | refine ⟨trivial, fun h => (by cases h), ?_⟩); gi_at_call 33; refine (callsIn_wide.2 (all_calls _ _ _ _)).mono ?_; rintro e w' ⟨rfl, rfl⟩)
   obtain ⟨W0, hW0⟩ : ∃ W0, wr.alloc (.cells #[.slice A0 code.length c0] 27) = W0 := ⟨_, rfl⟩
   have hB0 : Below w.heap.size w W0 := by rw [← hW0]; exact below_alloc HB4.out _
   have hs0 : W0.heap.size = wr.heap.size + 1 := by rw [← hW0]; simp
   have hb0 : W0.heap[wr.heap.size]? = some (.cells #[.slice A0 code.length c0] 27 (0, 0)) := by rw [← hW0]; exact blk_new _ _
   have hI0 : IsBd w2.heap.size acc W0 := by rw [← hW0]; exact HI.out.alloc _
   have hsb := HS.out
   rw [hW0]
   clear hW0 z7
   have hseq := all_seq 2 wr.heap.size w W0 A0 c0 code k xs HXS.out hc0 HC.out HEnv_.out.tab hB0 hb0
   have hws := HS2.out
   refine wpIn_rangeFunc_ownH (F := Fence.wide) (n := 3) rfl (by omega) (gf := 57) (lb := #[.pointer (some ⟨wr.heap.size, 0, none⟩)]) rfl trivial (enters_of Tryd.func57 (by kernel_rfl) rfl)
    hseq KP.trans ?kb (Below.refl _ _) (fun _ => rfl)
    (fun pre W => (IsBd w2.heap.size (outB k (pre.map (·.1)) acc) W ∧ W0.heap.size ≤ W.heap.size) ∧ Below w.heap.size w W)
    (fun _ _ _ => False)
    (OwnFrom.and (Own.from (fun s A B row hs hg hr => ⟨hs.1.kept hg hr, Nat.le_trans hs.2 hg.size⟩) _) (ownFrom_below (Nat.le_refl _) (by omega)))
    (fun c => Own.from (fun s A B row hs hg hr => hs) _)
    ⟨⟨hI0, Nat.le_refl _⟩, hB0⟩
    (fun y a' W => ∃ g, a' = { tmps := #[.agg #[.slice A0 code.length c0, .slice A1 data.length c1, .int .i64 entry], .pointer (some ⟨w.heap.size, 0, none⟩), .string ⟨#[]⟩, .int .i64 0, .int .i64 0, .pointer (some ⟨w2.heap.size, 0, none⟩), undef, u7, .pointer (some ⟨g, 0, none⟩), .agg #[.slice A0 code.length c0, .slice A1 data.length c1, .int .i64 entry], .int .i64 0, .int .i64 0, .bool false, undef, .pointer (some ⟨w.heap.size, 2, none⟩), .int .i64 entry, .string n, .string ((⟨#[101, 110, 116, 114, 121, 32]⟩ : ByteArray) ++ n), .string ((⟨#[101, 110, 116, 114, 121, 32]⟩ : ByteArray) ++ n ++ ⟨#[59, 10]⟩), .tuple #[.int .i64 m4, .nilIface], .pointer (some ⟨w.heap.size, 1, none⟩), .slice A1 data.length c1, .int .i64 (data.length : Int), .int .i64 x, .bool false, u25, u26, u27, u28, u29, u30, u31, u32, .pointer (some ⟨w.heap.size, 0, none⟩), .slice A0 code.length c0, .func (.func 57) #[] #[.pointer (some ⟨wr.heap.size, 0, none⟩)], .agg #[.int .i64 y.1.1, .int .i64 y.1.2.1, .int .i64 y.1.2.2.1, .int .i64 y.1.2.2.2.1, .int .i64 y.1.2.2.2.2.1], .int .i64 y.1.2.2.2.2.2, undef, undef, undef, undef], defers := [] } ∧ W.heap[g]? = some (.cells #[.int .i64 y.1.1, .int .i64 y.1.2.1, .int .i64 y.1.2.2.1, .int .i64 y.1.2.2.2.1, .int .i64 y.1.2.2.2.2.1] 26 (0, 0)))
    ?ax ?assign ?body ?done ?stop
   case kb =>
    intro W l o o' hl ho hoc _
    refine ⟨belowK_b (w := W0) (n₀ := w.heap.size) hB0.size W l o o' hl ho hoc (by assumption), fun e => ?_⟩
    rw [World.putObj_heap_other (by omega)]; exact e
   case ax =>
    rintro y a' _ A B row ⟨g, h1, h2⟩ hg hr
    refine ⟨g, h1, ?_⟩
    rw [hg.block g (Array.getElem?_eq_some_iff.1 h2).1 ?_]
    ·exact h2
    ·intro e
     obtain ⟨_, o, h3, h4⟩ := hr g e.symm
     rw [h2] at h3; cases h3; cases h4
   case assign =>
    rintro l pre y W K ⟨⟨hI, hsz⟩, hBW⟩ hK
    simp only [encI]
    gi_wp2
    exact hK _ _ (KeepsFrom.of_grownBy (World.grownBy_alloc _ _ none) (fun j e => by cases e)) ⟨(below_alloc (Below.refl W.heap.size W) _).mono hBW.size, fun e => blk_alloc e _⟩ ⟨⟨hI.alloc _, Nat.le_trans hsz (by rw [World.size_alloc]; exact Nat.le_succ _)⟩, below_alloc hBW _⟩ ⟨W.heap.size, rfl, blk_new _ _⟩
   case body =>
    rintro l pre y a' W hl _ ⟨⟨hI, hsz⟩, hBW⟩ ⟨g, rfl, hg⟩ hpl
    have z0 : W.cell? ⟨g, 0, none⟩ = some (.int .i64 y.1.1) := (blk_cell hg 0).trans rfl
    have z1 : W.cell? ⟨g, 1, none⟩ = some (.int .i64 y.1.2.1) := (blk_cell hg 1).trans rfl
    have z2 : W.cell? ⟨g, 2, none⟩ = some (.int .i64 y.1.2.2.1) := (blk_cell hg 2).trans rfl
    have z3 : W.cell? ⟨g, 3, none⟩ = some (.int .i64 y.1.2.2.2.1) := (blk_cell hg 3).trans rfl
    have z4 : W.cell? ⟨g, 4, none⟩ = some (.int .i64 y.1.2.2.2.2.1) := (blk_cell hg 4).trans rfl
    obtain ⟨s, hls, hs9⟩ := okLine_some (List.all_eq_true.1 HALL.out.2.2 y.1 y.2)
    have HLS := Aside0.mk (show target_line.f k y.1.1 y.1.2.1 y.1.2.2.1 y.1.2.2.2.1 y.1.2.2.2.2.1 = some s from hls)
    have HIW := Aside0.mk hI
    have HBW := Aside0.mk hBW
    have HSZ := Aside0.mk hsz
    have HY2 := Aside0.mk (show (outB k ((pre ++ [y]).map (·.1)) acc) = outB k (pre.map (·.1)) acc ++ s by rw [List.map_append, List.map_cons, List.map_nil, outB_snoc, hls]; rfl)
    have HSS := Aside0.mk (show (outB k (pre.map (·.1)) acc).size + s.size ≤ 140737488355328 by
     have h1 := outB_size k (pre.map (·.1)) (fun x hx => by obtain ⟨q, _, rfl⟩ := List.mem_map.1 hx; exact List.all_eq_true.1 HALL.out.2.2 q.1 q.2) acc
     have h2 := HALL.out.1
     have h3 := HALL.out.2.1
     rw [List.length_map] at h1
     omega)
    clear hI hBW hls hs9 hsz
    gi_wp2
    refine ⟨trivial, ?_⟩
    have hcl := target_line.calls k y.1.1 y.1.2.1 y.1.2.2.1 y.1.2.2.2.1 y.1.2.2.2.2.1 s W HLS.out (Env.below HEnv_.out HBW.out HEnv_.out.big)
    refine (CallsIn.inRound l (callsIn_wide.2 hcl)).mono ?_
    rintro e W5 ⟨rfl, hb⟩
    have HI5 := Aside0.mk (HIW.out.below hb)
    have HB5 := Aside0.mk hb
    have hlt := HI5.out.lt
    clear hb hcl z0 z1 z2 z3 z4
    gi_wp2
    refine ⟨trivial, ?_⟩
    have hcw := ws_calls w2.heap.size (outB k (pre.map (·.1)) acc) s W5 HI5.out HSS.out (Nat.le_of_lt hlt)
    refine (CallsIn.inRound l (callsIn_wide.2 hcw)).mono ?_
    rintro e W6 ⟨m7, rfl, hi, hb, hk⟩
    clear hcw
    gi_wp2
    have hW5 := HB5.out
    have hI6 : IsBd w2.heap.size (outB k ((pre ++ [y]).map (·.1)) acc) W6 := by rw [HY2.out]; exact hi
    have hb6 : Below w.heap.size W W6 := (hW5.mono HBW.out.size).trans (hb.mono (Nat.le_of_lt hws))
    refine ⟨(KeepsFrom.of_grownBy (grown_of_below hW5) (fun j e => by cases e)).trans (kf_write HI5.out hb hk), ⟨hb6, fun e => ?_⟩, ⟨⟨hI6, Nat.le_trans HSZ.out (Nat.le_trans hW5.size hb.size)⟩, HBW.out.trans hb6⟩⟩
    exact hk _ _ (blk_below e hW5) (fun e2 => by have := Option.some.inj e2; omega) (fun c fz e2 => by cases e2)
   case done =>
    rintro D ys W hD hys ⟨⟨hI, hsz⟩, hBW⟩ hDf
    rw [hys] at hI
    have HI := Aside0.mk hI
    have HBW := Aside0.mk hBW
    have HDf := Aside0.mk hDf
    have hlt := hI.lt
    clear hI hBW hDf
    gi_wp2
    refine ⟨trivial, ?_⟩
    have hst := str_calls w2.heap.size (outB k xs acc) W HI.out (Nat.le_of_lt hlt)
    refine (callsIn_wide.2 hst).mono ?_
    rintro e W7 ⟨rfl, hb, hk⟩
    have hB7 := HBW.out.trans (hb.mono (Nat.le_of_lt hws))
    have hD7 := kept_other HI.out hk HDf.out rfl
    clear hst hk hb
    gi_wp2
    refine ⟨by simp, .inl ⟨_, _, rfl, run_takeDeferred hD7, ?_⟩⟩
    exact ⟨.tuple #[.string (outB k xs acc), .int .i64 0], by simp [results, Tryd.f22, go_sem], rfl, hB7.trans (belowK_b (w := w) (Nat.le_refl _) W7 D _ _ (by omega) hD7 rfl rfl)⟩
   case stop =>
    rintro D c pre W hD hpre hF
    exact hF.elim
end Go.Proofs.YtlaijeeeblcinaaDoor.A
set_option linter.all false
set_option maxRecDepth 100000
namespace Go.Proofs.YtlaijeeeblcinaaDoor.A
open Go.RowKit Go.Proofs.YtlaijeeeblcinaaDoorW.PrintWords Go.Proofs.YtlaijeeeblcinaaDoorW.PrintLast Go.Proofs.YtlaijeeeblcinaaDoorW.PrintMore
theorem okLine_mono {k : Nat} {x : Item} (h : okLine k x = true) : okLine (k + 1) x = true ∧ lineB (k + 1) x = lineB k x := by
 obtain ⟨s, e, hs⟩ := okLine_some h
 have e' : lineB (k + 1) x = some s := target_line.mono _ _ _ _ _ k s e
 refine ⟨?_, e'.trans e.symm⟩
 unfold okLine
 rw [e']
 exact decide_eq_true hs
theorem outB_mono {k : Nat} (xs : List Item) (h : ∀ x ∈ xs, okLine k x = true) (acc : ByteArray) : outB (k + 1) xs acc = outB k xs acc := by
 induction xs generalizing acc with
 | nil => rfl
 | cons x xs ih =>
  show outB (k + 1) xs (acc ++ (lineB (k + 1) x).getD ByteArray.empty) = outB k xs (acc ++ (lineB k x).getD ByteArray.empty)
  rw [(okLine_mono (h x List.mem_cons_self)).2]
  exact ih (fun y hy => h y (List.mem_cons_of_mem _ hy)) _
theorem target_Print.mono : ∀ a0 a1 a2 k, LeO (target_Print.f k a0 a1 a2) (target_Print.f (k + 1) a0 a1 a2) := by
 intro a0 a1 a2 k
 unfold target_Print.f
 refine LeO.bind (et_Check.mono a0 a1 a2 k) fun e => ?_
 refine LeO.ite ?_ (LeO.refl _)
 refine LeO.bind (LeO.refl _) fun n => ?_
 refine LeO.bind (LeO.refl _) fun b0 => ?_
 refine LeO.bind (LeO.refl _) fun b1 => ?_
 refine LeO.bind (itemsF_mono k a0 0) fun xs => ?_
 intro r hr
 by_cases c : b1.size ≤ 1000000000 ∧ xs.length ≤ 100000 ∧ xs.all (okLine k) = true
 ·rw [if_pos c] at hr
  have hall := List.all_eq_true.1 c.2.2
  rw [if_pos ⟨c.1, c.2.1, List.all_eq_true.2 fun x hx => (okLine_mono (hall x hx)).1⟩, outB_mono xs hall]
  exact hr
 ·rw [if_neg c] at hr; cases hr
end Go.Proofs.YtlaijeeeblcinaaDoor.A

/- target.Check: the iterator over the instructions of words, and the contract of Check's call (where the two tables lie). -/
import Derived.Test.YtlaijeeeblcinaaDoorTgtDecode
import Derived.RangeFuncNested
import Derived.RangeFuncBound
import Derived.RangeFuncCalls
import Derived.RangeFuncLeaves
import Derived.Shelf.Abstract
import Derived.Shelf.RegionOpen
import Derived.WalkKit
import Derived.OwnWalkIn
import Derived.TacticsInMore
import Derived.LoopNIn
import Derived.LoopIn
import Derived.Sort.LoopGhostIn
set_option linter.all false
set_option linter.unusedVariables false
set_option maxRecDepth 100000
namespace Go.Proofs.YtlaijeeeblcinaaDoor.A
open Go.RowKit Go.Shelf Go.Proofs.YtlaijeeeblcinaaDoorW.PrintWords Go.Proofs.YtlaijeeeblcinaaDoorW.PrintLast Go.Proofs.YtlaijeeeblcinaaDoorW.PrintMore
attribute [local go_sem] Oper.semAt_some
abbrev Item := Int × Int × Int × Int × Int × Int
def encI (x : Item) : Array Value := #[.agg #[.int .i64 x.1, .int .i64 x.2.1, .int .i64 x.2.2.1, .int .i64 x.2.2.2.1, .int .i64 x.2.2.2.2.1], .int .i64 x.2.2.2.2.2]
def itemsF : Nat → List Int → Int → Option (List Item)
 | 0, _, _ => none
 | k + 1, code, at_ => if at_ < (code.length : Int) then (target_Decode.f k code at_).bind fun t => if t.2.2.2.2.2.2 = 0 then (itemsF k code t.2.2.2.2.2.1).bind fun l => some ((t.1, t.2.1, t.2.2.1, t.2.2.2.1, t.2.2.2.2.1, (0 : Int)) :: l) else some [(t.1, t.2.1, t.2.2.1, t.2.2.2.1, t.2.2.2.2.1, t.2.2.2.2.2.2)] else some []
def target_Check.l (k : Nat) (code : List Int) : Option Int := (itemsF k code 0).bind fun l => some (match l.find? (fun x => x.2.2.2.2.2 != 0) with | some x => x.2.2.2.2.2 | none => 0)
def target_Check.f (k : Nat) (code data : List Int) (entry : Int) : Option Int := if (code.length : Int) > 20000 then some 3 else if (data.length : Int) > 20000 then some 3 else if entry < 0 then some 2 else if entry > (code.length : Int) then some 2 else target_Check.l k code
theorem grown_of_below {w w' : World} (h : Below w.heap.size w w') : w.grownBy w' none := ⟨h.os, h.tape, h.output, h.size, fun k hk _ => h.block k hk⟩
theorem abides_below {β : Type} {B : Nat} {J : β → World → Prop} (hJ : AbidesFrom B J) {s : β} {W W' : World} (h : J s W) (hb : Below W.heap.size W W') : J s W' := hJ s W W' none h (grown_of_below hb) (fun r e => by cases e)
set_option maxHeartbeats 4000000
theorem all1_in (n : Nat) (l Bn : Nat) (wb : World) (A0 : Option Addr) (c0 : Nat) (code : List Int) (k : Nat) (xs : List Item) (J Jx : List Item → World → Prop)
  (hd : itemsF k code 0 = some xs) (hc0 : code.length ≤ c0)
  (hC : Kd.C (Kd.int .u64) wb A0 code.length code) (hT : Tab wb) (hBn : wb.cell? ⟨Bn, 0, none⟩ = some (.slice A0 code.length c0)) (hBl : Bn < wb.heap.size)
  (W : World) (hJ : AbidesFrom W.heap.size J)
  (hY : ∀ pre x W, J pre W → pre.length < xs.length → YieldAt Fence.wide (n - 1) Tryd.prog l (encI x) W fun e W' =>
   (e = .returned (.bool true) ∧ J (pre ++ [x]) W' ∧ Below wb.heap.size W W') ∨ (e = .returned (.bool false) ∧ Jx (pre ++ [x]) W'))
  (hB : Below wb.heap.size wb W) (h0 : J [] W) :
  CallsIn Fence.wide n Tryd.prog 57 #[.func (.yield l) #[] #[], .pointer (some ⟨Bn, 0, none⟩)] W fun e W' => (∃ v, e = .returned v) ∧
   ((∃ ys, ys = xs ∧ J ys W') ∨ (∃ pre, pre <+: xs ∧ Jx pre W')) := by
 refine callsIn_of_wp Tryd.func57 rfl trivial ?_ rfl
 simp only [Tryd.ntmps57, List.size_toArray, List.length_cons, List.length_nil, Nat.reduceAdd, Nat.reduceSub, Array.replicate_succ, Array.replicate_zero, List.push_toArray, List.append_toArray, List.nil_append, List.cons_append]
 gi_wp2
 have HJ := Aside0.mk hJ
 have HY := Aside0.mk hY
 have HC := Aside0.mk hC
 have HT := Aside0.mk hT
 have HB := Aside0.mk hB
 have hd' := Aside0.mk hd
 have h0' := Aside0.mk h0
 have hBn' := Aside0.mk hBn
 clear hJ hY hC hT hB hd h0 hBn
 gi_loopg [3] k (fun kq v wr => ∃ (pre rest : List Item) (at_ : Int), v = .int .i64 at_ ∧ Aside0 (xs = pre ++ rest ∧ itemsF kq code at_ = some rest) ∧ Aside0 (J pre wr) ∧ Aside0 (Below wb.heap.size wb wr) ∧ Aside0 (W.heap.size ≤ wr.heap.size))
 case atStart => exact ⟨[], xs, 0, rfl, ⟨rfl, hd'.out⟩, h0', HB, ⟨Nat.le_refl _⟩⟩
 case round =>
  obtain ⟨pre, rest, at_, rfl, HX, HJs, HB, HW⟩ := hrel
  have hcell := (HB.out.cell (p := ⟨Bn, 0, none⟩) hBl).trans hBn'.out
  cases gk with
  | zero => exact absurd HX.out.2 (by simp [itemsF])
  | succ k1 =>
   have HJ' := Aside0.mk (show AbidesFrom wr.heap.size J from fun s A B row hs hg hr => HJ.out s A B row hs hg (fun r e => ⟨Nat.le_trans HW.out (hr r e).1, (hr r e).2⟩))
   have hX := HX.out
   obtain ⟨hxs, hit⟩ := hX
   simp only [itemsF] at hit
   by_cases c1 : at_ < (code.length : Int)
   ·rw [if_pos c1] at hit
    have c1b : decide (at_ < (code.length : Int)) = true := decide_eq_true c1
    clear c1
    obtain ⟨t, hdec, hit⟩ := Option.bind_eq_some_iff.1 hit
    obtain ⟨d1, d2, d3, d4, d5, d6, d7⟩ := t
    have HD := Aside0.mk hdec
    clear hdec
    by_cases c2 : d7 = 0
    ·subst c2
     rw [if_pos rfl] at hit
     obtain ⟨l2, hl2, hit⟩ := Option.bind_eq_some_iff.1 hit
     obtain rfl := Option.some.inj hit
     have HX1 := Aside0.mk (show xs = pre ++ (d1, d2, d3, d4, d5, (0 : Int)) :: l2 ∧ itemsF k1 code d6 = some l2 from ⟨hxs, hl2⟩)
     clear hxs hl2 hit HX
     gi_wp2_with ((try gi_at_call 15); refine ⟨trivial, fun h => (by cases h), ?_⟩; (refine (callsIn_wide.2 (target_Decode.calls k1 A0 c0 code at_ d1 d2 d3 d4 d5 d6 0 _ (Tab.below HT.out (HB.out.mono (Nat.le_refl _))) (Kd.C_below HC.out HB.out) hc0 HD.out)).mono ?_); rintro e w2 ⟨rfl, hb2⟩; obtain ⟨fn, tmps, assign, body, hy, hR⟩ := HY.out pre (d1, d2, d3, d4, d5, 0) (w2.alloc (.cells #[.int .i64 d1, .int .i64 d2, .int .i64 d3, .int .i64 d4, .int .i64 d5] 26)) (abides_below HJ'.out HJs.out (below_alloc hb2 _)) (by rw [HX1.out.1]; simp); dsimp only [encI] at hy; have HS2 := Aside0.mk (below_alloc hb2 (.cells #[.int .i64 d1, .int .i64 d2, .int .i64 d3, .int .i64 d4, .int .i64 d5] 26)).size; have HB2 := Aside0.mk (HB.out.trans ((below_alloc hb2 (.cells #[.int .i64 d1, .int .i64 d2, .int .i64 d3, .int .i64 d4, .int .i64 d5] 26)).mono HB.out.size)); clear hb2)
     refine ⟨fun h => (by cases h), hR.mono ?_⟩
     rintro e w3 (⟨rfl, hJ3, hk3⟩ | ⟨rfl, hJx3⟩)
     ·gi_wp2
      gi_roundg k1
      case measure => omega
      case rel => exact ⟨pre ++ [(d1, d2, d3, d4, d5, 0)], l2, d6, rfl, ⟨by rw [HX1.out.1]; simp, HX1.out.2⟩, ⟨hJ3⟩, ⟨HB2.out.trans hk3⟩, ⟨Nat.le_trans HW.out (Nat.le_trans HS2.out hk3.size)⟩⟩
     ·gi_wp2
      refine bodyPost_ret (results_none rfl _ _ _) rfl ?_
      exact ⟨⟨_, rfl⟩, .inr ⟨pre ++ [(d1, d2, d3, d4, d5, 0)], ⟨l2, by rw [HX1.out.1]; simp⟩, hJx3⟩⟩
    ·rw [if_neg c2] at hit
     obtain rfl := Option.some.inj hit
     have c2a : (d7 != 0) = true := bne_iff_ne.mpr c2
     have HX1 := Aside0.mk (show xs = pre ++ [(d1, d2, d3, d4, d5, d7)] from hxs)
     clear hxs hit HX
     gi_wp2_with ((try gi_at_call 15); refine ⟨trivial, fun h => (by cases h), ?_⟩; (refine (callsIn_wide.2 (target_Decode.calls k1 A0 c0 code at_ d1 d2 d3 d4 d5 d6 d7 _ (Tab.below HT.out (HB.out.mono (Nat.le_refl _))) (Kd.C_below HC.out HB.out) hc0 HD.out)).mono ?_); rintro e w2 ⟨rfl, hb2⟩; obtain ⟨fn, tmps, assign, body, hy, hR⟩ := HY.out pre (d1, d2, d3, d4, d5, d7) (w2.alloc (.cells #[.int .i64 d1, .int .i64 d2, .int .i64 d3, .int .i64 d4, .int .i64 d5] 26)) (abides_below HJ'.out HJs.out (below_alloc hb2 _)) (by rw [HX1.out]; simp); dsimp only [encI] at hy; have HS2 := Aside0.mk (below_alloc hb2 (.cells #[.int .i64 d1, .int .i64 d2, .int .i64 d3, .int .i64 d4, .int .i64 d5] 26)).size; have HB2 := Aside0.mk (HB.out.trans ((below_alloc hb2 (.cells #[.int .i64 d1, .int .i64 d2, .int .i64 d3, .int .i64 d4, .int .i64 d5] 26)).mono HB.out.size)); clear hb2)
     refine ⟨fun h => (by cases h), hR.mono ?_⟩
     rintro e w3 (⟨rfl, hJ3, hk3⟩ | ⟨rfl, hJx3⟩)
     ·gi_wp2
      refine bodyPost_ret (results_none rfl _ _ _) rfl ?_
      exact ⟨⟨_, rfl⟩, .inl ⟨pre ++ [(d1, d2, d3, d4, d5, d7)], HX1.out.symm, hJ3⟩⟩
     ·gi_wp2
      refine bodyPost_ret (results_none rfl _ _ _) rfl ?_
      exact ⟨⟨_, rfl⟩, .inr ⟨pre ++ [(d1, d2, d3, d4, d5, d7)], ⟨[], by rw [HX1.out]; simp⟩, hJx3⟩⟩
   ·rw [if_neg c1] at hit
    have c1b : decide (at_ < (code.length : Int)) = false := decide_eq_false c1
    obtain rfl := Option.some.inj hit
    gi_wp2
    go_end0
    first | exact ⟨⟨_, rfl⟩, .inl HJs.out⟩ | exact ⟨⟨_, rfl⟩, .inl ⟨pre, by rw [hxs]; simp, HJs.out⟩⟩
theorem all_calls (A : Option Addr) (n c : Nat) (w : World) : Calls Tryd.prog 33 #[.slice A n c] w fun e w' => e = .returned (.func (.func 57) #[] #[.pointer (some ⟨w.heap.size, 0, none⟩)]) ∧ w' = w.alloc (.cells #[.slice A n c] 27) := by
 go_enter Tryd.func33, Tryd.ntmps33
 go_wp2
 go_ret
 exact ⟨rfl, rfl⟩
theorem target_Check.calls (k : Nat) (A0 : Option Addr) (c0 : Nat) (code : List Int) (A1 : Option Addr) (c1 : Nat) (data : List Int) (entry : Int) (r : Int) (w : World) (hT : Tab w) (hC : Kd.C (Kd.int .u64) w A0 code.length code) (hc0 : code.length ≤ c0) (hl1 : data.length ≤ 9223372036854775807) (h : target_Check.f k code data entry = some r) :
  Calls Tryd.prog 17 #[.agg #[.slice A0 code.length c0, .slice A1 data.length c1, .int .i64 entry]] w fun e w' => e = .returned (.int .i64 r) ∧ Below w.heap.size w w' := by
 unfold target_Check.f at h
 have HC := Aside0.mk hC
 have HT := Aside0.mk hT
 have HB := Aside0.mk (Below.refl w.heap.size w)
 clear hC hT
 by_cases k1 : (code.length : Int) > 20000
 ·rw [if_pos k1] at h
  obtain rfl := Option.some.inj h
  have k1b : decide (20000 < (code.length : Int)) = true := decide_eq_true k1
  go_enter Tryd.func17, Tryd.ntmps17
  go_wp2
  refine bodyPost_ret (v := .int .i64 3) (by simp [results, Tryd.f17, go_sem]) rfl ?_
  exact ⟨rfl, by repeat (first | (with_reducible first | exact HB.out | apply below_alloc | refine below_set ?_ (by simp)))⟩
 rw [if_neg k1] at h
 by_cases k2 : (data.length : Int) > 20000
 ·rw [if_pos k2] at h
  obtain rfl := Option.some.inj h
  have k1b : decide (20000 < (code.length : Int)) = false := decide_eq_false k1
  have k2b : decide (20000 < (data.length : Int)) = true := decide_eq_true k2
  go_enter Tryd.func17, Tryd.ntmps17
  go_wp2
  refine bodyPost_ret (v := .int .i64 3) (by simp [results, Tryd.f17, go_sem]) rfl ?_
  exact ⟨rfl, by repeat (first | (with_reducible first | exact HB.out | apply below_alloc | refine below_set ?_ (by simp)))⟩
 rw [if_neg k2] at h
 by_cases k3 : entry < 0
 ·rw [if_pos k3] at h
  obtain rfl := Option.some.inj h
  have k1b : decide (20000 < (code.length : Int)) = false := decide_eq_false k1
  have k2b : decide (20000 < (data.length : Int)) = false := decide_eq_false k2
  have k3b : decide (entry < 0) = true := decide_eq_true k3
  go_enter Tryd.func17, Tryd.ntmps17
  go_wp2
  refine bodyPost_ret (v := .int .i64 2) (by simp [results, Tryd.f17, go_sem]) rfl ?_
  exact ⟨rfl, by repeat (first | (with_reducible first | exact HB.out | apply below_alloc | refine below_set ?_ (by simp)))⟩
 rw [if_neg k3] at h
 by_cases k4 : entry > (code.length : Int)
 ·rw [if_pos k4] at h
  obtain rfl := Option.some.inj h
  have k1b : decide (20000 < (code.length : Int)) = false := decide_eq_false k1
  have k2b : decide (20000 < (data.length : Int)) = false := decide_eq_false k2
  have k3b : decide (entry < 0) = false := decide_eq_false k3
  have k4b : decide ((code.length : Int) < entry) = true := decide_eq_true k4
  go_enter Tryd.func17, Tryd.ntmps17
  go_wp2
  refine bodyPost_ret (v := .int .i64 2) (by simp [results, Tryd.f17, go_sem]) rfl ?_
  exact ⟨rfl, by repeat (first | (with_reducible first | exact HB.out | apply below_alloc | refine below_set ?_ (by simp)))⟩
 rw [if_neg k4] at h
 have k1b : decide (20000 < (code.length : Int)) = false := decide_eq_false k1
 have k2b : decide (20000 < (data.length : Int)) = false := decide_eq_false k2
 have k3b : decide (entry < 0) = false := decide_eq_false k3
 have k4b : decide ((code.length : Int) < entry) = false := decide_eq_false k4
 obtain ⟨xs, hxs, hr⟩ := Option.bind_eq_some_iff.1 h
 have hr := Aside0.mk (Option.some.inj hr)
 clear h
 refine (callsIn_wide (n := 3)).1 ?_
 refine callsIn_of_wp_marks Tryd.func17 rfl trivial ?_ rfl
 simp only [Tryd.ntmps17, List.size_toArray, List.length_cons, List.length_nil, Nat.reduceAdd, Nat.reduceSub, Array.replicate_succ, Array.replicate_zero, List.push_toArray, List.append_toArray, List.nil_append, List.cons_append]
 gi_wp2_with ((try gi_at_call 33); (first | refine ⟨trivial, fun h => (by cases h), ?_⟩ | refine ⟨trivial, ?_⟩); refine (callsIn_wide.2 (all_calls _ _ _ _)).mono ?_; rintro e w' ⟨rfl, rfl⟩)
 obtain ⟨W0, hW0⟩ : ∃ W0, ((w.alloc (.cells #[.slice A0 code.length c0, .slice A1 data.length c1, .int .i64 entry] 35)).alloc (.cells #[.int .i64 0] 28)).alloc (.cells #[.slice A0 code.length c0] 27) = W0 := ⟨_, rfl⟩
 have hB0 : Below w.heap.size w W0 := by
  rw [← hW0]
  exact below_alloc (below_alloc (below_alloc (Below.refl _ w) _) _) _
 have hs0 : W0.heap.size = w.heap.size + 1 + 1 + 1 := by rw [← hW0]; simp
 have hb1 : W0.heap[w.heap.size + 1]? = some (.cells #[.int .i64 0] 28 (0, 0)) := by
  rw [← hW0]
  have := blk_new (w.alloc (.cells #[.slice A0 code.length c0, .slice A1 data.length c1, .int .i64 entry] 35)) (.cells #[.int .i64 0] 28)
  rw [World.size_alloc] at this
  exact blk_alloc this _
 have hb2 : W0.heap[w.heap.size + 1 + 1]? = some (.cells #[.slice A0 code.length c0] 27 (0, 0)) := by
  rw [← hW0]
  have := blk_new ((w.alloc (.cells #[.slice A0 code.length c0, .slice A1 data.length c1, .int .i64 entry] 35)).alloc (.cells #[.int .i64 0] 28)) (.cells #[.slice A0 code.length c0] 27)
  rw [World.size_alloc, World.size_alloc] at this
  exact this
 have hcr : W0.cell? ⟨w.heap.size + 1, 0, none⟩ = some (.int .i64 0) := (blk_cell hb1 0).trans rfl
 have hfr : W0.frozen? ⟨w.heap.size + 1, 0, none⟩ = false := blk_frozen hb1 0
 have hcb : W0.cell? ⟨w.heap.size + 1 + 1, 0, none⟩ = some (.slice A0 code.length c0) := (blk_cell hb2 0).trans rfl
 rw [hW0]
 clear hW0
 have hseq : SeqStopsK Fence.wide 2 Tryd.prog 57 #[.pointer (some ⟨w.heap.size + 1 + 1, 0, none⟩)] encI (Below W0.heap.size) (fun ys => ys = xs) (fun pre => pre <+: xs) xs.length W0 := by
  intro l J Jx W hW hJ hJx hY hJ0
  exact all1_in 2 l (w.heap.size + 1 + 1) W0 A0 c0 code k xs J Jx hxs hc0 (Kd.C_below HC.out hB0) (Tab.below HT.out hB0) hcb (by omega) W hJ hY hW hJ0
 refine wpIn_rangeFunc_ownF (F := Fence.wide) (n := 3) rfl (by omega) (gf := 57) (lb := #[.pointer (some ⟨w.heap.size + 1 + 1, 0, none⟩)]) rfl trivial (enters_of Tryd.func57 (by kernel_rfl) rfl)
  hseq belowK_t (belowK_b (Nat.le_refl _)) (Below.refl _ _) (fun _ => rfl)
  (fun pre W => ((∀ y ∈ pre, y.2.2.2.2.2 = 0) ∧ W.cell? ⟨w.heap.size + 1, 0, none⟩ = some (.int .i64 0) ∧ W.frozen? ⟨w.heap.size + 1, 0, none⟩ = false) ∧ Below w.heap.size w W)
  (fun c pre W => (c = .ret ∧ (∃ p y, pre = p ++ [y] ∧ (∀ z ∈ p, z.2.2.2.2.2 = 0) ∧ y.2.2.2.2.2 ≠ 0 ∧ W.cell? ⟨w.heap.size + 1, 0, none⟩ = some (.int .i64 y.2.2.2.2.2))) ∧ Below w.heap.size w W)
  (OwnFrom.and (Own.from (fun s A B row hs hg hr => ⟨hs.1, cell_kept hs.2.1 hg hr, (frozen_kept hs.2.1 hg hr).trans hs.2.2⟩) _) (ownFrom_below (Nat.le_refl _) (by omega)))
  (fun c => OwnFrom.and (Own.from (fun s A B row hs hg hr => by
   obtain ⟨h1, p, y, h2, h3, h4, h5⟩ := hs
   exact ⟨h1, p, y, h2, h3, h4, cell_kept h5 hg hr⟩) _) (ownFrom_below (Nat.le_refl _) (by omega)))
  ⟨⟨by simp, hcr, hfr⟩, hB0⟩
  (fun x => { tmps := #[.agg #[.slice A0 code.length c0, .slice A1 data.length c1, .int .i64 entry], .pointer (some ⟨w.heap.size, 0, none⟩), .pointer (some ⟨w.heap.size + 1, 0, none⟩), undef, .int .i64 x.2.2.2.2.2, .pointer (some ⟨w.heap.size, 0, none⟩), .slice A0 code.length c0, .int .i64 (code.length : Int), .bool false, .bool false, .pointer (some ⟨w.heap.size, 1, none⟩), .slice A1 data.length c1, .int .i64 (data.length : Int), .bool false, .bool false, .pointer (some ⟨w.heap.size, 2, none⟩), .int .i64 entry, .bool false, .bool false, .pointer (some ⟨w.heap.size, 2, none⟩), .int .i64 entry, .pointer (some ⟨w.heap.size, 0, none⟩), .slice A0 code.length c0, .int .i64 (code.length : Int), .bool false, .bool false, .pointer (some ⟨w.heap.size, 0, none⟩), .slice A0 code.length c0, .func (.func 57) #[] #[.pointer (some ⟨w.heap.size + 1 + 1, 0, none⟩)], .agg #[.int .i64 x.1, .int .i64 x.2.1, .int .i64 x.2.2.1, .int .i64 x.2.2.2.1, .int .i64 x.2.2.2.2.1], .int .i64 x.2.2.2.2.2, undef, undef, undef], defers := [] }) ?assign ?body ?done ?stop
 case assign =>
  intro l x W K hK
  simp only [encI]
  gi_wp2
  exact hK
 case body =>
  rintro l pre x W ⟨⟨hp, hcr, hfr⟩, hB⟩ _
  by_cases c : x.2.2.2.2.2 = 0
  ·have c0 : (x.2.2.2.2.2 != 0) = false := bne_eq_false_iff_eq.mpr c
   gi_wp2
   exact ⟨KeepsOthers.refl _, Below.refl _ _, ⟨fun y hy => (List.mem_append.1 hy).elim (hp y) (fun e => by simp at e; rw [e]; exact c), hcr, hfr⟩, hB⟩
  ·have c0 : (x.2.2.2.2.2 != 0) = true := bne_iff_ne.mpr c
   gi_wp2
   exact ⟨KeepsOthers.setCell _ _ _, ⟨rfl, pre, x, rfl, hp, c, World.cell?_setCell_same' _ _ _ (by rw [hcr]; rfl)⟩, hB.setCell (p := ⟨w.heap.size + 1, 0, none⟩) (by simp) _⟩
 case done =>
  rintro D ys W hD rfl ⟨⟨hne, hcr, hfr⟩, hB⟩ hK
  have hf : ys.find? (fun x => x.2.2.2.2.2 != 0) = none := List.find?_eq_none.2 (fun y hy => by simp [hne y hy])
  have hr' := hr.out
  rw [hf] at hr'
  subst hr'
  gi_wp2
  have hK' := (KeepsOthers.setCell W ⟨w.heap.size + 1, 0, none⟩ (.int .i64 0)).same D _ hK rfl
  refine ⟨by simp, .inl ⟨_, _, rfl, run_takeDeferred hK', ?_⟩⟩
  have hc5 := cell_kept (World.cell?_setCell_same' W ⟨w.heap.size + 1, 0, none⟩ (.int .i64 0) (by rw [hcr]; rfl)) (grownBy_putObj' _ D (.deferred none)) (fun r e => by cases e; exact ⟨_, hK', rfl⟩)
  refine ⟨.int .i64 0, ?_, rfl, (hB.setCell (p := ⟨w.heap.size + 1, 0, none⟩) (by simp) _).trans (belowK_b (w := w) (Nat.le_refl _) _ D _ _ (by omega) hK' rfl rfl)⟩
  simp [results, Tryd.f17, go_sem, hc5]
 case stop =>
  rintro D c pre W hD hpre ⟨⟨rfl, p, y, rfl, hp, hy, hcr⟩, hB⟩ hK
  have hf : xs.find? (fun x => x.2.2.2.2.2 != 0) = some y := by
   obtain ⟨q, rfl⟩ := hpre
   rw [List.append_assoc, List.find?_append, List.find?_eq_none.2 (fun z hz => by simp [hp z hz])]
   simp [hy]
  have hr' := hr.out
  rw [hf] at hr'
  subst hr'
  gi_wp2
  refine ⟨by simp, .inl ⟨_, _, rfl, run_takeDeferred hK, ?_⟩⟩
  have hc5 := cell_kept hcr (grownBy_putObj' _ D (.deferred none)) (fun r e => by cases e; exact ⟨_, hK, rfl⟩)
  refine ⟨.int .i64 y.2.2.2.2.2, ?_, rfl, hB.trans (belowK_b (w := w) (Nat.le_refl _) W D _ _ (by omega) hK rfl rfl)⟩
  simp [results, Tryd.f17, go_sem, hc5]
end Go.Proofs.YtlaijeeeblcinaaDoor.A

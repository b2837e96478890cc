/- target.Print: the iterator over the instructions of words once more (what the rounds keep), the builder, and the contract of Print's call. -/
import Derived.Test.YtlaijeeeblcinaaDoorTgtCheck
import Derived.Test.YtlaijeeeblcinaaDoorEv2
import Derived.Test.YtlaijeeeblcinaaDoorCx6
import Derived.Shelf.Strings.BuilderK
import Derived.RangeFuncNested
import Derived.RangeFuncBound
import Derived.RangeFuncCalls
import Derived.RangeFuncLeaves
import Derived.Shelf.Abstract
import Derived.Shelf.RegionOpen
import Derived.WalkKit
import Derived.OwnWalkIn
import Derived.TacticsInMore
import Derived.LoopNIn
import Derived.LoopIn
import Derived.Sort.LoopGhostIn
set_option linter.all false
set_option linter.unusedVariables false
set_option maxRecDepth 100000
namespace Go.Proofs.YtlaijeeeblcinaaDoor.A
open Go.RowKit Go.Shelf Go.Proofs.YtlaijeeeblcinaaDoorW.PrintWords Go.Proofs.YtlaijeeeblcinaaDoorW.PrintLast Go.Proofs.YtlaijeeeblcinaaDoorW.PrintMore
attribute [local go_sem] Oper.semAt_some
set_option maxHeartbeats 4000000
/-- what a round keeps: what lay ahead of base, and the block Bn -/
def KP (base Bn : Nat) (OB : Obj) (A A' : World) : Prop := Below base A A' ∧ (A.heap[Bn]? = some OB → A'.heap[Bn]? = some OB)
theorem KP.trans {base Bn : Nat} {OB : Obj} {A B C : World} (h : KP base Bn OB A B) (k : KP base Bn OB B C) : KP base Bn OB A C := ⟨h.1.trans k.1, fun e => k.2 (h.2 e)⟩
theorem all1_K (n : Nat) (l Bn : Nat) (wb : World) (A0 : Option Addr) (c0 : Nat) (code : List Int) (k : Nat) (xs : List Item) (J Jx : List Item → World → Prop)
  (hd : itemsF k code 0 = some xs) (hc0 : code.length ≤ c0)
  (hC : Kd.C (Kd.int .u64) wb A0 code.length code) (hT : Tab wb)
  (W : World) (hJ : AbidesFrom W.heap.size J)
  (hY : ∀ pre x W, x ∈ xs → J pre W → pre.length < xs.length → YieldAt Fence.wide (n - 1) Tryd.prog l (encI x) W fun e W' =>
   (e = .returned (.bool true) ∧ J (pre ++ [x]) W' ∧ KP wb.heap.size Bn (.cells #[.slice A0 code.length c0] 27 (0, 0)) W W') ∨ (e = .returned (.bool false) ∧ Jx (pre ++ [x]) W'))
  (hB : Below wb.heap.size wb W) (hBn : W.heap[Bn]? = some (.cells #[.slice A0 code.length c0] 27 (0, 0))) (h0 : J [] W) :
  CallsIn Fence.wide n Tryd.prog 57 #[.func (.yield l) #[] #[], .pointer (some ⟨Bn, 0, none⟩)] W fun e W' => (∃ v, e = .returned v) ∧
   ((∃ ys, ys = xs ∧ J ys W') ∨ (∃ pre, pre <+: xs ∧ Jx pre W')) := by
 refine callsIn_of_wp Tryd.func57 rfl trivial ?_ rfl
 simp only [Tryd.ntmps57, List.size_toArray, List.length_cons, List.length_nil, Nat.reduceAdd, Nat.reduceSub, Array.replicate_succ, Array.replicate_zero, List.push_toArray, List.append_toArray, List.nil_append, List.cons_append]
 gi_wp2
 have HJ := Aside0.mk hJ
 have HY := Aside0.mk hY
 have HC := Aside0.mk hC
 have HT := Aside0.mk hT
 have HB := Aside0.mk hB
 have hd' := Aside0.mk hd
 have h0' := Aside0.mk h0
 have hBn' := Aside0.mk hBn
 clear hJ hY hC hT hB hd h0 hBn
 gi_loopg [3] k (fun kq v wr => ∃ (pre rest : List Item) (at_ : Int), v = .int .i64 at_ ∧ Aside0 (xs = pre ++ rest ∧ itemsF kq code at_ = some rest) ∧ Aside0 (J pre wr) ∧ Aside0 (Below wb.heap.size wb wr) ∧ Aside0 (W.heap.size ≤ wr.heap.size) ∧ Aside0 (wr.heap[Bn]? = some (.cells #[.slice A0 code.length c0] 27 (0, 0))))
 case atStart => exact ⟨[], xs, 0, rfl, ⟨rfl, hd'.out⟩, h0', HB, ⟨Nat.le_refl _⟩, hBn'⟩
 case round =>
  obtain ⟨pre, rest, at_, rfl, HX, HJs, HB, HW, HN⟩ := hrel
  have hcell : wr.cell? ⟨Bn, 0, none⟩ = some (.slice A0 code.length c0) := (blk_cell HN.out 0).trans rfl
  have HNl := Aside0.mk (Array.getElem?_eq_some_iff.1 HN.out).1
  cases gk with
  | zero => exact absurd HX.out.2 (by simp [itemsF])
  | succ k1 =>
   have HJ' := Aside0.mk (show AbidesFrom wr.heap.size J from fun s A B row hs hg hr => HJ.out s A B row hs hg (fun r e => ⟨Nat.le_trans HW.out (hr r e).1, (hr r e).2⟩))
   have hX := HX.out
   obtain ⟨hxs, hit⟩ := hX
   simp only [itemsF] at hit
   by_cases c1 : at_ < (code.length : Int)
   ·rw [if_pos c1] at hit
    have c1b : decide (at_ < (code.length : Int)) = true := decide_eq_true c1
    clear c1
    obtain ⟨t, hdec, hit⟩ := Option.bind_eq_some_iff.1 hit
    obtain ⟨d1, d2, d3, d4, d5, d6, d7⟩ := t
    have HD := Aside0.mk hdec
    clear hdec
    by_cases c2 : d7 = 0
    ·subst c2
     rw [if_pos rfl] at hit
     obtain ⟨l2, hl2, hit⟩ := Option.bind_eq_some_iff.1 hit
     obtain rfl := Option.some.inj hit
     have HX1 := Aside0.mk (show xs = pre ++ (d1, d2, d3, d4, d5, (0 : Int)) :: l2 ∧ itemsF k1 code d6 = some l2 from ⟨hxs, hl2⟩)
     clear hxs hl2 hit HX
     gi_wp2_with ((try gi_at_call 15); refine ⟨trivial, fun h => (by cases h), ?_⟩; (refine (callsIn_wide.2 (target_Decode.calls k1 A0 c0 code at_ d1 d2 d3 d4 d5 d6 0 _ (Tab.below HT.out (HB.out.mono (Nat.le_refl _))) (Kd.C_below HC.out HB.out) hc0 HD.out)).mono ?_); rintro e w2 ⟨rfl, hb2⟩; obtain ⟨fn, tmps, assign, body, hy, hR⟩ := HY.out pre (d1, d2, d3, d4, d5, 0) (w2.alloc (.cells #[.int .i64 d1, .int .i64 d2, .int .i64 d3, .int .i64 d4, .int .i64 d5] 26)) (by rw [HX1.out.1]; simp) (abides_below HJ'.out HJs.out (below_alloc hb2 _)) (by rw [HX1.out.1]; simp); dsimp only [encI] at hy; have HS2 := Aside0.mk (below_alloc hb2 (.cells #[.int .i64 d1, .int .i64 d2, .int .i64 d3, .int .i64 d4, .int .i64 d5] 26)).size; have HB2 := Aside0.mk (HB.out.trans ((below_alloc hb2 (.cells #[.int .i64 d1, .int .i64 d2, .int .i64 d3, .int .i64 d4, .int .i64 d5] 26)).mono HB.out.size)); have HN2 := Aside0.mk (blk_alloc (blk_below HN.out hb2) (.cells #[.int .i64 d1, .int .i64 d2, .int .i64 d3, .int .i64 d4, .int .i64 d5] 26)); clear hb2)
     refine ⟨fun h => (by cases h), hR.mono ?_⟩
     rintro e w3 (⟨rfl, hJ3, hk3⟩ | ⟨rfl, hJx3⟩)
     ·gi_wp2
      gi_roundg k1
      case measure => omega
      case rel => exact ⟨pre ++ [(d1, d2, d3, d4, d5, 0)], l2, d6, rfl, ⟨by rw [HX1.out.1]; simp, HX1.out.2⟩, ⟨hJ3⟩, ⟨HB2.out.trans hk3.1⟩, ⟨Nat.le_trans HW.out (Nat.le_trans HS2.out hk3.1.size)⟩, ⟨hk3.2 HN2.out⟩⟩
     ·gi_wp2
      refine bodyPost_ret (results_none rfl _ _ _) rfl ?_
      exact ⟨⟨_, rfl⟩, .inr ⟨pre ++ [(d1, d2, d3, d4, d5, 0)], ⟨l2, by rw [HX1.out.1]; simp⟩, hJx3⟩⟩
    ·rw [if_neg c2] at hit
     obtain rfl := Option.some.inj hit
     have c2a : (d7 != 0) = true := bne_iff_ne.mpr c2
     have HX1 := Aside0.mk (show xs = pre ++ [(d1, d2, d3, d4, d5, d7)] from hxs)
     clear hxs hit HX
     gi_wp2_with ((try gi_at_call 15); refine ⟨trivial, fun h => (by cases h), ?_⟩; (refine (callsIn_wide.2 (target_Decode.calls k1 A0 c0 code at_ d1 d2 d3 d4 d5 d6 d7 _ (Tab.below HT.out (HB.out.mono (Nat.le_refl _))) (Kd.C_below HC.out HB.out) hc0 HD.out)).mono ?_); rintro e w2 ⟨rfl, hb2⟩; obtain ⟨fn, tmps, assign, body, hy, hR⟩ := HY.out pre (d1, d2, d3, d4, d5, d7) (w2.alloc (.cells #[.int .i64 d1, .int .i64 d2, .int .i64 d3, .int .i64 d4, .int .i64 d5] 26)) (by rw [HX1.out]; simp) (abides_below HJ'.out HJs.out (below_alloc hb2 _)) (by rw [HX1.out]; simp); dsimp only [encI] at hy; have HS2 := Aside0.mk (below_alloc hb2 (.cells #[.int .i64 d1, .int .i64 d2, .int .i64 d3, .int .i64 d4, .int .i64 d5] 26)).size; have HB2 := Aside0.mk (HB.out.trans ((below_alloc hb2 (.cells #[.int .i64 d1, .int .i64 d2, .int .i64 d3, .int .i64 d4, .int .i64 d5] 26)).mono HB.out.size)); have HN2 := Aside0.mk (blk_alloc (blk_below HN.out hb2) (.cells #[.int .i64 d1, .int .i64 d2, .int .i64 d3, .int .i64 d4, .int .i64 d5] 26)); clear hb2)
     refine ⟨fun h => (by cases h), hR.mono ?_⟩
     rintro e w3 (⟨rfl, hJ3, hk3⟩ | ⟨rfl, hJx3⟩)
     ·gi_wp2
      refine bodyPost_ret (results_none rfl _ _ _) rfl ?_
      exact ⟨⟨_, rfl⟩, .inl ⟨pre ++ [(d1, d2, d3, d4, d5, d7)], HX1.out.symm, hJ3⟩⟩
     ·gi_wp2
      refine bodyPost_ret (results_none rfl _ _ _) rfl ?_
      exact ⟨⟨_, rfl⟩, .inr ⟨pre ++ [(d1, d2, d3, d4, d5, d7)], ⟨[], by rw [HX1.out]; simp⟩, hJx3⟩⟩
   ·rw [if_neg c1] at hit
    have c1b : decide (at_ < (code.length : Int)) = false := decide_eq_false c1
    obtain rfl := Option.some.inj hit
    gi_wp2
    go_end0
    first | exact ⟨⟨_, rfl⟩, .inl HJs.out⟩ | exact ⟨⟨_, rfl⟩, .inl ⟨pre, by rw [hxs]; simp, HJs.out⟩⟩
end Go.Proofs.YtlaijeeeblcinaaDoor.A

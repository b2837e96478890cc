/- cupellaw23.EmulateNone: machines that are none: contracts, and the law's walk (where the two tables lie). -/
import Derived.Test.YtekhnkpjeofdpaaDoorAwake
set_option linter.unusedVariables false
set_option maxRecDepth 100000
namespace Go.Proofs.YtekhnkpjeofdpaaDoor.A
open Go.RowKit Go.Proofs.YtekhnkpjeofdpaaDoorW.PrintWords Go.Proofs.YtekhnkpjeofdpaaDoorW.PrintLast Go.Proofs.YtekhnkpjeofdpaaDoorW.PrintMore
set_option maxHeartbeats 4000000
/-- a machine that is none: the nil pointer, or one that New has not made -/
def NoneP (w : World) (p : Option Addr) : Prop := p = none ∨ ∃ g, p = some ⟨g, 0, none⟩ ∧ w.cell? ⟨g, 1, none⟩ = some (.slice none 0 0)
theorem NoneP.below {w w1 : World} {p : Option Addr} (h : NoneP w p) (hb : Below w.heap.size w w1) : NoneP w1 p := by
  rcases h with h | ⟨g, h, hc⟩
  · exact .inl h
  · exact .inr ⟨g, h, pw_cell_below hb hc⟩
theorem none_any {w : World} {p : Option Addr} (h : NoneP w p) : Calls Tryd.prog 26 #[.pointer p] w fun e w' => e = .returned (.bool true) ∧ w' = w := by
  rcases h with rfl | ⟨g, rfl, hc⟩
  · exact none_nil w
  · exact none_zero w g hc
theorem step_none {w : World} {p : Option Addr} (h : NoneP w p) : Calls Tryd.prog 13 #[.pointer p] w fun e w' => e = .returned (.tuple #[.bool false, .int .i64 1]) ∧ w' = w := by
  have H := Aside0.mk h
  clear h
  go_enter Tryd.func13, Tryd.ntmps13
  go_wp2_with (go_at_call 26; refine (none_any H.out).mono ?_; rintro e w2 ⟨rfl, rfl⟩)
  go_ret2
  exact ⟨rfl, rfl⟩
theorem peek_none {w : World} {p : Option Addr} (h : NoneP w p) (at_ : Int) : Calls Tryd.prog 20 #[.pointer p, .int .i64 at_] w fun e w' => e = .returned (.tuple #[.int .i64 0, .int .i64 1]) ∧ w' = w := by
  have H := Aside0.mk h
  clear h
  go_enter Tryd.func20, Tryd.ntmps20
  go_wp2_with (go_at_call 26; refine (none_any H.out).mono ?_; rintro e w2 ⟨rfl, rfl⟩)
  go_ret2
  exact ⟨rfl, rfl⟩
theorem state_none {w : World} {p : Option Addr} (h : NoneP w p) : Calls Tryd.prog 18 #[.pointer p] w fun e w' => e = .returned (.tuple #[.agg #[.int .i64 0, .int .i64 0, .int .i64 0, .int .i64 0, .int .i64 0, .int .i64 0, .int .i64 0, .int .i64 0, .int .i64 0, .int .i64 0, .int .i64 0, .int .i64 0, .int .i64 0], .int .i64 1]) ∧ Below w.heap.size w w' := by
  have H := Aside0.mk (fun o => h.below (below_alloc (Below.refl _ _) o))
  clear h
  go_enter Tryd.func18, Tryd.ntmps18
  go_wp2_with (go_at_call 26; refine (none_any (H.out _)).mono ?_; rintro e w2 ⟨rfl, rfl⟩)
  refine bodyPost_ret (results_ct (fn := Tryd.f18) rfl _ _ w.heap.size 44 #[.int .i64 0, .int .i64 0, .int .i64 0, .int .i64 0, .int .i64 0, .int .i64 0, .int .i64 0, .int .i64 0, .int .i64 0, .int .i64 0, .int .i64 0, .int .i64 0, .int .i64 0] (0, 0) _ rfl (blk_new _ _) Tryd.underlying44 rfl (by kernel_rfl)) rfl ?_
  exact ⟨rfl, below_alloc (Below.refl _ _) _⟩
theorem behaviour_none {w : World} {p : Option Addr} (h : NoneP w p) : Calls Tryd.prog 14 #[.pointer p] w fun e w' => e = .returned (.tuple #[.agg #[.slice none 0 0, .int .i64 0, .int .i64 0], .int .i64 1]) ∧ Below w.heap.size w w' := by
  have H := Aside0.mk (fun o => h.below (below_alloc (Below.refl _ _) o))
  clear h
  go_enter Tryd.func14, Tryd.ntmps14
  go_wp2_with (go_at_call 26; refine (none_any (H.out _)).mono ?_; rintro e w2 ⟨rfl, rfl⟩)
  refine bodyPost_ret (results_ct (fn := Tryd.f14) rfl _ _ w.heap.size 28 #[.slice none 0 0, .int .i64 0, .int .i64 0] (0, 0) _ rfl (blk_new _ _) Tryd.underlying28 rfl (by kernel_rfl)) rfl ?_
  exact ⟨rfl, below_alloc (Below.refl _ _) _⟩
theorem eq10 (W : World) : (Op.equalIn 9999 42 (.agg #[.int .i64 0, .int .i64 0, .int .i64 0, .int .i64 0, .int .i64 0, .int .i64 0, .int .i64 0, .int .i64 0, .int .i64 0, .int .i64 0]) (.agg #[.int .i64 0, .int .i64 0, .int .i64 0, .int .i64 0, .int .i64 0, .int .i64 0, .int .i64 0, .int .i64 0, .int .i64 0, .int .i64 0])).run Tryd.prog W = .ok true W := by kernel_rfl
theorem law_none (at_ : Int) (w : World) (hT : Tab w) : Calls Tryd.prog 7 #[.int .i64 at_] w fun e w' => e = .returned (.bool true) ∧ Below w.heap.size w w' := by
  have HT := Aside0.mk hT
  have HB := Aside0.mk (Below.refl w.heap.size w)
  clear hT
  go_enter Tryd.func7, Tryd.ntmps7
  go_wp2
  go_loopg [5] 2 (fun kq v5 wr => ∃ i : Nat, v5 = .int .i64 (i : Int) ∧ i + kq = 2 ∧ Aside0 (wr.heap[w.heap.size]? = some (.cells #[.slice none 0 0, .slice none 0 0, .int .i64 0, .int .i64 0, .int .i64 0, .int .i64 0, .int .i64 0, .int .i64 0, .int .i64 0, .int .i64 0, .int .i64 0, .int .i64 0, .int .i64 0, .int .i64 0, .int .i64 0, .slice none 0 0, .slice none 0 0, .int .i64 0, .int .i64 0] 57 (0, 0))) ∧ Aside0 (wr.heap[w.heap.size + 1]? = some (.cells #[.pointer none, .pointer (some ⟨w.heap.size, 0, none⟩)] 58 (0, 0))) ∧ Aside0 (Below w.heap.size w wr))
  case atStart => exact ⟨0, rfl, rfl, ⟨blk_alloc (blk_new w _) _⟩, ⟨blk_new2 w _ _⟩, ⟨below_alloc (below_alloc HB.out _) _⟩⟩
  case round =>
    clear HB
    obtain ⟨i, rfl, hi, HM, HL, HB⟩ := hrel
    have hwi : wrap64 ((i : Int) + 1) = ((i + 1 : Nat) : Int) := by unfold wrap64; omega
    by_cases ci : i < 2
    · have ci0 : decide ((i : Int) < 2) = true := decide_eq_true (by omega)
      have q1 : (0 : Int) ≤ (i : Int) := by omega
      have q2 : (i : Int) < 2 := by omega
      obtain ⟨p, hp, hN⟩ : ∃ p, wr.cell? ⟨w.heap.size + 1, i, none⟩ = some (.pointer p) ∧ NoneP wr p := by
        rcases (show i = 0 ∨ i = 1 by omega) with rfl | rfl
        · exact ⟨none, (blk_cell HL.out 0).trans rfl, .inl rfl⟩
        · exact ⟨_, (blk_cell HL.out 1).trans rfl, .inr ⟨w.heap.size, rfl, (blk_cell HM.out 1).trans rfl⟩⟩
      have HP := Aside0.mk hN
      have HPC := Aside0.mk hp
      have hi' := Aside0.mk hi
      have hwi' := Aside0.mk hwi
      clear hN hi hwi
      have heq := eq10
      go_wp2_with (first | (go_at_call 13; refine (step_none HP.out).mono ?_; rintro e w2 ⟨rfl, hw⟩; obtain rfl : wr = w2 := hw.symm) | (go_at_call 18; refine (state_none HP.out).mono ?_; rintro e w3 ⟨rfl, hb⟩; have HB3 := Aside0.mk (hb : Below wr.heap.size wr w3); have HP3 := Aside0.mk (fun o => (HP.out.below hb).below (below_alloc (Below.refl _ _) o)); have hp3 := fun o => pw_cell_below (below_alloc (Below.refl _ _) o) (pw_cell_below hb HPC.out); clear hb) | (go_at_call 20; refine (peek_none (HP3.out _) at_).mono ?_; rintro e w4 ⟨rfl, rfl⟩) | (go_at_call 14; refine (behaviour_none (HP3.out _)).mono ?_; rintro e w5 ⟨rfl, hb⟩; have hs5 := blk_below (blk_new w3 (.cells #[.int .i64 0, .int .i64 0, .int .i64 0, .int .i64 0, .int .i64 0, .int .i64 0, .int .i64 0, .int .i64 0, .int .i64 0, .int .i64 0, .int .i64 0, .int .i64 0, .int .i64 0] 44)) hb; have s0 : ∀ o, World.cell? (World.alloc w5 o) ⟨w3.heap.size, 0, none⟩ = some (.int .i64 0) := fun o => (blk_cell (blk_alloc hs5 o) 0).trans rfl; have s1 : ∀ o, World.cell? (World.alloc w5 o) ⟨w3.heap.size, 1, none⟩ = some (.int .i64 0) := fun o => (blk_cell (blk_alloc hs5 o) 1).trans rfl; have s2 : ∀ o, World.cell? (World.alloc w5 o) ⟨w3.heap.size, 2, none⟩ = some (.int .i64 0) := fun o => (blk_cell (blk_alloc hs5 o) 2).trans rfl; have s3 : ∀ o, World.cell? (World.alloc w5 o) ⟨w3.heap.size, 3, none⟩ = some (.int .i64 0) := fun o => (blk_cell (blk_alloc hs5 o) 3).trans rfl; have s4 : ∀ o, World.cell? (World.alloc w5 o) ⟨w3.heap.size, 4, none⟩ = some (.int .i64 0) := fun o => (blk_cell (blk_alloc hs5 o) 4).trans rfl; have s5 : ∀ o, World.cell? (World.alloc w5 o) ⟨w3.heap.size, 5, none⟩ = some (.int .i64 0) := fun o => (blk_cell (blk_alloc hs5 o) 5).trans rfl; have s6 : ∀ o, World.cell? (World.alloc w5 o) ⟨w3.heap.size, 6, none⟩ = some (.int .i64 0) := fun o => (blk_cell (blk_alloc hs5 o) 6).trans rfl; have s7 : ∀ o, World.cell? (World.alloc w5 o) ⟨w3.heap.size, 7, none⟩ = some (.int .i64 0) := fun o => (blk_cell (blk_alloc hs5 o) 7).trans rfl; have s8 : ∀ o, World.cell? (World.alloc w5 o) ⟨w3.heap.size, 8, none⟩ = some (.int .i64 0) := fun o => (blk_cell (blk_alloc hs5 o) 8).trans rfl; have s9 : ∀ o, World.cell? (World.alloc w5 o) ⟨w3.heap.size, 9, none⟩ = some (.int .i64 0) := fun o => (blk_cell (blk_alloc hs5 o) 9).trans rfl; have s10 : ∀ o, World.cell? (World.alloc w5 o) ⟨w3.heap.size, 10, none⟩ = some (.int .i64 0) := fun o => (blk_cell (blk_alloc hs5 o) 10).trans rfl; have s11 : ∀ o, World.cell? (World.alloc w5 o) ⟨w3.heap.size, 11, none⟩ = some (.int .i64 0) := fun o => (blk_cell (blk_alloc hs5 o) 11).trans rfl; have s12 : ∀ o, World.cell? (World.alloc w5 o) ⟨w3.heap.size, 12, none⟩ = some (.int .i64 0) := fun o => (blk_cell (blk_alloc hs5 o) 12).trans rfl; have HB5 := Aside0.mk ((below_alloc HB3.out (.cells #[.int .i64 0, .int .i64 0, .int .i64 0, .int .i64 0, .int .i64 0, .int .i64 0, .int .i64 0, .int .i64 0, .int .i64 0, .int .i64 0, .int .i64 0, .int .i64 0, .int .i64 0] 44)).trans (hb.mono (below_alloc HB3.out (.cells #[.int .i64 0, .int .i64 0, .int .i64 0, .int .i64 0, .int .i64 0, .int .i64 0, .int .i64 0, .int .i64 0, .int .i64 0, .int .i64 0, .int .i64 0, .int .i64 0, .int .i64 0] 44)).size)); clear hb hs5))
      go_roundg (1 - i)
      case measure => have := hi'.out; omega
      case rel => exact ⟨i + 1, by have := hwi'.out; first | rfl | (simpa using this), by have := hi'.out; omega, ⟨blk_alloc (blk_below HM.out HB5.out) _⟩, ⟨blk_alloc (blk_below HL.out HB5.out) _⟩, ⟨below_alloc (HB.out.trans (HB5.out.mono HB.out.size)) _⟩⟩
    · have ci0 : decide ((i : Int) < 2) = false := decide_eq_false (by omega)
      clear hi hwi ci
      go_wp2_with (go_at_call 8; refine (awake_calls _ (Tab.below HT.out HB.out)).mono ?_; rintro e w9 ⟨rfl, hb⟩)
      go_ret
      exact ⟨rfl, below_step HB.out hb⟩
end Go.Proofs.YtekhnkpjeofdpaaDoor.A

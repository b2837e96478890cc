/- cupelref20's reader: next: the next token: the function's plain twin and the contract of its call. -/
import Derived.Test.YtekhnkpjeofdpaaDoorAx6
import Derived.Test.YtekhnkpjeofdpaaDoorAx7
import Derived.Deep.RegionWith
set_option linter.unusedVariables false
namespace Go.Proofs.YtekhnkpjeofdpaaDoor.A
open Go.RowKit Go.Proofs.YtekhnkpjeofdpaaDoorW.PrintWords Go.Proofs.YtekhnkpjeofdpaaDoorW.PrintLast Go.Proofs.YtekhnkpjeofdpaaDoorW.PrintMore
def cupelref20_reader_next.f (k : Nat) (s0_0 : ByteArray) (s0_1 : Int) (s0_2 : Int) (s0_3 : Int) (s0_4 : ByteArray) (s0_5 : Int) (s0_6 : Bool) (s0_7 : Int) : Option (ByteArray × Int × Int × Int × ByteArray × Int × Bool × Int) :=
  if s0_6 = true then some (s0_0, s0_1, s0_2, s0_3, s0_4, s0_5, s0_6, s0_7)
  else (cupelref20_read.f k s0_0 s0_2).bind fun t =>
    if t.2.2.1 = 33 then cupelref20_reader_wrong.f s0_0 t.1 t.2.1 t.2.2.1 t.2.2.2.1 t.2.2.2.2 s0_6 s0_7
    else some (s0_0, t.1, t.2.1, t.2.2.1, t.2.2.2.1, t.2.2.2.2, s0_6, s0_7)
set_option maxHeartbeats 8000000 in
set_option maxRecDepth 100000 in
theorem cupelref20_reader_next.calls (k : Nat) (g : Nat) (s0_0 : ByteArray) (s0_1 : Int) (s0_2 : Int) (s0_3 : Int) (s0_4 : ByteArray) (s0_5 : Int) (s0_6 : Bool) (s0_7 : Int) (r1 : ByteArray) (r2 : Int) (r3 : Int) (r4 : Int) (r5 : ByteArray) (r6 : Int) (r7 : Bool) (r8 : Int) (w0 w : World) (hI : IsS105 w0 w g s0_0 s0_1 s0_2 s0_3 s0_4 s0_5 s0_6 s0_7) (hB : Below w0.heap.size w0 w) (h : cupelref20_reader_next.f k s0_0 s0_1 s0_2 s0_3 s0_4 s0_5 s0_6 s0_7 = some (r1, r2, r3, r4, r5, r6, r7, r8)) :
    Calls Tryd.prog 68 #[.pointer (some ⟨g, 0, none⟩)] w fun e w' => e = .returned (.tuple #[]) ∧ IsS105 w0 w' g r1 r2 r3 r4 r5 r6 r7 r8 ∧ Below w0.heap.size w0 w' ∧ KeepBut w w' g none := by
  obtain ⟨hG, hge⟩ := id hI
  have hc0 := cellS105_0 hG
  have hc1 := cellS105_1 hG
  have hc2 := cellS105_2 hG
  have hc3 := cellS105_3 hG
  have hc4 := cellS105_4 hG
  have hc5 := cellS105_5 hG
  have hc6 := cellS105_6 hG
  have hc7 := cellS105_7 hG
  cases s0_6 with
  | true =>
    simp only [cupelref20_reader_next.f, if_true, Option.some.injEq, Prod.mk.injEq] at h
    obtain ⟨rfl, rfl, rfl, rfl, rfl, rfl, rfl, rfl⟩ := h
    clear hG hge
    have HI := Aside0.mk hI
    have HB := Aside0.mk hB
    clear hI hB
    go_enter Tryd.func68, Tryd.ntmps68
    go_wp2
    go_end0
    exact ⟨rfl, HI.out, HB.out, KeepBut.refl _ _ _⟩
  | false =>
    simp only [cupelref20_reader_next.f, Bool.false_eq_true, if_false] at h
    cases hrd : cupelref20_read.f k s0_0 s0_2 with
    | none => rw [hrd] at h; cases h
    | some t =>
      obtain ⟨t1, t2, t3, t4, t5⟩ := t
      rw [hrd] at h
      simp only [Option.bind_some] at h
      have HH := Aside0.mk h
      have HR := Aside0.mk hrd
      have HI := Aside0.mk hI
      have HB := Aside0.mk hB
      clear h hrd hI hB
      go_enter Tryd.func68, Tryd.ntmps68
      go_wp2
      go_region_with (go_at_call 80; refine (cupelref20_read.calls k s0_0 s0_2 t1 t2 t3 t4 t5 _ HR.out).mono ?_; rintro e w2 ⟨rfl, hb2⟩; have hG2 := Aside0.mk (blk_below (blk_drew hG) hb2); have hd1 := cellS105_1 hG2.out; have hd2 := cellS105_2 hG2.out; have hd3 := cellS105_3 hG2.out; have hd4 := cellS105_4 hG2.out; have hd5 := cellS105_5 hG2.out; have hf1 := blk_frozen hG2.out 1; have hf2 := blk_frozen hG2.out 2; have hf3 := blk_frozen hG2.out 3; have hf4 := blk_frozen hG2.out 4; have hf5 := blk_frozen hG2.out 5)
      all_goals
        have hI2 : IsS105 w0 w2 g s0_0 s0_1 s0_2 s0_3 s0_4 s0_5 false s0_7 := ⟨hG2.out, hge⟩
        have HI3 := Aside0.mk (((((hI2.set_1 t1).set_2 t2).set_3 t3).set_4 t4).set_5 t5)
        have b2 : Below w0.heap.size w0 w2 := below_step (below_drew1 HB.out) hb2
        have HB3 := Aside0.mk (below_set (j := 5) (v := .int .i64 t5) (below_set (j := 4) (v := .string t4) (below_set (j := 3) (v := .int .u8 t3) (below_set (j := 2) (v := .int .i64 t2) (below_set (j := 1) (v := .int .i64 t1) b2 hge) hge) hge) hge) hge)
        have HK3 := Aside0.mk (((((KeepBut.set_ (show KeepBut w w2 g none from KeepBut.of_below (w := w.drew) hb2 g none) 1 (.int .i64 t1)).set_ 2 (.int .i64 t2)).set_ 3 (.int .u8 t3)).set_ 4 (.string t4)).set_ 5 (.int .i64 t5))
        clear hG2 hd1 hd2 hd3 hd4 hd5 hf1 hf2 hf3 hf4 hf5 hI2 b2 hb2 hc0 hc1 hc2 hc3 hc4 hc5 hc6 hc7 hG
        generalize World.setCell _ _ _ = w3 at HI3 HB3 HK3 ⊢
        have hz3 := cellS105_3 HI3.out.1
        by_cases c : t3 = 33
        · subst c
          have HW := Aside0.mk (by have q := HH.out; rw [if_pos rfl] at q; exact q)
          clear HH
          go_wp2_with (first | (go_at_call 74; refine (cupelref20_reader_wrong.calls g s0_0 t1 t2 33 t4 t5 false s0_7 r1 r2 r3 r4 r5 r6 r7 r8 w0 _ HI3.out HB3.out HW.out).mono ?_; rintro e w4 ⟨rfl, hi4, hb4, hk4⟩; have HI4 := Aside0.mk hi4; have HB4 := Aside0.mk hb4; have HK4 := Aside0.mk hk4; clear hi4 hb4 hk4))
          go_end0
          exact ⟨rfl, HI4.out, HB4.out, HK3.out.trans HK4.out (.inl rfl)⟩
        · have q := HH.out
          rw [if_neg c] at q
          simp only [Option.some.injEq, Prod.mk.injEq] at q
          obtain ⟨rfl, rfl, rfl, rfl, rfl, rfl, rfl, rfl⟩ := q
          clear HH
          go_wp2
          go_end0
          exact ⟨rfl, HI3.out, HB3.out, HK3.out⟩
end Go.Proofs.YtekhnkpjeofdpaaDoor.A

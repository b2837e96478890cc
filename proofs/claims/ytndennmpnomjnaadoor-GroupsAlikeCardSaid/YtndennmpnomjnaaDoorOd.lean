/- What groups.Key asks of the ways: is there one that is no words with single blanks between them: the function value, slices.IndexFunc and slices.ContainsFunc over the outcomes. -/
import Derived.Test.YtndennmpnomjnaaDoorBd2
set_option linter.all false
set_option linter.unusedVariables false
set_option maxRecDepth 100000
namespace Go.Proofs.YtndennmpnomjnaaDoor.A
open Go.RowKit Go.Proofs.YtndennmpnomjnaaDoorW.PrintWords Go.Proofs.YtndennmpnomjnaaDoorW.PrintLast Go.Proofs.YtndennmpnomjnaaDoorW.PrintMore
set_option maxHeartbeats 4000000
/-- A way that is none: one of its words is empty. -/
def oddW (s : ByteArray) : Bool := Lib.containsS (Lib.splitB blankB 0 (Lib.countB s blankB) s) ⟨#[]⟩
theorem odd1_calls (s : ByteArray) (v1 v2 v3 : Value) (w : World) (hs : s.size ≤ 1000000) (hE : Env w) :
  Calls Tryd.prog 21 #[.agg #[.string s, v1, v2, v3]] w fun e w' => e = .returned (.bool (oddW s)) ∧ Below w.heap.size w w' := by
 have hS : ∀ o : Obj, Calls Tryd.prog 23 #[.string s, .string blankB] (w.alloc o) fun e w' => e = .returned (.slice (some ⟨(w.alloc o).heap.size, 0, none⟩) (Lib.countB s blankB + 1) (Lib.countB s blankB + 1)) ∧ w' = (w.alloc o).alloc (.cells ((Lib.splitB blankB 0 (Lib.countB s blankB) s).map Value.string).toArray 9) := fun o => by
  obtain ⟨m, hm⟩ := (hE.below (below_alloc (Below.refl w.heap.size w) o) hE.big).len
  exact Tryd.strings_Split s blankB m (w.alloc o) (by omega) hm (by decide)
 obtain ⟨L, hL⟩ : ∃ L, L = Lib.splitB blankB 0 (Lib.countB s blankB) s := ⟨_, rfl⟩
 have hlen : L.length = Lib.countB s blankB + 1 := by rw [hL]; exact Lib.splitB_all blankB (by decide) 0 _ s rfl
 have hodd : oddW s = Lib.containsS (L.take L.length) ⟨#[]⟩ := by rw [List.take_of_length_le (Nat.le_refl _), hL]; rfl
 rw [← hL, ← hlen] at hS
 have hll : L.length ≤ 9223372036854775807 := by
  have := Lib.countB_le blankB (by decide) s.size s (Nat.le_refl _)
  omega
 have hC := fun (o : Obj) => Tryd.slices_Contains_string (w.heap.size + 1) 0 L.length L.length L ⟨#[]⟩ ((w.alloc o).alloc (.cells (L.map Value.string).toArray 9)) (Nat.le_refl _) hll (fun j hj => by
  have e : (w.alloc o).heap.size = w.heap.size + 1 := by simp
  rw [← e]
  simp [hj])
 have e1 : ∀ o : Obj, (w.alloc o).heap.size = w.heap.size + 1 := fun o => by simp
 simp only [e1] at hS
 rw [← hodd] at hC
 generalize oddW s = R at hC ⊢
 generalize Obj.cells (L.map Value.string).toArray 9 = O at hS hC
 generalize L.length = q at *
 have HS := Aside0.mk hS
 have HC := Aside0.mk hC
 clear hS hC hodd hlen hL hll e1 hE hs
 go_enter Tryd.func21, Tryd.ntmps21
 go_wp2_with (first | (go_at_call 23; refine (HS.out _).mono ?_; rintro e w' ⟨rfl, rfl⟩) | (go_at_call 22; refine (HC.out _).mono ?_; rintro e w2 ⟨rfl, rfl⟩))
 go_ret
 exact ⟨rfl, below_alloc (below_alloc (Below.refl _ _) _) _⟩
def oddAny (l : List S45) : Bool := l.any (fun o => oddW o.f0)
theorem indexFunc_calls (A0 : Option Addr) (c0 : Nat) (l0 : List S45) (w : World) (hr0 : Kd.C k45 w A0 l0.length l0) (hwf : ∀ o ∈ l0, o.f0.size ≤ 1000000) (hE : Env w) :
  Calls Tryd.prog 41 #[.slice A0 l0.length c0, .func (.func 21) #[] #[]] w fun e w' => ∃ v : Int, e = .returned (.int .i64 v) ∧ decide (0 ≤ v) = oddAny l0 ∧ Below w.heap.size w w' := by
 have HR0 := Aside0.mk hr0
 have HWF := Aside0.mk hwf
 have HE := Aside0.mk hE
 have hmax : l0.length ≤ 9223372036854775807 := hr0.2.1
 have e21 : ∀ args w, (callFunc 21 args).run Tryd.prog w = .ok (.enter 21 args) w := Go.Proofs.enters_of Tryd.func21 (by kernel_rfl) rfl
 clear hr0 hwf hE
 go_enter Tryd.func41, Tryd.ntmps41
 go_wp2
 go_loopg [8] l0.length (fun kx v8 wr => ∃ i : Int, v8 = .int .i64 i ∧ 0 ≤ i ∧ i ≤ l0.length ∧ l0.length - i.toNat ≤ kx ∧ Aside0 (Below w.heap.size w wr) ∧ Aside0 (oddAny (l0.take i.toNat) = false))
 case atStart => exact ⟨0, rfl, by omega, by omega, by omega, ⟨Below.refl _ _⟩, ⟨by simp [oddAny]⟩⟩
 case round =>
  obtain ⟨i, rfl, hi0, hi1, hkx, HB, HN⟩ := hrel
  by_cases hlt : i < (l0.length : Int)
  ·obtain ⟨ad, A1, c1, rfl, hx0, hx1, hx2, hx3, _, _⟩ := at_T45 HR0.out i hi0 hlt
   replace hx0 := (HB.out.cell (World.block_lt_of_cell? w _ hx0)).trans hx0
   replace hx1 := (HB.out.cell (World.block_lt_of_cell? w _ hx1)).trans hx1
   replace hx2 := (HB.out.cell (World.block_lt_of_cell? w _ hx2)).trans hx2
   replace hx3 := (HB.out.cell (World.block_lt_of_cell? w _ hx3)).trans hx3
   have hmem : rd_T45 l0 i ∈ l0 := by
    unfold rd_T45
    rw [List.getD_eq_getElem?_getD, List.getElem?_eq_getElem (show i.toNat < l0.length by omega)]
    exact List.getElem_mem _
   have HO := Aside0.mk (odd1_calls (rd_T45 l0 i).f0 (.slice A1 (rd_T45 l0 i).f1.f0.length c1) (.int .i64 (rd_T45 l0 i).f1.f1) (.int .i64 (rd_T45 l0 i).f1.f2) wr (HWF.out _ hmem) (HE.out.below HB.out HE.out.big))
   have hi0' := eq_true hi0
   have hw1 : IntKind.i64.wrap (i + 1) = i + 1 := by rw [IntKind.wrap_i64]; omega
   have hstep : oddAny (l0.take (i + 1).toNat) = oddW (rd_T45 l0 i).f0 := by
    rw [show (i + 1).toNat = i.toNat + 1 by omega, List.take_add_one, List.getElem?_eq_getElem (show i.toNat < l0.length by omega)]
    have hn := HN.out
    unfold oddAny at hn ⊢
    rw [List.any_append, hn]
    simp [rd_T45, List.getElem?_eq_getElem (show i.toNat < l0.length by omega)]
   have hany : oddW (rd_T45 l0 i).f0 = true → oddAny l0 = true := fun h => by
    unfold oddAny
    exact List.any_eq_true.2 ⟨_, hmem, h⟩
   clear hmem
   obtain ⟨q, hq⟩ : ∃ q, q = oddW (rd_T45 l0 i).f0 := ⟨_, rfl⟩
   rw [← hq] at HO hstep hany
   clear hq
   have HST := Aside0.mk hstep
   have HAN := Aside0.mk hany
   clear hstep hany
   cases q with
   | true =>
    have HAT := Aside0.mk (HAN.out rfl)
    clear HAN
    go_wp2_with (go_at_call 21; refine HO.out.mono ?_; rintro e w2 ⟨rfl, hb2⟩)
    go_ret
    exact ⟨i, rfl, by rw [HAT.out]; exact decide_eq_true hi0, below_step HB.out hb2⟩
   | false =>
    go_wp2_with (go_at_call 21; refine HO.out.mono ?_; rintro e w2 ⟨rfl, hb2⟩)
    have HB2 := Aside0.mk (below_step HB.out hb2)
    clear hb2
    go_roundg (l0.length - (i + 1).toNat)
    case measure => omega
    case rel => exact ⟨i + 1, rfl, by omega, by omega, Nat.le_refl _, HB2, HST⟩
  ·obtain rfl : i = (l0.length : Int) := by omega
   go_wp2
   go_ret
   have hn : oddAny l0 = false := by have := HN.out; rwa [Int.toNat_natCast, List.take_of_length_le (Nat.le_refl _)] at this
   exact ⟨-1, rfl, by rw [hn]; rfl, HB.out⟩
theorem containsFunc_calls (A0 : Option Addr) (c0 : Nat) (l0 : List S45) (w : World) (hr0 : Kd.C k45 w A0 l0.length l0) (hwf : ∀ o ∈ l0, o.f0.size ≤ 1000000) (hE : Env w) :
  Calls Tryd.prog 20 #[.slice A0 l0.length c0, .func (.func 21) #[] #[]] w fun e w' => e = .returned (.bool (oddAny l0)) ∧ Below w.heap.size w w' := by
 have HC := Aside0.mk (indexFunc_calls A0 c0 l0 w hr0 hwf hE)
 clear hr0 hwf hE
 go_enter Tryd.func20, Tryd.ntmps20
 go_wp2_with (go_at_call 41; refine HC.out.mono ?_; rintro e w2 ⟨v, rfl, hv, hb⟩)
 go_ret
 exact ⟨by rw [← hv]; rfl, hb⟩
end Go.Proofs.YtndennmpnomjnaaDoor.A

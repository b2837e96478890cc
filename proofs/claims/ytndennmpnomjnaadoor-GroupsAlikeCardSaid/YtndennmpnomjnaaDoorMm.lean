/- slices.Min and slices.Max of a slice that is not empty, and slices.MinFunc with the order of groups.Represent (by the sizes, which the function value holds in a variable): plain twins and contracts. -/
import Derived.Test.YtndennmpnomjnaaDoorAx0
import Derived.Test.YtndennmpnomjnaaDoorShelf
set_option linter.all false
set_option linter.unusedVariables false
namespace Go.Proofs.YtndennmpnomjnaaDoor.A
open Go.RowKit Go.Proofs.YtndennmpnomjnaaDoorW.PrintWords Go.Proofs.YtndennmpnomjnaaDoorW.PrintLast Go.Proofs.YtndennmpnomjnaaDoorW.PrintMore
/-- The first number that is the least. -/
def slices_Min_int_int.f (l0 : List Int) : Option Int := if 0 < l0.length then some (Lib.minOf l0) else none
def slices_Max_int_int.f (l0 : List Int) : Option Int := if 0 < l0.length then some (Lib.maxOf l0) else none
theorem ints_plain {w : World} {A : Option Addr} {l : List Int} (h : Kd.C (Kd.int .i64) w A l.length l) (hp : 0 < l.length) : ∃ b off, A = some ⟨b, off, none⟩ ∧ ∀ j, j < l.length → w.cell? ⟨b, off + j, none⟩ = some (.int .i64 (l.getD j 0)) := by
 obtain ⟨ad, e, h0⟩ := Kd.at_int h 0 (by omega) (by omega)
 obtain ⟨b, off, z⟩ := ad
 cases z with
 | some z =>
  simp [World.cell?, Addr.add] at h0
  split at h0 <;> cases h0
 | none =>
  refine ⟨b, off, e, fun j hj => ?_⟩
  obtain ⟨ad, e', h1⟩ := Kd.at_int h (j : Int) (by omega) (by omega)
  obtain rfl : (⟨b, off, none⟩ : Addr) = ad := by rw [e] at e'; exact Option.some.inj e'
  by_cases hz : j = 0
  ·subst hz; simpa [Addr.add, rd] using h1
  ·simpa [Addr.add, rd, hz] using h1
theorem slices_Min_int_int.calls (A0 : Option Addr) (c0 : Nat) (l0 : List Int) (r : Int) (w : World) (hr0 : Kd.C (Kd.int .i64) w A0 l0.length l0) (hc0 : l0.length ≤ c0) (h : slices_Min_int_int.f l0 = some r) :
  Calls Tryd.prog 31 #[.slice A0 l0.length c0] w fun e w' => e = .returned (.int .i64 r) ∧ Drawn0 w w' := by
 unfold slices_Min_int_int.f at h
 by_cases hp : 0 < l0.length
 ·rw [if_pos hp] at h
  obtain rfl := Option.some.inj h
  obtain ⟨b, off, rfl, hc⟩ := ints_plain hr0 hp
  refine Calls.mono (Go.Proofs.Tryd.slices_Min_int b off l0.length c0 l0 w hp (Nat.le_refl _) hr0.2.1 hc) ?_
  rintro e w' ⟨rfl, rfl⟩
  rw [List.take_of_length_le (Nat.le_refl _)]
  exact ⟨rfl, Drawn0.refl _⟩
 ·rw [if_neg hp] at h; cases h
theorem slices_Max_int_int.calls (A0 : Option Addr) (c0 : Nat) (l0 : List Int) (r : Int) (w : World) (hr0 : Kd.C (Kd.int .i64) w A0 l0.length l0) (hc0 : l0.length ≤ c0) (h : slices_Max_int_int.f l0 = some r) :
  Calls Tryd.prog 32 #[.slice A0 l0.length c0] w fun e w' => e = .returned (.int .i64 r) ∧ Drawn0 w w' := by
 unfold slices_Max_int_int.f at h
 by_cases hp : 0 < l0.length
 ·rw [if_pos hp] at h
  obtain rfl := Option.some.inj h
  obtain ⟨b, off, rfl, hc⟩ := ints_plain hr0 hp
  refine Calls.mono (Go.Proofs.Tryd.slices_Max_int b off l0.length c0 l0 w hp (Nat.le_refl _) hr0.2.1 hc) ?_
  rintro e w' ⟨rfl, rfl⟩
  rw [List.take_of_length_le (Nat.le_refl _)]
  exact ⟨rfl, Drawn0.refl _⟩
 ·rw [if_neg hp] at h; cases h
/-- How two members stand by their sizes. -/
def cmpS (l1 : List Int) (a b : Int) : Int := if rd l1 a < rd l1 b then -1 else if rd l1 b < rd l1 a then 1 else 0
set_option maxHeartbeats 1000000 in
theorem cmpS_calls (A1 : Option Addr) (c1 bx : Nat) (l1 : List Int) (a b : Int) (w : World) (hr : Kd.C (Kd.int .i64) w A1 l1.length l1) (hbx : w.cell? ⟨bx, 0, none⟩ = some (.slice A1 l1.length c1)) (ha0 : 0 ≤ a) (ha1 : a < l1.length) (hb0 : 0 ≤ b) (hb1 : b < l1.length) :
  Calls Tryd.prog 34 #[.int .i64 a, .int .i64 b, .pointer (some ⟨bx, 0, none⟩)] w fun e w' => e = .returned (.int .i64 (cmpS l1 a b)) ∧ Drawn0 w w' := by
 obtain ⟨ad, e, hca⟩ := Kd.at_int hr a ha0 ha1
 obtain ⟨ad', e', hcb⟩ := Kd.at_int hr b hb0 hb1
 obtain rfl : ad = ad' := by rw [e] at e'; exact Option.some.inj e'
 subst e
 have hal : l1.length ≤ 9223372036854775807 := hr.2.1
 clear hr e'
 have pa := eq_true ha0
 have pb := eq_true hb0
 have qa := eq_true ha1
 have qb := eq_true hb1
 generalize hx : rd l1 a = x at hca
 generalize hy : rd l1 b = y at hcb
 by_cases h1 : x < y
 ·have e1 : cmpS l1 a b = -1 := by unfold cmpS; rw [hx, hy, if_pos h1]
  rw [e1]
  clear e1 hx hy
  go_enter Tryd.func34, Tryd.ntmps34
  go_wp2
  repeat (go_quiet (fail); try go_wp2)
  go_ret
  exact ⟨rfl, by repeat (first | exact Drawn0.refl _ | apply Drawn0.step)⟩
 ·by_cases h2 : y < x
  ·have e1 : cmpS l1 a b = 1 := by unfold cmpS; rw [hx, hy, if_neg h1, if_pos h2]
   rw [e1]
   clear e1 hx hy
   go_enter Tryd.func34, Tryd.ntmps34
   go_wp2
   repeat (go_quiet (fail); try go_wp2)
   go_ret
   exact ⟨rfl, by repeat (first | exact Drawn0.refl _ | apply Drawn0.step)⟩
  ·have e1 : cmpS l1 a b = 0 := by unfold cmpS; rw [hx, hy, if_neg h1, if_neg h2]
   rw [e1]
   clear e1 hx hy
   go_enter Tryd.func34, Tryd.ntmps34
   go_wp2
   repeat (go_quiet (fail); try go_wp2)
   go_ret
   exact ⟨rfl, by repeat (first | exact Drawn0.refl _ | apply Drawn0.step)⟩
/-- The loop of MinFunc: the best so far, the place. -/
def minLoop (l0 l1 : List Int) : Nat → Int → Nat → Int
 | 0, m, _ => m
 | n + 1, m, i => if i < l0.length then minLoop l0 l1 n (if cmpS l1 (l0.getD i 0) m < 0 then l0.getD i 0 else m) (i + 1) else m
def slices_MinFunc_int_int.f (k : Nat) (l0 l1 : List Int) : Option Int := if 0 < l0.length ∧ ∀ x ∈ l0, 0 ≤ x ∧ x < l1.length then some (minLoop l0 l1 (l0.length - 1) (l0.getD 0 0) 1) else none
theorem slices_MinFunc_int_int.mono : ∀ a0 a1 k, LeO (slices_MinFunc_int_int.f k a0 a1) (slices_MinFunc_int_int.f (k + 1) a0 a1) := fun _ _ _ => LeO.refl _
set_option maxHeartbeats 2000000 in
theorem slices_MinFunc_int_int.calls (k : Nat) (A0 : Option Addr) (c0 : Nat) (l0 : List Int) (A1 : Option Addr) (c1 : Nat) (l1 : List Int) (r : Int) (w : World) (hr0 : Kd.C (Kd.int .i64) w A0 l0.length l0) (hc0 : l0.length ≤ c0) (hr1 : Kd.C (Kd.int .i64) w A1 l1.length l1) (hc1 : l1.length ≤ c1) (h : slices_MinFunc_int_int.f k l0 l1 = some r)
  (bx : Nat) (hbx : w.cell? ⟨bx, 0, none⟩ = some (.slice A1 l1.length c1)) :
  Calls Tryd.prog 33 #[.slice A0 l0.length c0, .func (.func 34) #[] #[.pointer (some ⟨bx, 0, none⟩)]] w fun e w' => e = .returned (.int .i64 r) ∧ Drawn0 w w' := by
 unfold slices_MinFunc_int_int.f at h
 by_cases hp : 0 < l0.length ∧ ∀ x ∈ l0, 0 ≤ x ∧ x < l1.length
 ·rw [if_pos hp] at h
  obtain rfl := Option.some.inj h
  obtain ⟨hp, hin⟩ := hp
  obtain ⟨b, off, rfl, hc⟩ := ints_plain hr0 hp
  have hlen : l0.length ≤ 9223372036854775807 := hr0.2.1
  have HC := Aside0.mk hc
  have HR1 := Aside0.mk hr1
  have HBX := Aside0.mk hbx
  have HIN : Aside0 (∀ i, i < l0.length → 0 ≤ l0.getD i 0 ∧ l0.getD i 0 < l1.length) := ⟨fun i hi => by
   rw [List.getD_eq_getElem?_getD, List.getElem?_eq_getElem hi]; exact hin _ (List.getElem_mem hi)⟩
  have e34 : ∀ args w, (callFunc 34 args).run Tryd.prog w = .ok (.enter 34 args) w := Go.Proofs.enters_of Tryd.func34 (by kernel_rfl) rfl
  have h0 : w.cell? ⟨b, off, none⟩ = some (.int .i64 (l0.getD 0 0)) := hc 0 hp
  have hpz : (0 : Int) < (l0.length : Int) := by omega
  have hpz1 : ¬ (l0.length : Int) < 1 := by omega
  obtain ⟨first, hfirst⟩ : ∃ x, x = l0.getD 0 0 := ⟨_, rfl⟩
  rw [← hfirst] at h0 ⊢
  have HF := Aside0.mk hfirst
  clear hfirst hc hr0 hr1 hbx hin hc1
  go_enter Tryd.func33, Tryd.ntmps33
  go_wp2
  go_loopg [5, 6] l0.length (fun kx v5 v6 wr => ∃ (m i : Int) (q : Nat), v5 = .int .i64 m ∧ v6 = .int .i64 i ∧ 1 ≤ i ∧ i ≤ l0.length ∧ l0.length - i.toNat ≤ kx ∧ wr = w.drewN q ∧ Aside0 (0 ≤ m ∧ m < l1.length) ∧ Aside0 (minLoop l0 l1 (l0.length - i.toNat) m i.toNat = minLoop l0 l1 (l0.length - 1) first 1))
  case atStart => exact ⟨first, 1, 0, rfl, rfl, by omega, by omega, by omega, rfl, ⟨by rw [HF.out]; exact HIN.out 0 hp⟩, ⟨rfl⟩⟩
  case round =>
   obtain ⟨m, i, q, rfl, rfl, hi1, hi2, hkx, rfl, HM, HE⟩ := hrel
   by_cases hlt : i < (l0.length : Int)
   ·have hcl : w.cell? ⟨b, off + i.toNat, none⟩ = some (.int .i64 (l0.getD i.toNat 0)) := HC.out i.toNat (by omega)
    have hbi := HIN.out i.toNat (by omega)
    obtain ⟨x, hx⟩ : ∃ x, x = l0.getD i.toNat 0 := ⟨_, rfl⟩
    rw [← hx] at hcl hbi
    have hcs := cmpS_calls A1 c1 bx l1 x m (w.drewN q) (Kd.C_drewN HR1.out q) HBX.out hbi.1 hbi.2 HM.out.1 HM.out.2
    have hcl' : ∀ n, (w.drewN n).cell? ⟨b, off + i.toNat, none⟩ = some (.int .i64 x) := fun _ => hcl
    have HCS := Aside0.mk hcs
    have HBI := Aside0.mk hbi
    have step : minLoop l0 l1 (l0.length - i.toNat) m i.toNat = minLoop l0 l1 (l0.length - (i + 1).toNat) (if cmpS l1 x m < 0 then x else m) (i + 1).toNat := by
     rw [show l0.length - i.toNat = (l0.length - (i + 1).toNat) + 1 by omega, minLoop, if_pos (by omega), ← hx, show (i + 1).toNat = i.toNat + 1 by omega]
    rw [step] at HE
    have hi0 := eq_true (show 0 ≤ i by omega)
    have hw1 : IntKind.i64.wrap (i + 1) = i + 1 := by rw [IntKind.wrap_i64]; omega
    clear hcs hbi step hcl hx
    by_cases hm : cmpS l1 x m < 0
    ·rw [if_pos hm] at HE
     have hmd := decide_eq_true hm
     go_wp2_with (go_at_call 34; refine HCS.out.mono ?_; rintro e w' ⟨rfl, nd, rfl⟩)
     go_roundg (l0.length - (i + 1).toNat)
     case measure => omega
     case rel => exact ⟨x, i + 1, _, rfl, rfl, by omega, by omega, Nat.le_refl _, rfl, HBI, HE⟩
    ·rw [if_neg hm] at HE
     have hmd := decide_eq_false hm
     go_wp2_with (go_at_call 34; refine HCS.out.mono ?_; rintro e w' ⟨rfl, nd, rfl⟩)
     go_roundg (l0.length - (i + 1).toNat)
     case measure => omega
     case rel => exact ⟨m, i + 1, _, rfl, rfl, by omega, by omega, Nat.le_refl _, rfl, HM, HE⟩
   ·obtain rfl : i = (l0.length : Int) := by omega
    go_wp2
    go_ret
    have e := HE.out
    rw [Int.toNat_natCast, Nat.sub_self] at e
    refine ⟨?_, q, rfl⟩
    rw [← e]
    rfl
 ·rw [if_neg hp] at h; cases h
end Go.Proofs.YtndennmpnomjnaaDoor.A

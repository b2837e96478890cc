/- The library's symMerge: the right part is one element. -/
import Derived.Shelf.SlSortCmp.KitK
import Derived.Sort.WalkB2
import Derived.Sort.WalkB12
import Derived.Deep.LoopGhost
import Derived.Deep.Cut
import Derived.Deep.DeepCutAuto
import Derived.Test.YtndennmpnomjnaaDoorSortSt
import Derived.Test.YtndennmpnomjnaaDoorSy0
set_option linter.all false
set_option linter.unusedVariables false
namespace Go.Proofs.YtndennmpnomjnaaDoor.A
open Go.Shelf Go.RowKit Go.Lib Go.Sort Go.Proofs Go.Proofs.YtndennmpnomjnaaDoor.SortSt
variable {P : Program} {α : Type} [Inhabited α]
set_option maxHeartbeats 16000000 in
set_option maxRecDepth 1000000 in
theorem sym_two (L : StL P) (k : Nat) (aE : ∀ w, (isAgg 57).run P w = .ok true w) (zE : ∀ w, (Go.sizeOf 57).run P w = .ok k w) (enc : α → List Value) (cf : α → α → Int) (lt' : α → α → Bool) (hS : SWO lt') (g : Nat) (cb : Array Value) (blk off cap : Nat) (d0 : Array α) (w0 : World)
  (eg : ∀ args w, (callFunc g args).run P w = .ok (.enter g args) w) (hcmp : CmpLays P g cb enc k cf blk off d0.size w0) (R : RowK enc k w0 blk off d0) (hsz : d0.size < 4611686018427387904)
  (a m b : Nat) (d : Array α) (w : World) (hs : d0.size = d.size) (S : SWK enc k w0 blk off d w) (ham : a < m) (hmb : m < b) (hb : b ≤ d.size) (M : Mer (ltOf cf) lt' a m b d)
  (c1 : ¬ m = a + 1) (c2 : b = m + 1) : SymC P g cb enc k lt' blk off cap w0 a m b d w := by
 have hszd : d.size < 4611686018427387904 := by omega
 have HM := asd M
 have HC := asd hcmp
 have S0 := asd S
 have HSO := asd hS
 clear M hcmp S hS hsz
 have mixed := L.mixed; have t0 := L.t0; have a0 := L.a0; have z0 := L.z0; have v0 := L.v0; have t3 := L.t3; have a3 := L.a3; have z3 := L.z3; have v3 := L.v3; have t4 := L.t4; have a4 := L.a4; have z4 := L.z4; have v4 := L.v4; have t47 := L.t47; have a47 := L.a47; have z47 := L.z47; have v47 := L.v47; have t76 := L.t76; have a76 := L.a76; have z76 := L.z76; have v76 := L.v76; have t109 := L.t109; have a109 := L.a109; have z109 := L.z109; have v109 := L.v109; have u47 := run_underlying L.t47
 have e63 : ∀ args w, (callFunc 63 args).run P w = .ok (.enter 63 args) w := enters_of L.f63 (by kernel_rfl) rfl
 have e74 : ∀ args w, (callFunc 74 args).run P w = .ok (.enter 74 args) w := enters_of L.f74 (by kernel_rfl) rfl
 have rma : IntKind.i64.wrap ((m : Int) - (a : Int)) = (m : Int) - (a : Int) := by rw [IntKind.wrap_i64]; omega
 have rbm : IntKind.i64.wrap ((b : Int) - (m : Int)) = (b : Int) - (m : Int) := by rw [IntKind.wrap_i64]; omega
 unfold SymC
 go_enter L.f63, Tryd.ntmps63
 have c1a : ((m : Int) - (a : Int) == 1) = false := by simp; omega
 have c1b : ¬ (m : Int) - (a : Int) = 1 := by omega
 have c2a : ((b : Int) - (m : Int) == 1) = true := by simp; omega
 have c2b : (b : Int) - (m : Int) = 1 := by omega
 have C2 := asd c2
 have hbm : m + 1 ≤ b := by omega
 clear c2
 go_wp2
 go_loopg [14, 15] (m - a) (fun kx s14 s15 wr => ∃ (i j : Nat), s14 = .int .i64 i ∧ s15 = .int .i64 j ∧ a ≤ i ∧ i ≤ j ∧ j ≤ m ∧ j - i ≤ kx ∧ Aside (SWK enc k w0 blk off d wr) ∧ Hid ((i = a ∨ ltOf cf d[m]! d[i - 1]! = false) ∧ (j = m ∨ ltOf cf d[m]! d[j]! = true)))
 case atStart => exact ⟨a, m, rfl, rfl, Nat.le_refl _, by omega, Nat.le_refl _, Nat.le_refl _, S0, .inl rfl, .inl rfl⟩
 case round =>
  obtain ⟨i, j, rfl, rfl, hai, hij, hjm, hkx, S1, HE⟩ := hrel
  clear S0
  by_cases hlt : i < j
  ·have hltz : (i : Int) < (j : Int) := by omega
   cases hL : ltOf cf d[m]! d[(i + j) / 2]! with
   | false =>
    have ea1 : ((m : Int)).toNat = m := by omega
    have pa1 : (0 : Int) ≤ (m : Int) := by omega
    have ba1 : (m : Int) < (d.size : Int) := by omega
    have ra1 : IntKind.i64.wrap ((m : Int)) = (m : Int) := by rw [IntKind.wrap_i64]; omega
    have ec1 : (((i : Int) + (j : Int)) / 2).toNat = (i + j) / 2 := by omega
    have pc1 : (0 : Int) ≤ ((i : Int) + (j : Int)) / 2 := by omega
    have bc1 : ((i : Int) + (j : Int)) / 2 < (d.size : Int) := by omega
    have rc1 : IntKind.i64.wrap (((i : Int) + (j : Int)) / 2) = ((i : Int) + (j : Int)) / 2 := by rw [IntKind.wrap_i64]; omega
    obtain ⟨x1, hx1⟩ : ∃ x, x = d[m]! := ⟨_, rfl⟩
    obtain ⟨y1, hy1⟩ : ∃ x, x = d[(i + j) / 2]! := ⟨_, rfl⟩
    have l1a := S1.out.ld R (by omega) P (m) (by omega)
    have l1b := S1.out.ld R (by omega) P ((i + j) / 2) (by omega)
    rw [← hx1] at l1a
    rw [← hy1] at l1b
    have hc1 := S1.out.cmp HC.out (by omega) x1 y1
    have hd1 : decide (cf x1 y1 < 0) = false := by rw [hx1, hy1]; exact hL
    have hv1 : ¬ (cf x1 y1 < 0) := of_decide_eq_false hd1
    clear hx1 hy1
    go_wp2_with fail
    go_quiet_grown (first | (go_at_fn g; refine Calls.grown_of (hc1 _ _)))
    have S2 : Aside (SWK enc k w0 blk off d (grow (wr.drewN nq) osq)) := S1.out.grown nq osq
    clear l1a l1b hc1 S1
    generalize grow (wr.drewN nq) osq = w2 at S2 ⊢
    clear nq osq
    go_wp2
    go_roundg (j - ((i + j) / 2 + 1))
    case measure => omega
    case rel => exact ⟨(i + j) / 2 + 1, j, by first | rfl | go_num | (congr 1; omega), rfl, by omega, by omega, hjm, Nat.le_refl _, S2, .inr (by rw [Nat.add_sub_cancel]; exact hL), HE.out.2⟩
   | true =>
    have ea2 : ((m : Int)).toNat = m := by omega
    have pa2 : (0 : Int) ≤ (m : Int) := by omega
    have ba2 : (m : Int) < (d.size : Int) := by omega
    have ra2 : IntKind.i64.wrap ((m : Int)) = (m : Int) := by rw [IntKind.wrap_i64]; omega
    have ec2 : (((i : Int) + (j : Int)) / 2).toNat = (i + j) / 2 := by omega
    have pc2 : (0 : Int) ≤ ((i : Int) + (j : Int)) / 2 := by omega
    have bc2 : ((i : Int) + (j : Int)) / 2 < (d.size : Int) := by omega
    have rc2 : IntKind.i64.wrap (((i : Int) + (j : Int)) / 2) = ((i : Int) + (j : Int)) / 2 := by rw [IntKind.wrap_i64]; omega
    obtain ⟨x2, hx2⟩ : ∃ x, x = d[m]! := ⟨_, rfl⟩
    obtain ⟨y2, hy2⟩ : ∃ x, x = d[(i + j) / 2]! := ⟨_, rfl⟩
    have l2a := S1.out.ld R (by omega) P (m) (by omega)
    have l2b := S1.out.ld R (by omega) P ((i + j) / 2) (by omega)
    rw [← hx2] at l2a
    rw [← hy2] at l2b
    have hc2 := S1.out.cmp HC.out (by omega) x2 y2
    have hd2 : decide (cf x2 y2 < 0) = true := by rw [hx2, hy2]; exact hL
    have hv2 : (cf x2 y2 < 0) := of_decide_eq_true hd2
    clear hx2 hy2
    go_wp2_with fail
    go_quiet_grown (first | (go_at_fn g; refine Calls.grown_of (hc2 _ _)))
    have S2 : Aside (SWK enc k w0 blk off d (grow (wr.drewN nq) osq)) := S1.out.grown nq osq
    clear l2a l2b hc2 S1
    generalize grow (wr.drewN nq) osq = w2 at S2 ⊢
    clear nq osq
    go_wp2
    go_roundg ((i + j) / 2 - i)
    case measure => omega
    case rel => exact ⟨i, (i + j) / 2, rfl, by first | rfl | go_num | (congr 1; omega), hai, by omega, by omega, Nat.le_refl _, S2, HE.out.1, .inr hL⟩
  ·have hltz : ¬ (i : Int) < (j : Int) := by omega
   obtain rfl : i = j := by omega
   go_wp2
   go_loopg [17] (m - i) (fun kx s17 wr => ∃ (q : Nat) (dk : Array α), s17 = .int .i64 q ∧ i ≤ q ∧ q ≤ m ∧ q - i ≤ kx ∧ dk.size = d.size ∧ Aside (SWK enc k w0 blk off dk wr) ∧ Hid (PermIn a b d dk ∧ at1 dk = rot (at1 d) q m (m + 1)))
   case atStart => exact ⟨m, d, rfl, by omega, Nat.le_refl _, Nat.le_refl _, rfl, S1, permIn_refl _ _ _, (rot_none' _ _ _ (by omega)).symm⟩
   case round =>
    obtain ⟨q, dk, rfl, hiq, hqm, hkx2, hds, S3, HQ⟩ := hrel
    clear S1
    by_cases hq : i < q
    ·obtain ⟨p, rfl⟩ : ∃ p, q = p + 1 := ⟨q - 1, by omega⟩
     have hqz : (i : Int) < (p : Int) + 1 := by omega
     go_wp2_with fail
     have ea3 : ((p : Int) + 1).toNat = p + 1 := by omega
     have pa3 : (0 : Int) ≤ (p : Int) + 1 := by omega
     have ba3 : (p : Int) + 1 < (d.size : Int) := by omega
     have ra3 : IntKind.i64.wrap ((p : Int) + 1) = (p : Int) + 1 := by rw [IntKind.wrap_i64]; omega
     have ec3 : ((p : Int)).toNat = p := by omega
     have pc3 : (0 : Int) ≤ (p : Int) := by omega
     have bc3 : (p : Int) < (d.size : Int) := by omega
     have rc3 : IntKind.i64.wrap ((p : Int)) = (p : Int) := by rw [IntKind.wrap_i64]; omega
     have S4 : Aside (SWK enc k w0 blk off (swp dk (p + 1) (p)) ((wr.drew.setCells blk (off + (p + 1) * k) (enc dk[p]!)).setCells blk (off + (p) * k) (enc dk[p + 1]!))) := S3.out.swapped R (p + 1) (p) (by omega) (by omega)
     have l3a := S3.out.ld1 R (by omega) P (p + 1) (by omega)
     have l3b := S3.out.ld1 R (by omega) P (p) (by omega)
     have s3a := S3.out.st1 R (by omega) P (p + 1) (by omega) dk[p]!
     have s3b := S3.out.st2 R (by omega) P (p + 1) (p) (by omega) (by omega) dk[p]! dk[p + 1]!
     have n3a : (enc dk[p + 1]!).length = k := R.hk _
     have n3b : (enc dk[p]!).length = k := R.hk _
     generalize enc dk[p + 1]! = cI3 at S4 l3a s3b n3a
     generalize enc dk[p]! = cJ3 at S4 l3b s3a s3b n3b
     clear S3
     go_wp2_with fail
     go_big_region_o
     clear l3a l3b s3a s3b
     generalize (wr.drew.setCells blk (off + (p + 1) * k) cJ3).setCells blk (off + (p) * k) cI3 = w4 at S4 ⊢
     go_wp2
     go_roundg (p - i)
     case measure => omega
     case rel =>
      exact ⟨p, swp dk (p + 1) p, by first | rfl | go_num | (congr 1; omega), by omega, by omega, Nat.le_refl _, by rw [size_swp]; exact hds, S4, permIn_trans _ _ _ _ _ HQ.out.1 (swp_permIn dk a b (p + 1) p (by omega) (by omega) (by omega) (by omega) (by omega)), rot_down (at1 d) dk HQ.out.2 (by omega) (by omega)⟩
    ·have hqz : ¬ (i : Int) < (q : Int) := by omega
     obtain rfl : i = q := by omega
     go_wp2
     (try simp only [Exit.inBlock, Exit.then]); refine bodyPost_ret (results_none rfl _ _ _) rfl ?_
     have M := HM.out
     obtain rfl := C2.out
     exact ⟨rfl, dk, HQ.out.1, mer_last HSO.out M hai hjm HE.out.1 HE.out.2 HQ.out.2, S3.out⟩
end Go.Proofs.YtndennmpnomjnaaDoor.A

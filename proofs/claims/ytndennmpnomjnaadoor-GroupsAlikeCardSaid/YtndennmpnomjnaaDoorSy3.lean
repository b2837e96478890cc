/- The library's symMerge: the turn, and the two halves by themselves. -/
import Derived.Shelf.SlSortCmp.KitK
import Derived.Sort.WalkB2
import Derived.Sort.WalkB12
import Derived.Deep.LoopGhost
import Derived.Deep.Cut
import Derived.Deep.DeepCutAuto
import Derived.Test.YtndennmpnomjnaaDoorSortSt
import Derived.Test.YtndennmpnomjnaaDoorSy0
set_option linter.all false
set_option linter.unusedVariables false
namespace Go.Proofs.YtndennmpnomjnaaDoor.A
open Go.Shelf Go.RowKit Go.Lib Go.Sort Go.Proofs Go.Proofs.YtndennmpnomjnaaDoor.SortSt
variable {P : Program} {α : Type} [Inhabited α]
set_option maxHeartbeats 16000000 in
set_option maxRecDepth 1000000 in
theorem sym_big (L : StL P) (k : Nat) (aE : ∀ w, (isAgg 57).run P w = .ok true w) (zE : ∀ w, (Go.sizeOf 57).run P w = .ok k w) (enc : α → List Value) (cf : α → α → Int) (lt' : α → α → Bool) (hS : SWO lt') (g : Nat) (cb : Array Value) (blk off cap : Nat) (d0 : Array α) (w0 : World)
  (eg : ∀ args w, (callFunc g args).run P w = .ok (.enter g args) w) (hcmp : CmpLays P g cb enc k cf blk off d0.size w0) (R : RowK enc k w0 blk off d0) (hsz : d0.size < 4611686018427387904)
  (a m b : Nat) (d : Array α) (w : World) (hs : d0.size = d.size) (S : SWK enc k w0 blk off d w) (ham : a < m) (hmb : m < b) (hb : b ≤ d.size) (M : Mer (ltOf cf) lt' a m b d)
  (c1 : ¬ m = a + 1) (c2 : ¬ b = m + 1)
  (ih : ∀ (a' m' b' : Nat) (d' : Array α) (w' : World), b' - a' < b - a → d0.size = d'.size → SWK enc k w0 blk off d' w' → a' < m' → m' < b' → b' ≤ d'.size → Mer (ltOf cf) lt' a' m' b' d' → SymC P g cb enc k lt' blk off cap w0 a' m' b' d' w') (mid : Nat) (hmid : mid = (a + b) / 2) (c3 : mid < m) : SymC P g cb enc k lt' blk off cap w0 a m b d w := by
 have hszd : d.size < 4611686018427387904 := by omega
 have HM := asd M
 have HC := asd hcmp
 have S0 := asd S
 have IH := asd ih
 have HSO := asd hS
 clear ih M hcmp S hS hsz
 have mixed := L.mixed; have t0 := L.t0; have a0 := L.a0; have z0 := L.z0; have v0 := L.v0; have t3 := L.t3; have a3 := L.a3; have z3 := L.z3; have v3 := L.v3; have t4 := L.t4; have a4 := L.a4; have z4 := L.z4; have v4 := L.v4; have t47 := L.t47; have a47 := L.a47; have z47 := L.z47; have v47 := L.v47; have t76 := L.t76; have a76 := L.a76; have z76 := L.z76; have v76 := L.v76; have t109 := L.t109; have a109 := L.a109; have z109 := L.z109; have v109 := L.v109; have u47 := run_underlying L.t47
 have e63 : ∀ args w, (callFunc 63 args).run P w = .ok (.enter 63 args) w := enters_of L.f63 (by kernel_rfl) rfl
 have e74 : ∀ args w, (callFunc 74 args).run P w = .ok (.enter 74 args) w := enters_of L.f74 (by kernel_rfl) rfl
 have rma : IntKind.i64.wrap ((m : Int) - (a : Int)) = (m : Int) - (a : Int) := by rw [IntKind.wrap_i64]; omega
 have rbm : IntKind.i64.wrap ((b : Int) - (m : Int)) = (b : Int) - (m : Int) := by rw [IntKind.wrap_i64]; omega
 unfold SymC
 go_enter L.f63, Tryd.ntmps63
 have c1a : ((m : Int) - (a : Int) == 1) = false := by simp; omega
 have c1b : ¬ (m : Int) - (a : Int) = 1 := by omega
 have c2a : ((b : Int) - (m : Int) == 1) = false := by simp; omega
 have c2b : ¬ (b : Int) - (m : Int) = 1 := by omega
 have hmid1 : 2 * mid ≤ a + b := by omega
 have hmid2 : a + b ≤ 2 * mid + 1 := by omega
 have HMID := asd (show ((a : Int) + (b : Int)) / 2 = (mid : Int) by omega)
 clear hmid
 have rn : IntKind.i64.wrap (((a : Int) + (b : Int)) / 2 + (m : Int)) = ((a : Int) + (b : Int)) / 2 + (m : Int) := by rw [IntKind.wrap_i64]; omega
 have rnb : IntKind.i64.wrap (((a : Int) + (b : Int)) / 2 + (m : Int) - (b : Int)) = ((a : Int) + (b : Int)) / 2 + (m : Int) - (b : Int) := by rw [IntKind.wrap_i64]; omega
 have rn1 : IntKind.i64.wrap (((a : Int) + (b : Int)) / 2 + (m : Int) - 1) = ((a : Int) + (b : Int)) / 2 + (m : Int) - 1 := by rw [IntKind.wrap_i64]; omega
 have c3' : ((a : Int) + (b : Int)) / 2 < (m : Int) := by have := HMID.out; omega
 go_wp2
 go_loopg [20, 21] (mid - (mid + m - b)) (fun kx s20 s21 wr => ∃ (s r : Nat), s20 = .int .i64 (s : Int) ∧ s21 = .int .i64 (r : Int) ∧ mid + m - b ≤ s ∧ s ≤ r ∧ r ≤ mid ∧ r - s ≤ kx ∧ Aside (SWK enc k w0 blk off d wr) ∧ Hid ((s = mid + m - b ∨ ltOf cf d[mid + m - s]! d[s - 1]! = false) ∧ (r = mid ∨ ltOf cf d[mid + m - r - 1]! d[r]! = true)))
 case atStart => exact ⟨mid + m - b, mid, by first | rfl | (congr 1; have := HMID.out; omega) | congr 1, by first | rfl | (congr 1; have := HMID.out; omega) | congr 1, Nat.le_refl _, by omega, Nat.le_refl _, Nat.le_refl _, S0, .inl rfl, .inl rfl⟩
 case round =>
  obtain ⟨s, r, rfl, rfl, hs0, hsr, hr0, hkx, S1, HE⟩ := hrel
  clear S0
  by_cases hlt : s < r
  ·have hltz : (s : Int) < (r : Int) := by omega
   have pq : ((s : Int) + (r : Int)) / 2 ≤ (((a : Int) + (b : Int)) / 2) + (m : Int) - 1 := by omega
   have pq2 : (((a : Int) + (b : Int)) / 2) + (m : Int) - 1 < (d.size : Int) + ((s : Int) + (r : Int)) / 2 := by omega
   have rp : IntKind.i64.wrap ((((a : Int) + (b : Int)) / 2) + (m : Int) - 1 - (((s : Int) + (r : Int)) / 2)) = (((a : Int) + (b : Int)) / 2) + (m : Int) - 1 - (((s : Int) + (r : Int)) / 2) := by rw [IntKind.wrap_i64]; omega
   cases hL : ltOf cf d[mid + m - 1 - (s + r) / 2]! d[(s + r) / 2]! with
   | false =>
    have ea1 : ((((a : Int) + (b : Int)) / 2) + (m : Int) - 1 - ((s : Int) + (r : Int)) / 2).toNat = mid + m - 1 - (s + r) / 2 := by omega
    have pa1 : (0 : Int) ≤ (((a : Int) + (b : Int)) / 2) + (m : Int) - 1 - ((s : Int) + (r : Int)) / 2 := by omega
    have ba1 : (((a : Int) + (b : Int)) / 2) + (m : Int) - 1 - ((s : Int) + (r : Int)) / 2 < (d.size : Int) := by omega
    have ra1 : IntKind.i64.wrap ((((a : Int) + (b : Int)) / 2) + (m : Int) - 1 - ((s : Int) + (r : Int)) / 2) = (((a : Int) + (b : Int)) / 2) + (m : Int) - 1 - ((s : Int) + (r : Int)) / 2 := by rw [IntKind.wrap_i64]; omega
    have ec1 : (((s : Int) + (r : Int)) / 2).toNat = (s + r) / 2 := by omega
    have pc1 : (0 : Int) ≤ ((s : Int) + (r : Int)) / 2 := by omega
    have bc1 : ((s : Int) + (r : Int)) / 2 < (d.size : Int) := by omega
    have rc1 : IntKind.i64.wrap (((s : Int) + (r : Int)) / 2) = ((s : Int) + (r : Int)) / 2 := by rw [IntKind.wrap_i64]; omega
    obtain ⟨x1, hx1⟩ : ∃ x, x = d[mid + m - 1 - (s + r) / 2]! := ⟨_, rfl⟩
    obtain ⟨y1, hy1⟩ : ∃ x, x = d[(s + r) / 2]! := ⟨_, rfl⟩
    have l1a := S1.out.ld R (by omega) P (mid + m - 1 - (s + r) / 2) (by omega)
    have l1b := S1.out.ld R (by omega) P ((s + r) / 2) (by omega)
    rw [← hx1] at l1a
    rw [← hy1] at l1b
    have hc1 := S1.out.cmp HC.out (by omega) x1 y1
    have hd1 : decide (cf x1 y1 < 0) = false := by rw [hx1, hy1]; exact hL
    have hv1 : ¬ (cf x1 y1 < 0) := of_decide_eq_false hd1
    clear hx1 hy1
    go_wp2_with fail
    go_quiet_grown (first | (go_at_fn g; refine Calls.grown_of (hc1 _ _)))
    have S2 : Aside (SWK enc k w0 blk off d (grow (wr.drewN nq) osq)) := S1.out.grown nq osq
    clear l1a l1b hc1 S1
    generalize grow (wr.drewN nq) osq = w2 at S2 ⊢
    clear nq osq
    go_wp2
    go_roundg (r - ((s + r) / 2 + 1))
    case measure => omega
    case rel => exact ⟨(s + r) / 2 + 1, r, by first | rfl | go_num | (congr 1; omega), rfl, by omega, by omega, hr0, Nat.le_refl _, S2, .inr (by rw [Nat.add_sub_cancel, show mid + m - ((s + r) / 2 + 1) = mid + m - 1 - (s + r) / 2 by omega]; exact hL), HE.out.2⟩
   | true =>
    have ea2 : ((((a : Int) + (b : Int)) / 2) + (m : Int) - 1 - ((s : Int) + (r : Int)) / 2).toNat = mid + m - 1 - (s + r) / 2 := by omega
    have pa2 : (0 : Int) ≤ (((a : Int) + (b : Int)) / 2) + (m : Int) - 1 - ((s : Int) + (r : Int)) / 2 := by omega
    have ba2 : (((a : Int) + (b : Int)) / 2) + (m : Int) - 1 - ((s : Int) + (r : Int)) / 2 < (d.size : Int) := by omega
    have ra2 : IntKind.i64.wrap ((((a : Int) + (b : Int)) / 2) + (m : Int) - 1 - ((s : Int) + (r : Int)) / 2) = (((a : Int) + (b : Int)) / 2) + (m : Int) - 1 - ((s : Int) + (r : Int)) / 2 := by rw [IntKind.wrap_i64]; omega
    have ec2 : (((s : Int) + (r : Int)) / 2).toNat = (s + r) / 2 := by omega
    have pc2 : (0 : Int) ≤ ((s : Int) + (r : Int)) / 2 := by omega
    have bc2 : ((s : Int) + (r : Int)) / 2 < (d.size : Int) := by omega
    have rc2 : IntKind.i64.wrap (((s : Int) + (r : Int)) / 2) = ((s : Int) + (r : Int)) / 2 := by rw [IntKind.wrap_i64]; omega
    obtain ⟨x2, hx2⟩ : ∃ x, x = d[mid + m - 1 - (s + r) / 2]! := ⟨_, rfl⟩
    obtain ⟨y2, hy2⟩ : ∃ x, x = d[(s + r) / 2]! := ⟨_, rfl⟩
    have l2a := S1.out.ld R (by omega) P (mid + m - 1 - (s + r) / 2) (by omega)
    have l2b := S1.out.ld R (by omega) P ((s + r) / 2) (by omega)
    rw [← hx2] at l2a
    rw [← hy2] at l2b
    have hc2 := S1.out.cmp HC.out (by omega) x2 y2
    have hd2 : decide (cf x2 y2 < 0) = true := by rw [hx2, hy2]; exact hL
    have hv2 : (cf x2 y2 < 0) := of_decide_eq_true hd2
    clear hx2 hy2
    go_wp2_with fail
    go_quiet_grown (first | (go_at_fn g; refine Calls.grown_of (hc2 _ _)))
    have S2 : Aside (SWK enc k w0 blk off d (grow (wr.drewN nq) osq)) := S1.out.grown nq osq
    clear l2a l2b hc2 S1
    generalize grow (wr.drewN nq) osq = w2 at S2 ⊢
    clear nq osq
    go_wp2
    go_roundg ((s + r) / 2 - s)
    case measure => omega
    case rel => exact ⟨s, (s + r) / 2, rfl, by first | rfl | go_num | (congr 1; omega), hs0, by omega, by omega, Nat.le_refl _, S2, HE.out.1, .inr (by rw [show mid + m - (s + r) / 2 - 1 = mid + m - 1 - (s + r) / 2 by omega]; exact hL)⟩
  ·have hltz : ¬ (s : Int) < (r : Int) := by omega
   obtain rfl : s = r := by omega
   have rend : IntKind.i64.wrap ((((a : Int) + (b : Int)) / 2) + (m : Int) - (s : Int)) = (((a : Int) + (b : Int)) / 2) + (m : Int) - (s : Int) := by rw [IntKind.wrap_i64]; omega
   have CU : Aside (Cut (ltOf cf) a m b mid s d) := by
    refine ⟨by omega, by omega, by omega, by omega, ?_, ?_⟩
    ·rcases HE.out.1 with h | h
     ·exact .inl (by omega)
     ·exact .inr h
    ·rcases HE.out.2 with h | h
     ·exact .inl (by omega)
     ·exact .inr h
   clear HE
   by_cases k1 : s < m ∧ s < mid
   ·have k1a : (s : Int) < (m : Int) := by omega
    have k1b : (m : Int) < (((a : Int) + (b : Int)) / 2) + (m : Int) - (s : Int) := by omega
    have hro := asd (rotate_w L k aE zE enc g cb blk off cap d0 d w0 wr s m (mid + m - s) (s : Int) (m : Int) ((((a : Int) + (b : Int)) / 2) + (m : Int) - (s : Int)) rfl rfl (by omega) R hs S1.out k1.1 (by omega) (by omega) hszd)
    go_upto_region 41 with (go_at_fn 74; refine hro.out.mono ?_; rintro e w5 ⟨rfl, d5, hs5, P5, A5, S5⟩)
    have S6 := asd S5
    have CT := asd (cutted HSO.out HM.out ham hmb (by omega) (by omega) CU.out rfl A5 (permIn_mono _ _ _ _ a b (by omega) (by omega) (by omega) P5))
    clear S5 P5 A5 hro S1 CU
    have hz1 : d5.size = d.size := CT.out.perm.1
    by_cases g1 : a < s ∧ s < mid
    ·have g1a : (a : Int) < (s : Int) := by omega
     have g1b : (s : Int) < (((a : Int) + (b : Int)) / 2) := by omega
     have hr2 : Calls P 63 #[.slice (some ⟨blk, off, none⟩) d.size cap, .int .i64 (a : Int), .int .i64 (s : Int), .int .i64 (((a : Int) + (b : Int)) / 2), .func (.func g) #[] cb] w5 fun e w' =>
       e = .returned (.tuple #[]) ∧ ∃ d' : Array α, PermIn a mid d5 d' ∧ SortedIn lt' a mid d' ∧ SWK enc k w0 blk off d' w' := by
      rw [← hz1]
      have hi := IH.out a s mid d5 w5 (by omega) (by omega) S6.out (by omega) (by omega) (by omega) CT.out.m1
      unfold SymC at hi
      rw [show ((mid : Nat) : Int) = ((a : Int) + (b : Int)) / 2 by omega] at hi
      exact hi
     have HR2 := asd hr2
     clear hr2
     go_upto_region 43 with (go_at_fn 63; refine HR2.out.mono ?_; rintro e w7 ⟨rfl, d7, P7, O7, S7⟩)
     have hz7 : d7.size = d5.size := P7.1
     have Q7 := asd (And.intro P7 O7)
     have T7 := asd S7
     clear P7 O7 S7 HR2
     by_cases f1 : mid < mid + m - s ∧ mid + m - s < b
     ·have f1a : (((a : Int) + (b : Int)) / 2) < (((a : Int) + (b : Int)) / 2) + (m : Int) - (s : Int) := by omega
      have f1b : (((a : Int) + (b : Int)) / 2) + (m : Int) - (s : Int) < (b : Int) := by omega
      have hz3 : d7.size = d.size := by omega
      have hr3 : Calls P 63 #[.slice (some ⟨blk, off, none⟩) d.size cap, .int .i64 (((a : Int) + (b : Int)) / 2), .int .i64 ((((a : Int) + (b : Int)) / 2) + (m : Int) - (s : Int)), .int .i64 (b : Int), .func (.func g) #[] cb] w7 fun e w' =>
        e = .returned (.tuple #[]) ∧ ∃ d' : Array α, PermIn mid b d7 d' ∧ SortedIn lt' mid b d' ∧ SWK enc k w0 blk off d' w' := by
       rw [← hz3]
       have hi := IH.out mid (mid + m - s) b d7 w7 (by omega) (by omega) T7.out (by omega) (by omega) (by omega) (Mer.of_eq CT.out.m2 (fun x h1 h2 => Q7.out.1.2.1 x (.inr h1)) (by omega) (by omega))
       unfold SymC at hi
       rw [show ((mid : Nat) : Int) = ((a : Int) + (b : Int)) / 2 by omega, show ((mid + m - s : Nat) : Int) = ((a : Int) + (b : Int)) / 2 + (m : Int) - (s : Int) by omega] at hi
       exact hi
      have HR3 := asd hr3
      clear hr3
      go_wp2_with (go_at_fn 63; refine HR3.out.mono ?_; rintro e w9 ⟨rfl, d9, P9, O9, S9⟩)
      go_end0
      obtain ⟨q1, q2⟩ := sym_end HSO.out CT.out (by omega) (by omega) hb Q7.out.1 Q7.out.2 P9 O9
      exact ⟨rfl, d9, q1, q2, S9⟩
     ·have f1q : (((a : Int) + (b : Int)) / 2) < (((a : Int) + (b : Int)) / 2) + (m : Int) - (s : Int) → ¬ ((((a : Int) + (b : Int)) / 2) + (m : Int) - (s : Int) < (b : Int)) := by omega
      have o3 : SortedIn lt' mid b d7 := by
       have M2 : Mer (ltOf cf) lt' mid (mid + m - s) b d7 := Mer.of_eq CT.out.m2 (fun x h1 h2 => Q7.out.1.2.1 x (.inr h1)) (by omega) (by omega)
       by_cases f2 : mid < mid + m - s
       ·have : mid + m - s = b := by omega
        rw [this] at M2
        exact M2.left
       ·have : mid + m - s = mid := by omega
        rw [this] at M2
        exact M2.right
      have O3 := asd o3
      clear o3
      by_cases f3 : (((a : Int) + (b : Int)) / 2) < (((a : Int) + (b : Int)) / 2) + (m : Int) - (s : Int)
      ·have f4 := f1q f3
       go_wp2
       go_end0
       obtain ⟨q1, q2⟩ := sym_end HSO.out CT.out (by omega) (by omega) hb Q7.out.1 Q7.out.2 (permIn_refl _ _ _) O3.out
       exact ⟨rfl, d7, q1, q2, T7.out⟩
      ·go_wp2
       go_end0
       obtain ⟨q1, q2⟩ := sym_end HSO.out CT.out (by omega) (by omega) hb Q7.out.1 Q7.out.2 (permIn_refl _ _ _) O3.out
       exact ⟨rfl, d7, q1, q2, T7.out⟩
    ·have g1q : (a : Int) < (s : Int) → ¬ ((s : Int) < (((a : Int) + (b : Int)) / 2)) := by omega
     have o2 : SortedIn lt' a mid d5 := by
      have M1 := CT.out.m1
      by_cases g2 : a < s
      ·have : s = mid := by omega
       rw [this] at M1
       exact M1.left
      ·have : s = a := by omega
       rw [this] at M1
       exact M1.right
     have Q7 := asd (And.intro (permIn_refl d5 a mid) o2)
     clear o2
     by_cases g3 : (a : Int) < (s : Int)
     ·have g4 := g1q g3
      clear g1q
      go_upto_region 43 with fail
      by_cases f1 : mid < mid + m - s ∧ mid + m - s < b
      ·have f1a : (((a : Int) + (b : Int)) / 2) < (((a : Int) + (b : Int)) / 2) + (m : Int) - (s : Int) := by omega
       have f1b : (((a : Int) + (b : Int)) / 2) + (m : Int) - (s : Int) < (b : Int) := by omega
       have hz3 : d5.size = d.size := by omega
       have hr3 : Calls P 63 #[.slice (some ⟨blk, off, none⟩) d.size cap, .int .i64 (((a : Int) + (b : Int)) / 2), .int .i64 ((((a : Int) + (b : Int)) / 2) + (m : Int) - (s : Int)), .int .i64 (b : Int), .func (.func g) #[] cb] w5 fun e w' =>
         e = .returned (.tuple #[]) ∧ ∃ d' : Array α, PermIn mid b d5 d' ∧ SortedIn lt' mid b d' ∧ SWK enc k w0 blk off d' w' := by
        rw [← hz3]
        have hi := IH.out mid (mid + m - s) b d5 w5 (by omega) (by omega) S6.out (by omega) (by omega) (by omega) (Mer.of_eq CT.out.m2 (fun x h1 h2 => Q7.out.1.2.1 x (.inr h1)) (by omega) (by omega))
        unfold SymC at hi
        rw [show ((mid : Nat) : Int) = ((a : Int) + (b : Int)) / 2 by omega, show ((mid + m - s : Nat) : Int) = ((a : Int) + (b : Int)) / 2 + (m : Int) - (s : Int) by omega] at hi
        exact hi
       have HR3 := asd hr3
       clear hr3
       go_wp2_with (go_at_fn 63; refine HR3.out.mono ?_; rintro e w9 ⟨rfl, d9, P9, O9, S9⟩)
       go_end0
       obtain ⟨q1, q2⟩ := sym_end HSO.out CT.out (by omega) (by omega) hb Q7.out.1 Q7.out.2 P9 O9
       exact ⟨rfl, d9, q1, q2, S9⟩
      ·have f1q : (((a : Int) + (b : Int)) / 2) < (((a : Int) + (b : Int)) / 2) + (m : Int) - (s : Int) → ¬ ((((a : Int) + (b : Int)) / 2) + (m : Int) - (s : Int) < (b : Int)) := by omega
       have o3 : SortedIn lt' mid b d5 := by
        have M2 : Mer (ltOf cf) lt' mid (mid + m - s) b d5 := Mer.of_eq CT.out.m2 (fun x h1 h2 => Q7.out.1.2.1 x (.inr h1)) (by omega) (by omega)
        by_cases f2 : mid < mid + m - s
        ·have : mid + m - s = b := by omega
         rw [this] at M2
         exact M2.left
        ·have : mid + m - s = mid := by omega
         rw [this] at M2
         exact M2.right
       have O3 := asd o3
       clear o3
       by_cases f3 : (((a : Int) + (b : Int)) / 2) < (((a : Int) + (b : Int)) / 2) + (m : Int) - (s : Int)
       ·have f4 := f1q f3
        go_wp2
        go_end0
        obtain ⟨q1, q2⟩ := sym_end HSO.out CT.out (by omega) (by omega) hb Q7.out.1 Q7.out.2 (permIn_refl _ _ _) O3.out
        exact ⟨rfl, d5, q1, q2, S6.out⟩
       ·go_wp2
        go_end0
        obtain ⟨q1, q2⟩ := sym_end HSO.out CT.out (by omega) (by omega) hb Q7.out.1 Q7.out.2 (permIn_refl _ _ _) O3.out
        exact ⟨rfl, d5, q1, q2, S6.out⟩
     ·clear g1q
      go_upto_region 43 with fail
      by_cases f1 : mid < mid + m - s ∧ mid + m - s < b
      ·have f1a : (((a : Int) + (b : Int)) / 2) < (((a : Int) + (b : Int)) / 2) + (m : Int) - (s : Int) := by omega
       have f1b : (((a : Int) + (b : Int)) / 2) + (m : Int) - (s : Int) < (b : Int) := by omega
       have hz3 : d5.size = d.size := by omega
       have hr3 : Calls P 63 #[.slice (some ⟨blk, off, none⟩) d.size cap, .int .i64 (((a : Int) + (b : Int)) / 2), .int .i64 ((((a : Int) + (b : Int)) / 2) + (m : Int) - (s : Int)), .int .i64 (b : Int), .func (.func g) #[] cb] w5 fun e w' =>
         e = .returned (.tuple #[]) ∧ ∃ d' : Array α, PermIn mid b d5 d' ∧ SortedIn lt' mid b d' ∧ SWK enc k w0 blk off d' w' := by
        rw [← hz3]
        have hi := IH.out mid (mid + m - s) b d5 w5 (by omega) (by omega) S6.out (by omega) (by omega) (by omega) (Mer.of_eq CT.out.m2 (fun x h1 h2 => Q7.out.1.2.1 x (.inr h1)) (by omega) (by omega))
        unfold SymC at hi
        rw [show ((mid : Nat) : Int) = ((a : Int) + (b : Int)) / 2 by omega, show ((mid + m - s : Nat) : Int) = ((a : Int) + (b : Int)) / 2 + (m : Int) - (s : Int) by omega] at hi
        exact hi
       have HR3 := asd hr3
       clear hr3
       go_wp2_with (go_at_fn 63; refine HR3.out.mono ?_; rintro e w9 ⟨rfl, d9, P9, O9, S9⟩)
       go_end0
       obtain ⟨q1, q2⟩ := sym_end HSO.out CT.out (by omega) (by omega) hb Q7.out.1 Q7.out.2 P9 O9
       exact ⟨rfl, d9, q1, q2, S9⟩
      ·have f1q : (((a : Int) + (b : Int)) / 2) < (((a : Int) + (b : Int)) / 2) + (m : Int) - (s : Int) → ¬ ((((a : Int) + (b : Int)) / 2) + (m : Int) - (s : Int) < (b : Int)) := by omega
       have o3 : SortedIn lt' mid b d5 := by
        have M2 : Mer (ltOf cf) lt' mid (mid + m - s) b d5 := Mer.of_eq CT.out.m2 (fun x h1 h2 => Q7.out.1.2.1 x (.inr h1)) (by omega) (by omega)
        by_cases f2 : mid < mid + m - s
        ·have : mid + m - s = b := by omega
         rw [this] at M2
         exact M2.left
        ·have : mid + m - s = mid := by omega
         rw [this] at M2
         exact M2.right
       have O3 := asd o3
       clear o3
       by_cases f3 : (((a : Int) + (b : Int)) / 2) < (((a : Int) + (b : Int)) / 2) + (m : Int) - (s : Int)
       ·have f4 := f1q f3
        go_wp2
        go_end0
        obtain ⟨q1, q2⟩ := sym_end HSO.out CT.out (by omega) (by omega) hb Q7.out.1 Q7.out.2 (permIn_refl _ _ _) O3.out
        exact ⟨rfl, d5, q1, q2, S6.out⟩
       ·go_wp2
        go_end0
        obtain ⟨q1, q2⟩ := sym_end HSO.out CT.out (by omega) (by omega) hb Q7.out.1 Q7.out.2 (permIn_refl _ _ _) O3.out
        exact ⟨rfl, d5, q1, q2, S6.out⟩
   ·have k1q : (s : Int) < (m : Int) → ¬ ((m : Int) < (((a : Int) + (b : Int)) / 2) + (m : Int) - (s : Int)) := by omega
    have CT := asd (cutted HSO.out HM.out ham hmb (by omega) (by omega) CU.out rfl (d1 := d) (by
     by_cases k2 : s < m
     ·rw [show mid + m - s = m by omega, rot_none _ _ _ (by omega)]
     ·rw [show s = m by omega, rot_none' _ _ _ (by omega)]) (permIn_refl _ _ _))
    clear CU
    by_cases k3 : (s : Int) < (m : Int)
    ·have k4 := k1q k3
     clear k1q
     go_upto_region 41 with fail
     have hz1 : d.size = d.size := CT.out.perm.1
     by_cases g1 : a < s ∧ s < mid
     ·have g1a : (a : Int) < (s : Int) := by omega
      have g1b : (s : Int) < (((a : Int) + (b : Int)) / 2) := by omega
      have hr2 : Calls P 63 #[.slice (some ⟨blk, off, none⟩) d.size cap, .int .i64 (a : Int), .int .i64 (s : Int), .int .i64 (((a : Int) + (b : Int)) / 2), .func (.func g) #[] cb] wr fun e w' =>
        e = .returned (.tuple #[]) ∧ ∃ d' : Array α, PermIn a mid d d' ∧ SortedIn lt' a mid d' ∧ SWK enc k w0 blk off d' w' := by
       rw [← hz1]
       have hi := IH.out a s mid d wr (by omega) (by omega) S1.out (by omega) (by omega) (by omega) CT.out.m1
       unfold SymC at hi
       rw [show ((mid : Nat) : Int) = ((a : Int) + (b : Int)) / 2 by omega] at hi
       exact hi
      have HR2 := asd hr2
      clear hr2
      go_upto_region 43 with (go_at_fn 63; refine HR2.out.mono ?_; rintro e w7 ⟨rfl, d7, P7, O7, S7⟩)
      have hz7 : d7.size = d.size := P7.1
      have Q7 := asd (And.intro P7 O7)
      have T7 := asd S7
      clear P7 O7 S7 HR2
      by_cases f1 : mid < mid + m - s ∧ mid + m - s < b
      ·have f1a : (((a : Int) + (b : Int)) / 2) < (((a : Int) + (b : Int)) / 2) + (m : Int) - (s : Int) := by omega
       have f1b : (((a : Int) + (b : Int)) / 2) + (m : Int) - (s : Int) < (b : Int) := by omega
       have hz3 : d7.size = d.size := by omega
       have hr3 : Calls P 63 #[.slice (some ⟨blk, off, none⟩) d.size cap, .int .i64 (((a : Int) + (b : Int)) / 2), .int .i64 ((((a : Int) + (b : Int)) / 2) + (m : Int) - (s : Int)), .int .i64 (b : Int), .func (.func g) #[] cb] w7 fun e w' =>
         e = .returned (.tuple #[]) ∧ ∃ d' : Array α, PermIn mid b d7 d' ∧ SortedIn lt' mid b d' ∧ SWK enc k w0 blk off d' w' := by
        rw [← hz3]
        have hi := IH.out mid (mid + m - s) b d7 w7 (by omega) (by omega) T7.out (by omega) (by omega) (by omega) (Mer.of_eq CT.out.m2 (fun x h1 h2 => Q7.out.1.2.1 x (.inr h1)) (by omega) (by omega))
        unfold SymC at hi
        rw [show ((mid : Nat) : Int) = ((a : Int) + (b : Int)) / 2 by omega, show ((mid + m - s : Nat) : Int) = ((a : Int) + (b : Int)) / 2 + (m : Int) - (s : Int) by omega] at hi
        exact hi
       have HR3 := asd hr3
       clear hr3
       go_wp2_with (go_at_fn 63; refine HR3.out.mono ?_; rintro e w9 ⟨rfl, d9, P9, O9, S9⟩)
       go_end0
       obtain ⟨q1, q2⟩ := sym_end HSO.out CT.out (by omega) (by omega) hb Q7.out.1 Q7.out.2 P9 O9
       exact ⟨rfl, d9, q1, q2, S9⟩
      ·have f1q : (((a : Int) + (b : Int)) / 2) < (((a : Int) + (b : Int)) / 2) + (m : Int) - (s : Int) → ¬ ((((a : Int) + (b : Int)) / 2) + (m : Int) - (s : Int) < (b : Int)) := by omega
       have o3 : SortedIn lt' mid b d7 := by
        have M2 : Mer (ltOf cf) lt' mid (mid + m - s) b d7 := Mer.of_eq CT.out.m2 (fun x h1 h2 => Q7.out.1.2.1 x (.inr h1)) (by omega) (by omega)
        by_cases f2 : mid < mid + m - s
        ·have : mid + m - s = b := by omega
         rw [this] at M2
         exact M2.left
        ·have : mid + m - s = mid := by omega
         rw [this] at M2
         exact M2.right
       have O3 := asd o3
       clear o3
       by_cases f3 : (((a : Int) + (b : Int)) / 2) < (((a : Int) + (b : Int)) / 2) + (m : Int) - (s : Int)
       ·have f4 := f1q f3
        go_wp2
        go_end0
        obtain ⟨q1, q2⟩ := sym_end HSO.out CT.out (by omega) (by omega) hb Q7.out.1 Q7.out.2 (permIn_refl _ _ _) O3.out
        exact ⟨rfl, d7, q1, q2, T7.out⟩
       ·go_wp2
        go_end0
        obtain ⟨q1, q2⟩ := sym_end HSO.out CT.out (by omega) (by omega) hb Q7.out.1 Q7.out.2 (permIn_refl _ _ _) O3.out
        exact ⟨rfl, d7, q1, q2, T7.out⟩
     ·have g1q : (a : Int) < (s : Int) → ¬ ((s : Int) < (((a : Int) + (b : Int)) / 2)) := by omega
      have o2 : SortedIn lt' a mid d := by
       have M1 := CT.out.m1
       by_cases g2 : a < s
       ·have : s = mid := by omega
        rw [this] at M1
        exact M1.left
       ·have : s = a := by omega
        rw [this] at M1
        exact M1.right
      have Q7 := asd (And.intro (permIn_refl d a mid) o2)
      clear o2
      by_cases g3 : (a : Int) < (s : Int)
      ·have g4 := g1q g3
       clear g1q
       go_upto_region 43 with fail
       by_cases f1 : mid < mid + m - s ∧ mid + m - s < b
       ·have f1a : (((a : Int) + (b : Int)) / 2) < (((a : Int) + (b : Int)) / 2) + (m : Int) - (s : Int) := by omega
        have f1b : (((a : Int) + (b : Int)) / 2) + (m : Int) - (s : Int) < (b : Int) := by omega
        have hz3 : d.size = d.size := by omega
        have hr3 : Calls P 63 #[.slice (some ⟨blk, off, none⟩) d.size cap, .int .i64 (((a : Int) + (b : Int)) / 2), .int .i64 ((((a : Int) + (b : Int)) / 2) + (m : Int) - (s : Int)), .int .i64 (b : Int), .func (.func g) #[] cb] wr fun e w' =>
          e = .returned (.tuple #[]) ∧ ∃ d' : Array α, PermIn mid b d d' ∧ SortedIn lt' mid b d' ∧ SWK enc k w0 blk off d' w' := by
         rw [← hz3]
         have hi := IH.out mid (mid + m - s) b d wr (by omega) (by omega) S1.out (by omega) (by omega) (by omega) (Mer.of_eq CT.out.m2 (fun x h1 h2 => Q7.out.1.2.1 x (.inr h1)) (by omega) (by omega))
         unfold SymC at hi
         rw [show ((mid : Nat) : Int) = ((a : Int) + (b : Int)) / 2 by omega, show ((mid + m - s : Nat) : Int) = ((a : Int) + (b : Int)) / 2 + (m : Int) - (s : Int) by omega] at hi
         exact hi
        have HR3 := asd hr3
        clear hr3
        go_wp2_with (go_at_fn 63; refine HR3.out.mono ?_; rintro e w9 ⟨rfl, d9, P9, O9, S9⟩)
        go_end0
        obtain ⟨q1, q2⟩ := sym_end HSO.out CT.out (by omega) (by omega) hb Q7.out.1 Q7.out.2 P9 O9
        exact ⟨rfl, d9, q1, q2, S9⟩
       ·have f1q : (((a : Int) + (b : Int)) / 2) < (((a : Int) + (b : Int)) / 2) + (m : Int) - (s : Int) → ¬ ((((a : Int) + (b : Int)) / 2) + (m : Int) - (s : Int) < (b : Int)) := by omega
        have o3 : SortedIn lt' mid b d := by
         have M2 : Mer (ltOf cf) lt' mid (mid + m - s) b d := Mer.of_eq CT.out.m2 (fun x h1 h2 => Q7.out.1.2.1 x (.inr h1)) (by omega) (by omega)
         by_cases f2 : mid < mid + m - s
         ·have : mid + m - s = b := by omega
          rw [this] at M2
          exact M2.left
         ·have : mid + m - s = mid := by omega
          rw [this] at M2
          exact M2.right
        have O3 := asd o3
        clear o3
        by_cases f3 : (((a : Int) + (b : Int)) / 2) < (((a : Int) + (b : Int)) / 2) + (m : Int) - (s : Int)
        ·have f4 := f1q f3
         go_wp2
         go_end0
         obtain ⟨q1, q2⟩ := sym_end HSO.out CT.out (by omega) (by omega) hb Q7.out.1 Q7.out.2 (permIn_refl _ _ _) O3.out
         exact ⟨rfl, d, q1, q2, S1.out⟩
        ·go_wp2
         go_end0
         obtain ⟨q1, q2⟩ := sym_end HSO.out CT.out (by omega) (by omega) hb Q7.out.1 Q7.out.2 (permIn_refl _ _ _) O3.out
         exact ⟨rfl, d, q1, q2, S1.out⟩
      ·clear g1q
       go_upto_region 43 with fail
       by_cases f1 : mid < mid + m - s ∧ mid + m - s < b
       ·have f1a : (((a : Int) + (b : Int)) / 2) < (((a : Int) + (b : Int)) / 2) + (m : Int) - (s : Int) := by omega
        have f1b : (((a : Int) + (b : Int)) / 2) + (m : Int) - (s : Int) < (b : Int) := by omega
        have hz3 : d.size = d.size := by omega
        have hr3 : Calls P 63 #[.slice (some ⟨blk, off, none⟩) d.size cap, .int .i64 (((a : Int) + (b : Int)) / 2), .int .i64 ((((a : Int) + (b : Int)) / 2) + (m : Int) - (s : Int)), .int .i64 (b : Int), .func (.func g) #[] cb] wr fun e w' =>
          e = .returned (.tuple #[]) ∧ ∃ d' : Array α, PermIn mid b d d' ∧ SortedIn lt' mid b d' ∧ SWK enc k w0 blk off d' w' := by
         rw [← hz3]
         have hi := IH.out mid (mid + m - s) b d wr (by omega) (by omega) S1.out (by omega) (by omega) (by omega) (Mer.of_eq CT.out.m2 (fun x h1 h2 => Q7.out.1.2.1 x (.inr h1)) (by omega) (by omega))
         unfold SymC at hi
         rw [show ((mid : Nat) : Int) = ((a : Int) + (b : Int)) / 2 by omega, show ((mid + m - s : Nat) : Int) = ((a : Int) + (b : Int)) / 2 + (m : Int) - (s : Int) by omega] at hi
         exact hi
        have HR3 := asd hr3
        clear hr3
        go_wp2_with (go_at_fn 63; refine HR3.out.mono ?_; rintro e w9 ⟨rfl, d9, P9, O9, S9⟩)
        go_end0
        obtain ⟨q1, q2⟩ := sym_end HSO.out CT.out (by omega) (by omega) hb Q7.out.1 Q7.out.2 P9 O9
        exact ⟨rfl, d9, q1, q2, S9⟩
       ·have f1q : (((a : Int) + (b : Int)) / 2) < (((a : Int) + (b : Int)) / 2) + (m : Int) - (s : Int) → ¬ ((((a : Int) + (b : Int)) / 2) + (m : Int) - (s : Int) < (b : Int)) := by omega
        have o3 : SortedIn lt' mid b d := by
         have M2 : Mer (ltOf cf) lt' mid (mid + m - s) b d := Mer.of_eq CT.out.m2 (fun x h1 h2 => Q7.out.1.2.1 x (.inr h1)) (by omega) (by omega)
         by_cases f2 : mid < mid + m - s
         ·have : mid + m - s = b := by omega
          rw [this] at M2
          exact M2.left
         ·have : mid + m - s = mid := by omega
          rw [this] at M2
          exact M2.right
        have O3 := asd o3
        clear o3
        by_cases f3 : (((a : Int) + (b : Int)) / 2) < (((a : Int) + (b : Int)) / 2) + (m : Int) - (s : Int)
        ·have f4 := f1q f3
         go_wp2
         go_end0
         obtain ⟨q1, q2⟩ := sym_end HSO.out CT.out (by omega) (by omega) hb Q7.out.1 Q7.out.2 (permIn_refl _ _ _) O3.out
         exact ⟨rfl, d, q1, q2, S1.out⟩
        ·go_wp2
         go_end0
         obtain ⟨q1, q2⟩ := sym_end HSO.out CT.out (by omega) (by omega) hb Q7.out.1 Q7.out.2 (permIn_refl _ _ _) O3.out
         exact ⟨rfl, d, q1, q2, S1.out⟩
    ·clear k1q
     go_upto_region 41 with fail
     have hz1 : d.size = d.size := CT.out.perm.1
     by_cases g1 : a < s ∧ s < mid
     ·have g1a : (a : Int) < (s : Int) := by omega
      have g1b : (s : Int) < (((a : Int) + (b : Int)) / 2) := by omega
      have hr2 : Calls P 63 #[.slice (some ⟨blk, off, none⟩) d.size cap, .int .i64 (a : Int), .int .i64 (s : Int), .int .i64 (((a : Int) + (b : Int)) / 2), .func (.func g) #[] cb] wr fun e w' =>
        e = .returned (.tuple #[]) ∧ ∃ d' : Array α, PermIn a mid d d' ∧ SortedIn lt' a mid d' ∧ SWK enc k w0 blk off d' w' := by
       rw [← hz1]
       have hi := IH.out a s mid d wr (by omega) (by omega) S1.out (by omega) (by omega) (by omega) CT.out.m1
       unfold SymC at hi
       rw [show ((mid : Nat) : Int) = ((a : Int) + (b : Int)) / 2 by omega] at hi
       exact hi
      have HR2 := asd hr2
      clear hr2
      go_upto_region 43 with (go_at_fn 63; refine HR2.out.mono ?_; rintro e w7 ⟨rfl, d7, P7, O7, S7⟩)
      have hz7 : d7.size = d.size := P7.1
      have Q7 := asd (And.intro P7 O7)
      have T7 := asd S7
      clear P7 O7 S7 HR2
      by_cases f1 : mid < mid + m - s ∧ mid + m - s < b
      ·have f1a : (((a : Int) + (b : Int)) / 2) < (((a : Int) + (b : Int)) / 2) + (m : Int) - (s : Int) := by omega
       have f1b : (((a : Int) + (b : Int)) / 2) + (m : Int) - (s : Int) < (b : Int) := by omega
       have hz3 : d7.size = d.size := by omega
       have hr3 : Calls P 63 #[.slice (some ⟨blk, off, none⟩) d.size cap, .int .i64 (((a : Int) + (b : Int)) / 2), .int .i64 ((((a : Int) + (b : Int)) / 2) + (m : Int) - (s : Int)), .int .i64 (b : Int), .func (.func g) #[] cb] w7 fun e w' =>
         e = .returned (.tuple #[]) ∧ ∃ d' : Array α, PermIn mid b d7 d' ∧ SortedIn lt' mid b d' ∧ SWK enc k w0 blk off d' w' := by
        rw [← hz3]
        have hi := IH.out mid (mid + m - s) b d7 w7 (by omega) (by omega) T7.out (by omega) (by omega) (by omega) (Mer.of_eq CT.out.m2 (fun x h1 h2 => Q7.out.1.2.1 x (.inr h1)) (by omega) (by omega))
        unfold SymC at hi
        rw [show ((mid : Nat) : Int) = ((a : Int) + (b : Int)) / 2 by omega, show ((mid + m - s : Nat) : Int) = ((a : Int) + (b : Int)) / 2 + (m : Int) - (s : Int) by omega] at hi
        exact hi
       have HR3 := asd hr3
       clear hr3
       go_wp2_with (go_at_fn 63; refine HR3.out.mono ?_; rintro e w9 ⟨rfl, d9, P9, O9, S9⟩)
       go_end0
       obtain ⟨q1, q2⟩ := sym_end HSO.out CT.out (by omega) (by omega) hb Q7.out.1 Q7.out.2 P9 O9
       exact ⟨rfl, d9, q1, q2, S9⟩
      ·have f1q : (((a : Int) + (b : Int)) / 2) < (((a : Int) + (b : Int)) / 2) + (m : Int) - (s : Int) → ¬ ((((a : Int) + (b : Int)) / 2) + (m : Int) - (s : Int) < (b : Int)) := by omega
       have o3 : SortedIn lt' mid b d7 := by
        have M2 : Mer (ltOf cf) lt' mid (mid + m - s) b d7 := Mer.of_eq CT.out.m2 (fun x h1 h2 => Q7.out.1.2.1 x (.inr h1)) (by omega) (by omega)
        by_cases f2 : mid < mid + m - s
        ·have : mid + m - s = b := by omega
         rw [this] at M2
         exact M2.left
        ·have : mid + m - s = mid := by omega
         rw [this] at M2
         exact M2.right
       have O3 := asd o3
       clear o3
       by_cases f3 : (((a : Int) + (b : Int)) / 2) < (((a : Int) + (b : Int)) / 2) + (m : Int) - (s : Int)
       ·have f4 := f1q f3
        go_wp2
        go_end0
        obtain ⟨q1, q2⟩ := sym_end HSO.out CT.out (by omega) (by omega) hb Q7.out.1 Q7.out.2 (permIn_refl _ _ _) O3.out
        exact ⟨rfl, d7, q1, q2, T7.out⟩
       ·go_wp2
        go_end0
        obtain ⟨q1, q2⟩ := sym_end HSO.out CT.out (by omega) (by omega) hb Q7.out.1 Q7.out.2 (permIn_refl _ _ _) O3.out
        exact ⟨rfl, d7, q1, q2, T7.out⟩
     ·have g1q : (a : Int) < (s : Int) → ¬ ((s : Int) < (((a : Int) + (b : Int)) / 2)) := by omega
      have o2 : SortedIn lt' a mid d := by
       have M1 := CT.out.m1
       by_cases g2 : a < s
       ·have : s = mid := by omega
        rw [this] at M1
        exact M1.left
       ·have : s = a := by omega
        rw [this] at M1
        exact M1.right
      have Q7 := asd (And.intro (permIn_refl d a mid) o2)
      clear o2
      by_cases g3 : (a : Int) < (s : Int)
      ·have g4 := g1q g3
       clear g1q
       go_upto_region 43 with fail
       by_cases f1 : mid < mid + m - s ∧ mid + m - s < b
       ·have f1a : (((a : Int) + (b : Int)) / 2) < (((a : Int) + (b : Int)) / 2) + (m : Int) - (s : Int) := by omega
        have f1b : (((a : Int) + (b : Int)) / 2) + (m : Int) - (s : Int) < (b : Int) := by omega
        have hz3 : d.size = d.size := by omega
        have hr3 : Calls P 63 #[.slice (some ⟨blk, off, none⟩) d.size cap, .int .i64 (((a : Int) + (b : Int)) / 2), .int .i64 ((((a : Int) + (b : Int)) / 2) + (m : Int) - (s : Int)), .int .i64 (b : Int), .func (.func g) #[] cb] wr fun e w' =>
          e = .returned (.tuple #[]) ∧ ∃ d' : Array α, PermIn mid b d d' ∧ SortedIn lt' mid b d' ∧ SWK enc k w0 blk off d' w' := by
         rw [← hz3]
         have hi := IH.out mid (mid + m - s) b d wr (by omega) (by omega) S1.out (by omega) (by omega) (by omega) (Mer.of_eq CT.out.m2 (fun x h1 h2 => Q7.out.1.2.1 x (.inr h1)) (by omega) (by omega))
         unfold SymC at hi
         rw [show ((mid : Nat) : Int) = ((a : Int) + (b : Int)) / 2 by omega, show ((mid + m - s : Nat) : Int) = ((a : Int) + (b : Int)) / 2 + (m : Int) - (s : Int) by omega] at hi
         exact hi
        have HR3 := asd hr3
        clear hr3
        go_wp2_with (go_at_fn 63; refine HR3.out.mono ?_; rintro e w9 ⟨rfl, d9, P9, O9, S9⟩)
        go_end0
        obtain ⟨q1, q2⟩ := sym_end HSO.out CT.out (by omega) (by omega) hb Q7.out.1 Q7.out.2 P9 O9
        exact ⟨rfl, d9, q1, q2, S9⟩
       ·have f1q : (((a : Int) + (b : Int)) / 2) < (((a : Int) + (b : Int)) / 2) + (m : Int) - (s : Int) → ¬ ((((a : Int) + (b : Int)) / 2) + (m : Int) - (s : Int) < (b : Int)) := by omega
        have o3 : SortedIn lt' mid b d := by
         have M2 : Mer (ltOf cf) lt' mid (mid + m - s) b d := Mer.of_eq CT.out.m2 (fun x h1 h2 => Q7.out.1.2.1 x (.inr h1)) (by omega) (by omega)
         by_cases f2 : mid < mid + m - s
         ·have : mid + m - s = b := by omega
          rw [this] at M2
          exact M2.left
         ·have : mid + m - s = mid := by omega
          rw [this] at M2
          exact M2.right
        have O3 := asd o3
        clear o3
        by_cases f3 : (((a : Int) + (b : Int)) / 2) < (((a : Int) + (b : Int)) / 2) + (m : Int) - (s : Int)
        ·have f4 := f1q f3
         go_wp2
         go_end0
         obtain ⟨q1, q2⟩ := sym_end HSO.out CT.out (by omega) (by omega) hb Q7.out.1 Q7.out.2 (permIn_refl _ _ _) O3.out
         exact ⟨rfl, d, q1, q2, S1.out⟩
        ·go_wp2
         go_end0
         obtain ⟨q1, q2⟩ := sym_end HSO.out CT.out (by omega) (by omega) hb Q7.out.1 Q7.out.2 (permIn_refl _ _ _) O3.out
         exact ⟨rfl, d, q1, q2, S1.out⟩
      ·clear g1q
       go_upto_region 43 with fail
       by_cases f1 : mid < mid + m - s ∧ mid + m - s < b
       ·have f1a : (((a : Int) + (b : Int)) / 2) < (((a : Int) + (b : Int)) / 2) + (m : Int) - (s : Int) := by omega
        have f1b : (((a : Int) + (b : Int)) / 2) + (m : Int) - (s : Int) < (b : Int) := by omega
        have hz3 : d.size = d.size := by omega
        have hr3 : Calls P 63 #[.slice (some ⟨blk, off, none⟩) d.size cap, .int .i64 (((a : Int) + (b : Int)) / 2), .int .i64 ((((a : Int) + (b : Int)) / 2) + (m : Int) - (s : Int)), .int .i64 (b : Int), .func (.func g) #[] cb] wr fun e w' =>
          e = .returned (.tuple #[]) ∧ ∃ d' : Array α, PermIn mid b d d' ∧ SortedIn lt' mid b d' ∧ SWK enc k w0 blk off d' w' := by
         rw [← hz3]
         have hi := IH.out mid (mid + m - s) b d wr (by omega) (by omega) S1.out (by omega) (by omega) (by omega) (Mer.of_eq CT.out.m2 (fun x h1 h2 => Q7.out.1.2.1 x (.inr h1)) (by omega) (by omega))
         unfold SymC at hi
         rw [show ((mid : Nat) : Int) = ((a : Int) + (b : Int)) / 2 by omega, show ((mid + m - s : Nat) : Int) = ((a : Int) + (b : Int)) / 2 + (m : Int) - (s : Int) by omega] at hi
         exact hi
        have HR3 := asd hr3
        clear hr3
        go_wp2_with (go_at_fn 63; refine HR3.out.mono ?_; rintro e w9 ⟨rfl, d9, P9, O9, S9⟩)
        go_end0
        obtain ⟨q1, q2⟩ := sym_end HSO.out CT.out (by omega) (by omega) hb Q7.out.1 Q7.out.2 P9 O9
        exact ⟨rfl, d9, q1, q2, S9⟩
       ·have f1q : (((a : Int) + (b : Int)) / 2) < (((a : Int) + (b : Int)) / 2) + (m : Int) - (s : Int) → ¬ ((((a : Int) + (b : Int)) / 2) + (m : Int) - (s : Int) < (b : Int)) := by omega
        have o3 : SortedIn lt' mid b d := by
         have M2 : Mer (ltOf cf) lt' mid (mid + m - s) b d := Mer.of_eq CT.out.m2 (fun x h1 h2 => Q7.out.1.2.1 x (.inr h1)) (by omega) (by omega)
         by_cases f2 : mid < mid + m - s
         ·have : mid + m - s = b := by omega
          rw [this] at M2
          exact M2.left
         ·have : mid + m - s = mid := by omega
          rw [this] at M2
          exact M2.right
        have O3 := asd o3
        clear o3
        by_cases f3 : (((a : Int) + (b : Int)) / 2) < (((a : Int) + (b : Int)) / 2) + (m : Int) - (s : Int)
        ·have f4 := f1q f3
         go_wp2
         go_end0
         obtain ⟨q1, q2⟩ := sym_end HSO.out CT.out (by omega) (by omega) hb Q7.out.1 Q7.out.2 (permIn_refl _ _ _) O3.out
         exact ⟨rfl, d, q1, q2, S1.out⟩
        ·go_wp2
         go_end0
         obtain ⟨q1, q2⟩ := sym_end HSO.out CT.out (by omega) (by omega) hb Q7.out.1 Q7.out.2 (permIn_refl _ _ _) O3.out
         exact ⟨rfl, d, q1, q2, S1.out⟩
end Go.Proofs.YtndennmpnomjnaaDoor.A

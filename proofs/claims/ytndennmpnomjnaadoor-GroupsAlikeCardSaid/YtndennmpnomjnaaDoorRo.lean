/- The library's rotate (at rows of k cells): the places from a to b turned so that what stood from m on stands first. -/
import Derived.Shelf.SlSortCmp.KitK
import Derived.Sort.WalkB2
import Derived.Sort.WalkB12
import Derived.Deep.LoopGhost
import Derived.Test.YtndennmpnomjnaaDoorSortSt
import Derived.Test.YtndennmpnomjnaaDoorSw
set_option linter.all false
set_option linter.unusedVariables false
namespace Go.Proofs.YtndennmpnomjnaaDoor.A
open Go.Shelf Go.RowKit Go.Lib Go.Sort Go.Proofs Go.Proofs.YtndennmpnomjnaaDoor.SortSt
variable {P : Program} {α : Type} [Inhabited α]
set_option maxHeartbeats 4000000 in
set_option maxRecDepth 1000000 in
theorem rotate_w (L : StL P) (k : Nat) (aE : ∀ w, (isAgg 57).run P w = .ok true w) (zE : ∀ w, (Go.sizeOf 57).run P w = .ok k w) (enc : α → List Value) (g : Nat) (cb : Array Value) (blk off cap : Nat) (d0 d : Array α) (w0 w : World) (a m b : Nat) (az mz bz : Int) (haz : az = a) (hmz : mz = m) (hbz : bz = b)
  (R : RowK enc k w0 blk off d0) (hs : d0.size = d.size) (S : SWK enc k w0 blk off d w) (ham : a < m) (hmb : m < b) (hb : b ≤ d.size) (hsz : d.size < 4611686018427387904) :
  Calls P 74 #[.slice (some ⟨blk, off, none⟩) d.size cap, .int .i64 az, .int .i64 mz, .int .i64 bz, .func (.func g) #[] cb] w fun e w' =>
   e = .returned (.tuple #[]) ∧ ∃ d' : Array α, d'.size = d.size ∧ PermIn a b d d' ∧ at1 d' = rot (at1 d) a m b ∧ SWK enc k w0 blk off d' w' := by
 subst haz hmz hbz
 have mixed := L.mixed; have t0 := L.t0; have a0 := L.a0; have z0 := L.z0; have v0 := L.v0; have t3 := L.t3; have a3 := L.a3; have z3 := L.z3; have v3 := L.v3; have t4 := L.t4; have a4 := L.a4; have z4 := L.z4; have v4 := L.v4; have t47 := L.t47; have a47 := L.a47; have z47 := L.z47; have v47 := L.v47; have t76 := L.t76; have a76 := L.a76; have z76 := L.z76; have v76 := L.v76; have t109 := L.t109; have a109 := L.a109; have z109 := L.z109; have v109 := L.v109; have u47 := run_underlying L.t47
 have S0 : Aside (SWK enc k w0 blk off d w) := S
 clear S
 have e85 : ∀ args w, (callFunc 85 args).run P w = .ok (.enter 85 args) w := enters_of L.f85 (by kernel_rfl) rfl
 have rma : IntKind.i64.wrap ((m : Int) - (a : Int)) = (m : Int) - (a : Int) := by rw [IntKind.wrap_i64]; omega
 have rbm : IntKind.i64.wrap ((b : Int) - (m : Int)) = (b : Int) - (m : Int) := by rw [IntKind.wrap_i64]; omega
 go_enter L.f74, Tryd.ntmps74
 go_wp2
 go_loopg [10, 11] (b - a) (fun kx s10 s11 wr => ∃ (i j : Nat) (dk : Array α), s10 = .int .i64 i ∧ s11 = .int .i64 j ∧ 0 < i ∧ 0 < j ∧ a + i ≤ m ∧ m + j ≤ b ∧ i + j ≤ kx ∧ dk.size = d.size ∧ Aside (SWK enc k w0 blk off dk wr) ∧ Hid (PermIn a b d dk ∧ rot (at1 dk) (m - i) m (m + j) = rot (at1 d) a m b))
 case atStart =>
  refine ⟨m - a, b - m, d, by congr 1; omega, by congr 1; omega, by omega, by omega, by omega, by omega, by omega, rfl, S0, permIn_refl _ _ _, ?_⟩
  rw [show m - (m - a) = a by omega, show m + (b - m) = b by omega]
 case round =>
  obtain ⟨i, j, dk, rfl, rfl, hi, hj, hia, hjb, hkx, hds, S1, HE⟩ := hrel
  clear S0
  have rmi : IntKind.i64.wrap ((m : Int) - (i : Int)) = (m : Int) - (i : Int) := by rw [IntKind.wrap_i64]; omega
  rcases Nat.lt_trichotomy i j with hlt | heq | hgt
  ·have hne : ¬ (i : Int) = (j : Int) := by omega
   have hng : ¬ (j : Int) < (i : Int) := by omega
   have rmj : IntKind.i64.wrap ((m : Int) + (j : Int)) = (m : Int) + (j : Int) := by rw [IntKind.wrap_i64]; omega
   have rmji : IntKind.i64.wrap ((m : Int) + (j : Int) - (i : Int)) = (m : Int) + (j : Int) - (i : Int) := by rw [IntKind.wrap_i64]; omega
   have rji : IntKind.i64.wrap ((j : Int) - (i : Int)) = (j : Int) - (i : Int) := by rw [IntKind.wrap_i64]; omega
   have hsw : ∀ W, SWK enc k w0 blk off dk W → Calls P 85 #[.slice (some ⟨blk, off, none⟩) d.size cap, .int .i64 ((m : Int) - (i : Int)), .int .i64 ((m : Int) + (j : Int) - (i : Int)), .int .i64 (i : Int), .func (.func g) #[] cb] W fun e w' =>
     e = .returned (.tuple #[]) ∧ ∃ d' : Array α, d'.size = dk.size ∧ PermIn (m - i) (m + j - i + i) dk d' ∧ at1 d' = sws (at1 dk) (m - i) (m + j - i) i ∧ SWK enc k w0 blk off d' w' := fun W hW => by
    rw [← hds]
    exact swapRange_w L k aE zE enc g cb blk off cap d0 dk w0 W (m - i) (m + j - i) i _ _ _ (by omega) (by omega) rfl R (by omega) hW (by omega) (by omega) (by omega)
   have HS := asd (hsw wr S1.out)
   clear hsw
   go_wp2_with (go_at_fn 85; refine HS.out.mono ?_; rintro e w2 ⟨rfl, d2, hs2, P2, A2, S2⟩)
   have S3 : Aside (SWK enc k w0 blk off d2 w2) := S2
   have HQ := asd (And.intro P2 A2)
   clear S2 P2 A2 S1 HS
   go_wp2
   go_roundg (i + (j - i))
   case measure => omega
   case rel =>
    obtain ⟨P2, A2⟩ := HQ.out
    refine ⟨i, j - i, d2, by first | rfl | go_num, by first | rfl | go_num | (congr 1; omega), hi, by omega, by omega, by omega, Nat.le_refl _, by omega, S3, permIn_trans _ _ _ _ _ HE.out.1 (permIn_mono _ _ _ _ a b (by omega) (by omega) (by omega) P2), ?_⟩
    rw [A2, rot_lt (at1 dk) hlt (by omega)]
    exact HE.out.2
  ·subst heq
   have hsw : ∀ W, SWK enc k w0 blk off dk W → Calls P 85 #[.slice (some ⟨blk, off, none⟩) d.size cap, .int .i64 ((m : Int) - (i : Int)), .int .i64 (m : Int), .int .i64 (i : Int), .func (.func g) #[] cb] W fun e w' =>
     e = .returned (.tuple #[]) ∧ ∃ d' : Array α, d'.size = dk.size ∧ PermIn (m - i) (m + i) dk d' ∧ at1 d' = sws (at1 dk) (m - i) m i ∧ SWK enc k w0 blk off d' w' := fun W hW => by
    rw [← hds]
    exact swapRange_w L k aE zE enc g cb blk off cap d0 dk w0 W (m - i) m i _ _ _ (by omega) rfl rfl R (by omega) hW (by omega) (by omega) (by omega)
   have HS := asd (hsw wr S1.out)
   clear hsw
   go_wp2_with (go_at_fn 85; refine HS.out.mono ?_; rintro e w2 ⟨rfl, d2, hs2, P2, A2, S2⟩)
   go_end0
   refine ⟨rfl, d2, by omega, permIn_trans _ _ _ _ _ HE.out.1 (permIn_mono _ _ _ _ a b (by omega) (by omega) (by omega) P2), ?_, S2⟩
   rw [A2, rot_eq (at1 dk) (by omega)]
   exact HE.out.2
  ·have hne : ¬ (i : Int) = (j : Int) := by omega
   have hng : (j : Int) < (i : Int) := by omega
   have rij : IntKind.i64.wrap ((i : Int) - (j : Int)) = (i : Int) - (j : Int) := by rw [IntKind.wrap_i64]; omega
   have hsw : ∀ W, SWK enc k w0 blk off dk W → Calls P 85 #[.slice (some ⟨blk, off, none⟩) d.size cap, .int .i64 ((m : Int) - (i : Int)), .int .i64 (m : Int), .int .i64 (j : Int), .func (.func g) #[] cb] W fun e w' =>
     e = .returned (.tuple #[]) ∧ ∃ d' : Array α, d'.size = dk.size ∧ PermIn (m - i) (m + j) dk d' ∧ at1 d' = sws (at1 dk) (m - i) m j ∧ SWK enc k w0 blk off d' w' := fun W hW => by
    rw [← hds]
    exact swapRange_w L k aE zE enc g cb blk off cap d0 dk w0 W (m - i) m j _ _ _ (by omega) rfl rfl R (by omega) hW (by omega) (by omega) (by omega)
   have HS := asd (hsw wr S1.out)
   clear hsw
   go_wp2_with (go_at_fn 85; refine HS.out.mono ?_; rintro e w2 ⟨rfl, d2, hs2, P2, A2, S2⟩)
   have S3 : Aside (SWK enc k w0 blk off d2 w2) := S2
   have HQ := asd (And.intro P2 A2)
   clear S2 P2 A2 S1 HS
   go_wp2
   go_roundg (i - j + j)
   case measure => omega
   case rel =>
    obtain ⟨P2, A2⟩ := HQ.out
    refine ⟨i - j, j, d2, by first | rfl | go_num | (congr 1; omega), by first | rfl | go_num, by omega, hj, by omega, by omega, Nat.le_refl _, by omega, S3, permIn_trans _ _ _ _ _ HE.out.1 (permIn_mono _ _ _ _ a b (by omega) (by omega) (by omega) P2), ?_⟩
    rw [A2, rot_gt (at1 dk) hgt (by omega)]
    exact HE.out.2
end Go.Proofs.YtndennmpnomjnaaDoor.A

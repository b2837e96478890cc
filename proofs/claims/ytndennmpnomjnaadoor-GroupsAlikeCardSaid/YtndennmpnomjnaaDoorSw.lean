/- The library's swapRange (at rows of k cells): n places from p on exchanged with n from q on. -/
import Derived.Shelf.SlSortCmp.KitK
import Derived.Sort.WalkB2
import Derived.Sort.WalkB12
import Derived.Deep.LoopGhost
import Derived.Test.YtndennmpnomjnaaDoorSortSt
import Derived.Test.YtndennmpnomjnaaDoorProg
set_option linter.all false
set_option linter.unusedVariables false
namespace Go.Proofs.YtndennmpnomjnaaDoor.A
open Go.Shelf Go.RowKit Go.Lib Go.Sort Go.Proofs Go.Proofs.YtndennmpnomjnaaDoor.SortSt
variable {P : Program} {α : Type} [Inhabited α]
theorem asd {p : Prop} (h : p) : Aside p := h
/-- What the walks of the stable sort want of a program: its five bodies and the types they name. -/
structure StL (P : Program) : Prop where
 mixed : P.follows .mixedOrders = true
 f85 : P.funcs[85]? = some Tryd.f85
 f74 : P.funcs[74]? = some Tryd.f74
 f63 : P.funcs[63]? = some Tryd.f63
 f54 : P.funcs[54]? = some Tryd.f54
 f39 : P.funcs[39]? = some Tryd.f39
 t0 : P.underlying 0 = some (TypeDesc.tuple #[])
 a0 : ∀ w, (isAgg 0).run P w = .ok false w
 z0 : ∀ w, (Go.sizeOf 0).run P w = .ok 1 w
 v0 : ∀ w, (zeroValue 0).run P w = .ok (Value.tuple #[]) w
 t3 : P.underlying 3 = some (TypeDesc.int IntKind.i64)
 a3 : ∀ w, (isAgg 3).run P w = .ok false w
 z3 : ∀ w, (Go.sizeOf 3).run P w = .ok 1 w
 v3 : ∀ w, (zeroValue 3).run P w = .ok (Value.int IntKind.i64 0) w
 t4 : P.underlying 4 = some TypeDesc.bool
 a4 : ∀ w, (isAgg 4).run P w = .ok false w
 z4 : ∀ w, (Go.sizeOf 4).run P w = .ok 1 w
 v4 : ∀ w, (zeroValue 4).run P w = .ok (Value.bool false) w
 t47 : P.underlying 47 = some (TypeDesc.slice 57)
 a47 : ∀ w, (isAgg 47).run P w = .ok false w
 z47 : ∀ w, (Go.sizeOf 47).run P w = .ok 1 w
 v47 : ∀ w, (zeroValue 47).run P w = .ok (Value.slice none 0 0) w
 t76 : P.underlying 76 = some (TypeDesc.func #[57, 57] #[3] false)
 a76 : ∀ w, (isAgg 76).run P w = .ok false w
 z76 : ∀ w, (Go.sizeOf 76).run P w = .ok 1 w
 v76 : ∀ w, (zeroValue 76).run P w = .ok Value.nilFunc w
 t109 : P.underlying 109 = some (TypeDesc.int IntKind.u64)
 a109 : ∀ w, (isAgg 109).run P w = .ok false w
 z109 : ∀ w, (Go.sizeOf 109).run P w = .ok 1 w
 v109 : ∀ w, (zeroValue 109).run P w = .ok (Value.int IntKind.u64 0) w
theorem stL : StL Tryd.prog where
 mixed := by kernel_rfl
 f85 := Tryd.func85
 f74 := Tryd.func74
 f63 := Tryd.func63
 f54 := Tryd.func54
 f39 := Tryd.func39
 t0 := Tryd.underlying0
 a0 := Tryd.isAgg0
 z0 := Tryd.sizeOf0
 v0 := Tryd.zeroValue0
 t3 := Tryd.underlying3
 a3 := Tryd.isAgg3
 z3 := Tryd.sizeOf3
 v3 := Tryd.zeroValue3
 t4 := Tryd.underlying4
 a4 := Tryd.isAgg4
 z4 := Tryd.sizeOf4
 v4 := Tryd.zeroValue4
 t47 := Tryd.underlying47
 a47 := Tryd.isAgg47
 z47 := Tryd.sizeOf47
 v47 := Tryd.zeroValue47
 t76 := Tryd.underlying76
 a76 := Tryd.isAgg76
 z76 := Tryd.sizeOf76
 v76 := Tryd.zeroValue76
 t109 := Tryd.underlying109
 a109 := Tryd.isAgg109
 z109 := Tryd.sizeOf109
 v109 := Tryd.zeroValue109
set_option maxHeartbeats 4000000 in
set_option maxRecDepth 1000000 in
theorem swapRange_w (L : StL P) (k : Nat) (aE : ∀ w, (isAgg 57).run P w = .ok true w) (zE : ∀ w, (Go.sizeOf 57).run P w = .ok k w) (enc : α → List Value) (g : Nat) (cb : Array Value) (blk off cap : Nat) (d0 d : Array α) (w0 w : World) (p q n : Nat) (pz qz nz : Int) (hp : pz = p) (hqz : qz = q) (hn : nz = n)
  (R : RowK enc k w0 blk off d0) (hs : d0.size = d.size) (S : SWK enc k w0 blk off d w) (hpq : p + n ≤ q) (hq : q + n ≤ d.size) (hsz : d.size < 4611686018427387904) :
  Calls P 85 #[.slice (some ⟨blk, off, none⟩) d.size cap, .int .i64 pz, .int .i64 qz, .int .i64 nz, .func (.func g) #[] cb] w fun e w' =>
   e = .returned (.tuple #[]) ∧ ∃ d' : Array α, d'.size = d.size ∧ PermIn p (q + n) d d' ∧ at1 d' = sws (at1 d) p q n ∧ SWK enc k w0 blk off d' w' := by
 subst hp hqz hn
 have mixed := L.mixed; have t0 := L.t0; have a0 := L.a0; have z0 := L.z0; have v0 := L.v0; have t3 := L.t3; have a3 := L.a3; have z3 := L.z3; have v3 := L.v3; have t4 := L.t4; have a4 := L.a4; have z4 := L.z4; have v4 := L.v4; have t47 := L.t47; have a47 := L.a47; have z47 := L.z47; have v47 := L.v47; have t76 := L.t76; have a76 := L.a76; have z76 := L.z76; have v76 := L.v76; have t109 := L.t109; have a109 := L.a109; have z109 := L.z109; have v109 := L.v109; have u47 := run_underlying L.t47
 have S0 : Aside (SWK enc k w0 blk off d w) := S
 clear S
 go_enter L.f85, Tryd.ntmps85
 go_wp2
 go_loopg [10] n (fun kx s10 wr => ∃ (i : Nat) (dk : Array α), s10 = .int .i64 i ∧ i ≤ n ∧ n - i ≤ kx ∧ dk.size = d.size ∧ Aside (SWK enc k w0 blk off dk wr) ∧ Hid (PermIn p (q + n) d dk ∧ at1 dk = sws (at1 d) p q i))
 case atStart => exact ⟨0, d, rfl, Nat.zero_le _, Nat.le_refl _, rfl, S0, ⟨permIn_refl _ _ _, (sws_none _ _ _).symm⟩⟩
 case round =>
  obtain ⟨i, dk, rfl, hi, hkx, hds, S1, HE⟩ := hrel
  clear S0
  by_cases hlt : i < n
  ·have hltz : (i : Int) < (n : Int) := by omega
   go_wp2_with fail
   have ea44 : ((p : Int) + (i : Int)).toNat = p + i := by omega
   have pa44 : (0 : Int) ≤ (p : Int) + (i : Int) := by omega
   have ba44 : (p : Int) + (i : Int) < (d.size : Int) := by omega
   have ra44 : IntKind.i64.wrap ((p : Int) + (i : Int)) = (p : Int) + (i : Int) := by rw [IntKind.wrap_i64]; omega
   have ec44 : ((q : Int) + (i : Int)).toNat = q + i := by omega
   have pc44 : (0 : Int) ≤ (q : Int) + (i : Int) := by omega
   have bc44 : (q : Int) + (i : Int) < (d.size : Int) := by omega
   have rc44 : IntKind.i64.wrap ((q : Int) + (i : Int)) = (q : Int) + (i : Int) := by rw [IntKind.wrap_i64]; omega
   have S2 : Aside (SWK enc k w0 blk off (swp dk (p + i) (q + i)) ((wr.drew.setCells blk (off + (p + i) * k) (enc dk[q + i]!)).setCells blk (off + (q + i) * k) (enc dk[p + i]!))) := S1.out.swapped R (p + i) (q + i) (by omega) (by omega)
   have l44a := S1.out.ld1 R (by omega) P (p + i) (by omega)
   have l44b := S1.out.ld1 R (by omega) P (q + i) (by omega)
   have s44a := S1.out.st1 R (by omega) P (p + i) (by omega) dk[q + i]!
   have s44b := S1.out.st2 R (by omega) P (p + i) (q + i) (by omega) (by omega) dk[q + i]! dk[p + i]!
   have n44a : (enc dk[p + i]!).length = k := R.hk _
   have n44b : (enc dk[q + i]!).length = k := R.hk _
   generalize enc dk[p + i]! = cI44 at S2 l44a s44b n44a
   generalize enc dk[q + i]! = cJ44 at S2 l44b s44a s44b n44b
   clear S1
   go_wp2_with fail
   go_big_region_o
   clear l44a l44b s44a s44b
   generalize (wr.drew.setCells blk (off + (p + i) * k) cJ44).setCells blk (off + (q + i) * k) cI44 = w2 at S2 ⊢
   go_wp2
   go_roundg (n - (i + 1))
   case measure => omega
   case rel =>
    refine ⟨i + 1, swp dk (p + i) (q + i), by go_num, by omega, Nat.le_refl _, by rw [size_swp]; exact hds, S2, ?_, ?_⟩
    ·exact permIn_trans _ _ _ _ _ HE.out.1 (swp_permIn dk p (q + n) (p + i) (q + i) (by omega) (by omega) (by omega) (by omega) (by omega))
    ·exact sws_step (at1 d) dk HE.out.2 hlt hpq (by omega)
  ·have hltz : ¬ (i : Int) < (n : Int) := by omega
   obtain rfl : i = n := by omega
   go_wp2
   go_end0
   exact ⟨rfl, dk, hds, HE.out.1, HE.out.2, S1.out⟩
end Go.Proofs.YtndennmpnomjnaaDoor.A

/- The library's symMerge (at rows of cells): two ascending parts beside each other become one ascending part. -/
import Derived.Shelf.SlSortCmp.KitK
import Derived.Sort.WalkB2
import Derived.Sort.WalkB12
import Derived.Deep.LoopGhost
import Derived.Deep.Cut
import Derived.Deep.DeepCutAuto
import Derived.Test.YtndennmpnomjnaaDoorSortSt
import Derived.Test.YtndennmpnomjnaaDoorRo
set_option linter.all false
set_option linter.unusedVariables false
namespace Go.Proofs.YtndennmpnomjnaaDoor.A
open Go.Shelf Go.RowKit Go.Lib Go.Sort Go.Proofs Go.Proofs.YtndennmpnomjnaaDoor.SortSt
variable {P : Program} {α : Type} [Inhabited α]
theorem Mer.of_eq {lt lt' : α → α → Bool} {a m b : Nat} {d d' : Array α} (M : Mer lt lt' a m b d) (h : ∀ x, a ≤ x → x < b → d'[x]! = d[x]!) (ham : a ≤ m) (hmb : m ≤ b) : Mer lt lt' a m b d' :=
 ⟨SortSt.SortedIn.of_eq M.left (fun x h1 h2 => h x h1 (by omega)), SortSt.SortedIn.of_eq M.right (fun x h1 h2 => h x (by omega) h2), fun i j h1 h2 h3 h4 => by rw [h i h1 (by omega), h j (by omega) h4]; exact M.cross i j h1 h2 h3 h4⟩
/-- What stands behind the turn. -/
structure Cutted (lt lt' : α → α → Bool) (a mid e b s : Nat) (d d1 : Array α) : Prop where
 perm : PermIn a b d d1
 m1 : Mer lt lt' a s mid d1
 m2 : Mer lt lt' mid e b d1
 ord : ∀ x y, a ≤ x → x < mid → mid ≤ y → y < b → lt' d1[y]! d1[x]! = false
theorem cutted {lt lt' : α → α → Bool} (hS : SWO lt') {a m b mid s e : Nat} {d d1 : Array α} (M : Mer lt lt' a m b d) (ham : a < m) (hmb : m < b) (hm1 : a ≤ mid) (hm2 : mid ≤ b) (C : Cut lt a m b mid s d) (he : e = mid + m - s)
  (hd : at1 d1 = rot (at1 d) s m e) (P : PermIn a b d d1) : Cutted lt lt' a mid e b s d d1 := by
 subst he
 obtain ⟨h1, h2, h3⟩ := mer_cut hS M ham hmb hm1 hm2 C hd
 exact ⟨P, h1, h2, h3⟩
theorem sym_end {lt lt' : α → α → Bool} (hS : SWO lt') {a mid e b s : Nat} {d d1 d2 d3 : Array α} (C : Cutted lt lt' a mid e b s d d1) (hm1 : a ≤ mid) (hm2 : mid ≤ b) (hb : b ≤ d.size)
  (P2 : PermIn a mid d1 d2) (S2 : SortedIn lt' a mid d2) (P3 : PermIn mid b d2 d3) (S3 : SortedIn lt' mid b d3) : PermIn a b d d3 ∧ SortedIn lt' a b d3 := by
 have z1 : d1.size = d.size := C.perm.1
 have z2 : d2.size = d1.size := P2.1
 exact ⟨permIn_trans _ _ _ _ _ C.perm (permIn_trans _ _ _ _ _ (permIn_mono _ _ a mid a b (Nat.le_refl _) hm2 (by omega) P2) (permIn_mono _ _ mid b a b hm1 (Nat.le_refl _) (by omega) P3)),
  halves hS hm1 hm2 (by omega) C.ord P2 S2 P3 S3⟩
/-- What a call of symMerge comes to. -/
def SymC (P : Program) (g : Nat) (cb : Array Value) (enc : α → List Value) (k : Nat) (lt' : α → α → Bool) (blk off cap : Nat) (w0 : World) (a m b : Nat) (d : Array α) (w : World) : Prop :=
 Calls P 63 #[.slice (some ⟨blk, off, none⟩) d.size cap, .int .i64 (a : Int), .int .i64 (m : Int), .int .i64 (b : Int), .func (.func g) #[] cb] w fun e w' =>
  e = .returned (.tuple #[]) ∧ ∃ d' : Array α, PermIn a b d d' ∧ SortedIn lt' a b d' ∧ SWK enc k w0 blk off d' w'
end Go.Proofs.YtndennmpnomjnaaDoor.A

/- The library's symMerge joined, its stableCmpFunc and slices.SortStableFunc at rows of cells: what the row holds behind it is the same elements in the order lt', wherever the tests agree with that order on a later element beside an earlier one. -/
import Derived.Shelf.SlSortCmp.KitK
import Derived.Sort.WalkB2
import Derived.Sort.WalkB12
import Derived.Deep.LoopGhost
import Derived.Deep.Cut
import Derived.Deep.DeepCutAuto
import Derived.Test.YtndennmpnomjnaaDoorSortSt
import Derived.Test.YtndennmpnomjnaaDoorSy1
import Derived.Test.YtndennmpnomjnaaDoorSy2
import Derived.Test.YtndennmpnomjnaaDoorSy3
import Derived.Test.YtndennmpnomjnaaDoorSy4
import Derived.Test.YtndennmpnomjnaaDoorStLay
set_option linter.all false
set_option linter.unusedVariables false
namespace Go.Proofs.YtndennmpnomjnaaDoor.A
open Go.Shelf Go.RowKit Go.Lib Go.Sort Go.Proofs Go.Proofs.YtndennmpnomjnaaDoor.SortSt
variable {P : Program} {α : Type} [Inhabited α]
theorem symMerge_w (L : StL P) (k : Nat) (aE : ∀ w, (isAgg 57).run P w = .ok true w) (zE : ∀ w, (Go.sizeOf 57).run P w = .ok k w) (enc : α → List Value) (cf : α → α → Int) (lt' : α → α → Bool) (hS : SWO lt') (g : Nat) (cb : Array Value) (blk off cap : Nat) (d0 : Array α) (w0 : World)
  (eg : ∀ args w, (callFunc g args).run P w = .ok (.enter g args) w) (hcmp : CmpLays P g cb enc k cf blk off d0.size w0) (R : RowK enc k w0 blk off d0) (hsz : d0.size < 4611686018427387904) :
  ∀ (N a m b : Nat) (d : Array α) (w : World), b - a ≤ N → d0.size = d.size → SWK enc k w0 blk off d w → a < m → m < b → b ≤ d.size → Mer (ltOf cf) lt' a m b d → SymC P g cb enc k lt' blk off cap w0 a m b d w := by
 intro N
 induction N with
 | zero => intro a m b d w h _ _ h1 h2 _ _; omega
 | succ N ih =>
  intro a m b d w hN hs S ham hmb hb M
  by_cases c1 : m = a + 1
  ·exact sym_one L k aE zE enc cf lt' hS g cb blk off cap d0 w0 eg hcmp R hsz a m b d w hs S ham hmb hb M c1
  ·by_cases c2 : b = m + 1
   ·exact sym_two L k aE zE enc cf lt' hS g cb blk off cap d0 w0 eg hcmp R hsz a m b d w hs S ham hmb hb M c1 c2
   ·have ih' : ∀ (a' m' b' : Nat) (d' : Array α) (w' : World), b' - a' < b - a → d0.size = d'.size → SWK enc k w0 blk off d' w' → a' < m' → m' < b' → b' ≤ d'.size → Mer (ltOf cf) lt' a' m' b' d' → SymC P g cb enc k lt' blk off cap w0 a' m' b' d' w' :=
     fun a' m' b' d' w' h => ih a' m' b' d' w' (by omega)
    by_cases c3 : (a + b) / 2 < m
    ·exact sym_big L k aE zE enc cf lt' hS g cb blk off cap d0 w0 eg hcmp R hsz a m b d w hs S ham hmb hb M c1 c2 ih' _ rfl c3
    ·exact sym_small L k aE zE enc cf lt' hS g cb blk off cap d0 w0 eg hcmp R hsz a m b d w hs S ham hmb hb M c1 c2 ih' _ rfl c3
/-- The insertion sort of a part, from a world of the sort's. -/
theorem ins_w (enc : α → List Value) (cf : α → α → Int) (g : Nat) (cb : Array Value) (blk off cap a b : Nat) (d0 d : Array α) (w0 w : World)
  (eg : ∀ args w, (callFunc g args).run Tryd.prog w = .ok (.enter g args) w) (hcmp : CmpLays Tryd.prog g cb enc 4 cf blk off d0.size w0) (R : RowK enc 4 w0 blk off d0) (hs : d.size = d0.size) (S : SWK enc 4 w0 blk off d w) (hsz' : (Sort.insertionSort (ltOf cf) d a b).size = d.size) (hab : a ≤ b) (hb : b ≤ d.size) (hsz : d.size < 4611686018427387904) :
  Calls Tryd.prog 62 #[.slice (some ⟨blk, off, none⟩) d0.size cap, .int .i64 a, .int .i64 b, .func (.func g) #[] cb] w fun e w' => e = .returned (.tuple #[]) ∧ SWK enc 4 w0 blk off (Sort.insertionSort (ltOf cf) d a b) w' := by
 have hC : CmpLays Tryd.prog g cb enc 4 cf blk off d.size w := fun m os dk hdk x y => by
  obtain ⟨n0, os0, rfl⟩ := S
  rw [sortWorldK_on enc 4 w0 blk off n0 m d dk os0 os R.hblk hdk]
  exact hcmp _ _ dk (by omega) x y
 have h := AnyQ.insertionSortCmpFunc Tryd.insDiff 4 Tryd.isAgg57 Tryd.sizeOf57 enc R.hk R.h1 cf g cb blk off cap a b d w eg hC (S.holds R.hblk R.hH hs) (S.lt R.hblk) hab hb hsz
 rw [hs] at h
 refine Calls.mono h ?_
 rintro e w' ⟨rfl, n, os, rfl⟩
 exact ⟨rfl, S.on R.hblk n _ os hsz'⟩
set_option maxHeartbeats 16000000 in
set_option maxRecDepth 1000000 in
theorem stable_w (enc : α → List Value) (cf : α → α → Int) (lt' : α → α → Bool) (hS : SWO lt') (g : Nat) (cb : Array Value) (blk off cap : Nat) (d0 : Array α) (w0 : World)
  (eg : ∀ args w, (callFunc g args).run Tryd.prog w = .ok (.enter g args) w) (hcmp : CmpLays Tryd.prog g cb enc 4 cf blk off d0.size w0) (R : RowK enc 4 w0 blk off d0) (n : Nat) (hn : d0.size = n) (hsz : n < 1000000000)
  (h0 : ∀ i j, i < j → j < n → ltOf cf d0[j]! d0[i]! = lt' d0[j]! d0[i]!) :
  Calls Tryd.prog 54 #[.slice (some ⟨blk, off, none⟩) d0.size cap, .int .i64 (n : Int), .func (.func g) #[] cb] w0 fun e w' =>
   e = .returned (.tuple #[]) ∧ ∃ d' : Array α, PermIn 0 n d0 d' ∧ SortedIn lt' 0 n d' ∧ SWK enc 4 w0 blk off d' w' := by
 have HN0 := asd hn
 have S0 := asd (SWK.start R.hH)
 have HSO := asd hS
 have H0 := asd h0
 have EG := asd eg
 have e62 : ∀ args w, (callFunc 62 args).run Tryd.prog w = .ok (.enter 62 args) w := enters_of Tryd.func62 (by kernel_rfl) rfl
 have e63 : ∀ args w, (callFunc 63 args).run Tryd.prog w = .ok (.enter 63 args) w := enters_of Tryd.func63 (by kernel_rfl) rfl
 have HINS := asd (fun (a b : Nat) (d : Array α) (w : World) (hs : d.size = d0.size) (S : SWK enc 4 w0 blk off d w) (hsz' : (Sort.insertionSort (ltOf cf) d a b).size = d.size) (hab : a ≤ b) (hb : b ≤ d.size) => ins_w enc cf g cb blk off cap a b d0 d w0 w eg hcmp R hs S hsz' hab hb (by omega))
 have HSYM := asd (fun (a m b : Nat) (d : Array α) (w : World) (hs : d0.size = d.size) (S : SWK enc 4 w0 blk off d w) (h1 : a < m) (h2 : m < b) (h3 : b ≤ d.size) (M : Mer (ltOf cf) lt' a m b d) => symMerge_w stL 4 Tryd.isAgg57 Tryd.sizeOf57 enc cf lt' hS g cb blk off cap d0 w0 eg hcmp R (by omega) (b - a) a m b d w (Nat.le_refl _) hs S h1 h2 h3 M)
 clear hS h0 eg hcmp R hn
 go_enter Tryd.func54, Tryd.ntmps54
 go_wp2
 go_loopg [7, 8] n (fun kx s7 s8 wr => ∃ (K a : Nat) (dk : Array α), s7 = .int .i64 (a : Int) ∧ s8 = .int .i64 ((a : Int) + 20) ∧ Hid (a = K * 20) ∧ a ≤ n ∧ n - a ≤ kx ∧ Aside (SWK enc 4 w0 blk off dk wr) ∧ Hid (Ins1 (ltOf cf) lt' 20 n K d0 dk))
 case atStart => exact ⟨0, 0, d0, rfl, rfl, (show (0 : Nat) = 0 * 20 from rfl), Nat.zero_le _, Nat.le_refl _, S0, Ins1.start 20 H0.out⟩
 case round =>
  obtain ⟨K, a, dk, rfl, rfl, HA0, han, hkx, S1, HE⟩ := hrel
  clear S0
  have hds : dk.size = d0.size := HE.out.perm.1
  have hn := HN0.out
  by_cases hlt : a + 20 ≤ n
  ·have hltz : (a : Int) + 20 ≤ (n : Int) := by omega
   have hnx : Ins1 (ltOf cf) lt' 20 n (K + 1) d0 (Sort.insertionSort (ltOf cf) dk a (a + 20)) := by
    have := Ins1.next HSO.out HE.out (e := a + 20) (by omega) H0.out (by have := HA0.out; omega) (by have := HA0.out; omega)
    rwa [← HA0.out] at this
   have hc := HINS.out a (a + 20) dk wr hds S1.out (by have := hnx.perm.1; omega) (by omega) (by omega)
   rw [show ((a + 20 : Nat) : Int) = (a : Int) + 20 by omega] at hc
   have HC := asd hc
   have HNX := asd hnx
   clear hc hnx S1 HE hn hds
   go_wp2_with (go_at_fn 62; refine HC.out.mono ?_; rintro e w2 ⟨rfl, S2⟩)
   have S3 := asd S2
   clear S2 HC
   go_wp2
   go_roundg (n - (a + 20))
   case measure => omega
   case rel => exact ⟨K + 1, a + 20, _, by first | rfl | go_num | (congr 1; omega), by first | rfl | go_num | (congr 1; omega), (show a + 20 = (K + 1) * 20 by have := HA0.out; omega), by omega, Nat.le_refl _, S3, HNX.out⟩
  ·have hltz : ¬ (a : Int) + 20 ≤ (n : Int) := by omega
   have hnx : Ins1 (ltOf cf) lt' 20 n (K + 1) d0 (Sort.insertionSort (ltOf cf) dk a n) := by
    have := Ins1.next HSO.out HE.out (e := n) (by omega) H0.out (by have := HA0.out; omega) (by have := HA0.out; omega)
    rwa [← HA0.out] at this
   have hc := HINS.out a n dk wr hds S1.out (by have := hnx.perm.1; omega) (by omega) (by omega)
   have HC := asd hc
   have HB := asd (And.intro hnx.perm (And.intro hnx.apart (hnx.blocks (by have := HA0.out; omega))))
   clear hc hnx S1 HE hn hds
   go_wp2_with (go_at_fn 62; refine HC.out.mono ?_; rintro e w2 ⟨rfl, S2⟩)
   generalize Sort.insertionSort (ltOf cf) dk a n = d1 at S2 HB
   have S3 := asd S2
   clear S2 HC
   go_wp2
   go_loopg [6] n (fun kx s6 wr => ∃ (bs : Nat) (db : Array α), s6 = .int .i64 (bs : Int) ∧ 20 ≤ bs ∧ bs ≤ 2 * n + 20 ∧ n - bs ≤ kx ∧ Aside (SWK enc 4 w0 blk off db wr) ∧ Hid (PermIn 0 n d0 db ∧ Apart (ltOf cf) lt' bs n db ∧ Blocks lt' bs n db))
   case atStart => exact ⟨20, d1, rfl, Nat.le_refl _, by omega, by omega, S3, HB.out⟩
   case round =>
    clear S3 HB
    obtain ⟨bs, db, rfl, hb1, hb2, hkx2, S4, HQ⟩ := hrel
    have rbs : IntKind.i64.wrap (2 * (bs : Int)) = 2 * (bs : Int) := by rw [IntKind.wrap_i64]; omega
    by_cases hlt2 : bs < n
    ·have hlt2z : (bs : Int) < (n : Int) := by omega
     have HDB := asd HQ.out.1.1
     go_wp2
     go_loopg [7, 8] n (fun kx s7 s8 wr => ∃ (K a : Nat) (dk : Array α), s7 = .int .i64 (a : Int) ∧ s8 = .int .i64 ((a : Int) + 2 * (bs : Int)) ∧ Hid (a = K * (2 * bs)) ∧ a ≤ n ∧ n - a ≤ kx ∧ Aside (SWK enc 4 w0 blk off dk wr) ∧ Hid (Mrg (ltOf cf) lt' bs n K db dk))
     case atStart => exact ⟨0, 0, db, rfl, by congr 1; omega, by show 0 = 0 * _; rw [Nat.zero_mul], Nat.zero_le _, Nat.le_refl _, S4, Mrg.start HQ.out.2.1⟩
     case round =>
      obtain ⟨K2, a2, dk2, rfl, rfl, HA, ha2n, hkx3, S5, HM⟩ := hrel
      clear S4
      have HDS2 : Aside (dk2.size = d0.size) := by show _ = _; rw [HM.out.perm.1]; exact HDB.out
      have hK1 : (K2 + 1) * (2 * bs) = a2 + 2 * bs := by rw [HA.out, Nat.add_mul, Nat.one_mul]
      have rab : IntKind.i64.wrap ((a2 : Int) + (bs : Int)) = (a2 : Int) + (bs : Int) := by rw [IntKind.wrap_i64]; omega
      have rabb : IntKind.i64.wrap ((a2 : Int) + 2 * (bs : Int) + 2 * (bs : Int)) = (a2 : Int) + 2 * (bs : Int) + 2 * (bs : Int) := by rw [IntKind.wrap_i64]; omega
      have r2bs : IntKind.i64.wrap ((bs : Int) * 2) = (bs : Int) * 2 := by rw [IntKind.wrap_i64]; omega
      by_cases hlt3 : a2 + 2 * bs ≤ n
      ·have hlt3z : (a2 : Int) + 2 * (bs : Int) ≤ (n : Int) := by omega
       have hn := HN0.out
       have hdb := HDB.out
       have hds2 := HDS2.out
       have hm := HM.out.mer HQ.out.2.1 HQ.out.2.2 (e := a2 + 2 * bs) (by omega) (by rw [← HA.out]; omega)
       rw [← HA.out] at hm
       have hc := HSYM.out a2 (a2 + bs) (a2 + 2 * bs) dk2 wr hds2.symm S5.out (by omega) (by omega) (by omega) hm
       unfold SymC at hc
       rw [hds2, show ((a2 + bs : Nat) : Int) = (a2 : Int) + (bs : Int) by omega, show ((a2 + 2 * bs : Nat) : Int) = (a2 : Int) + 2 * (bs : Int) by omega] at hc
       have HC := asd hc
       clear hc hm S5 hn hdb hds2
       go_wp2_with (go_at_fn 63; refine HC.out.mono ?_; rintro e w3 ⟨rfl, d3, P3, O3, S6⟩)
       have HN : Aside (Mrg (ltOf cf) lt' bs n (K2 + 1) db d3) := Mrg.next HM.out (by have := HN0.out; have := HDB.out; omega) (e := a2 + 2 * bs) (by omega) (by rw [← HA.out]; omega) (by rw [← HA.out]; exact P3) (by rw [← HA.out]; exact O3)
       have S7 := asd S6
       clear S6 P3 O3 HC HM
       go_wp2
       go_roundg (n - (a2 + 2 * bs))
       case measure => omega
       case rel => exact ⟨K2 + 1, a2 + 2 * bs, d3, by first | rfl | go_num | (congr 1; omega), by first | rfl | go_num | (congr 1; omega), hK1.symm, by omega, Nat.le_refl _, S7, HN.out⟩
      ·have hlt3z : ¬ (a2 : Int) + 2 * (bs : Int) ≤ (n : Int) := by omega
       by_cases hlt4 : a2 + bs < n
       ·have hlt4z : (a2 : Int) + (bs : Int) < (n : Int) := by omega
        have hn := HN0.out
        have hdb := HDB.out
        have hds2 := HDS2.out
        have hm := HM.out.mer HQ.out.2.1 HQ.out.2.2 (e := n) (by omega) (by rw [← HA.out]; omega)
        rw [← HA.out] at hm
        have hc := HSYM.out a2 (a2 + bs) n dk2 wr hds2.symm S5.out (by omega) (by omega) (by omega) hm
        unfold SymC at hc
        rw [hds2, show ((a2 + bs : Nat) : Int) = (a2 : Int) + (bs : Int) by omega] at hc
        have HC := asd hc
        clear hc hm S5 hn hdb hds2
        go_wp2_with (go_at_fn 63; refine HC.out.mono ?_; rintro e w3 ⟨rfl, d3, P3, O3, S6⟩)
        have hn : Mrg (ltOf cf) lt' bs n (K2 + 1) db d3 := Mrg.next HM.out (by have := HN0.out; have := HDB.out; omega) (e := n) (by omega) (by rw [← HA.out]; omega) (by rw [← HA.out]; exact P3) (by rw [← HA.out]; exact O3)
        have HN := asd (And.intro (permIn_trans _ _ _ _ _ HQ.out.1 hn.perm) (And.intro hn.apart (hn.blocks HQ.out.2.2 (by omega))))
        have S7 := asd S6
        clear S6 P3 O3 HC HM hn
        go_wp2
        go_roundg (n - 2 * bs)
        case measure => omega
        case rel => exact ⟨2 * bs, d3, by first | rfl | go_num | (congr 1; omega), by omega, by omega, Nat.le_refl _, S7, HN.out⟩
       ·have hlt4z : ¬ (a2 : Int) + (bs : Int) < (n : Int) := by omega
        have HN := asd (And.intro (permIn_trans _ _ _ _ _ HQ.out.1 HM.out.perm) (And.intro HM.out.apart (HM.out.blocks HQ.out.2.2 (by rw [← HA.out]; omega))))
        go_wp2
        go_roundg (n - 2 * bs)
        case measure => omega
        case rel => exact ⟨2 * bs, dk2, by first | rfl | go_num | (congr 1; omega), by omega, by omega, Nat.le_refl _, S5, HN.out⟩
    ·have hlt2z : ¬ (bs : Int) < (n : Int) := by omega
     go_wp2
     go_end0
     exact ⟨rfl, db, HQ.out.1, HQ.out.2.2.whole (by omega), S4.out⟩
set_option maxHeartbeats 16000000 in
set_option maxRecDepth 1000000 in
/-- slices.SortStableFunc. -/
theorem sortStable_w (enc : α → List Value) (cf : α → α → Int) (lt' : α → α → Bool) (hS : SWO lt') (g : Nat) (cb : Array Value) (blk off cap : Nat) (d0 : Array α) (w0 : World)
  (eg : ∀ args w, (callFunc g args).run Tryd.prog w = .ok (.enter g args) w) (hcmp : CmpLays Tryd.prog g cb enc 4 cf blk off d0.size w0) (R : RowK enc 4 w0 blk off d0) (hsz : d0.size < 1000000000)
  (h0 : ∀ i j, i < j → j < d0.size → ltOf cf d0[j]! d0[i]! = lt' d0[j]! d0[i]!) :
  Calls Tryd.prog 39 #[.slice (some ⟨blk, off, none⟩) d0.size cap, .func (.func g) #[] cb] w0 fun e w' =>
   e = .returned (.tuple #[]) ∧ ∃ d' : Array α, PermIn 0 d0.size d0 d' ∧ SortedIn lt' 0 d0.size d' ∧ SWK enc 4 w0 blk off d' w' := by
 have HC := asd (stable_w enc cf lt' hS g cb blk off cap d0 w0 eg hcmp R d0.size rfl hsz h0)
 have e54 : ∀ args w, (callFunc 54 args).run Tryd.prog w = .ok (.enter 54 args) w := enters_of Tryd.func54 (by kernel_rfl) rfl
 clear hS eg hcmp R h0
 go_enter Tryd.func39, Tryd.ntmps39
 go_wp2_with (go_at_fn 54; refine HC.out.mono ?_; rintro e w1 ⟨rfl, d', h1, h2, h3⟩)
 go_end0
 exact ⟨rfl, d', h1, h2, h3⟩
end Go.Proofs.YtndennmpnomjnaaDoor.A

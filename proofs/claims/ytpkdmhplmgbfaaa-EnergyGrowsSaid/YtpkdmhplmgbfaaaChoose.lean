/- energy.Choose: the plain twin and the contract of its call, for every list of energies and every state: the sums, the next state, the drawn number, and how many sums it reaches. -/
import Derived.Test.YtpkdmhplmgbfaaaAx2
import Derived.Test.YtpkdmhplmgbfaaaSearchLay
import Derived.Shelf.SlSorted.Search
set_option linter.unusedVariables false
set_option linter.unusedSimpArgs false
namespace Go.Proofs.Ytpkdmhplmgbfaaa.A
open Go.RowKit Go.Proofs.YtpkdmhplmgbfaaaW.PrintWords Go.Proofs.YtpkdmhplmgbfaaaW.PrintLast Go.Proofs.YtpkdmhplmgbfaaaW.PrintMore

def energy_Choose.f (k : Nat) (l0 : List Int) (a1 : Int) : Option (Int × Int × Int) :=
  (energy_sums.f k l0).bind fun s => if s.2 = 0 then (gen_Next.f a1).bind fun t =>
    if 0 < s.1.length ∧ s.1.length < 1000000 ∧ s.1.Pairwise (· ≤ ·) then (gen_Draw.f t (rd s.1 (wrap64 ((s.1.length : Int) - 1)))).bind fun x => some (((s.1.countP fun y => decide (y ≤ x) : Nat) : Int), t, 0)
    else none
  else some (0, 0, s.2)

theorem energy_Choose.mono : ∀ a0 a1 k, LeO (energy_Choose.f k a0 a1) (energy_Choose.f (k + 1) a0 a1) := by
  intro a0 a1 k
  unfold energy_Choose.f
  exact LeO.bind (energy_sums.mono _ _) (fun _ => LeO.refl _)

set_option maxHeartbeats 1000000 in
theorem choose_closure (xs : List Int) (x : Int) (b7 b9 : Nat) (A : Option Addr) (c : Nat) (W : World) (i : Nat) (hi : i < xs.length) (h7 : W.cell? ⟨b7, 0, none⟩ = some (.slice A xs.length c)) (h9 : W.cell? ⟨b9, 0, none⟩ = some (.int .i64 x)) (hr : Kd.C (Kd.int .i64) W A xs.length xs) :
    Calls Try.prog 23 #[.int .i64 i, .pointer (some ⟨b7, 0, none⟩), .pointer (some ⟨b9, 0, none⟩)] W fun e w' => e = .returned (.bool (decide (x < rd xs (i : Int)))) ∧ ∃ q, w' = W.drewN q := by
  obtain ⟨ad, rfl, hcell⟩ := Kd.at_int hr (i : Int) (by omega) (by omega)
  generalize rd xs (i : Int) = y at hcell ⊢
  rw [Int.toNat_natCast] at hcell
  have hlt : (i : Int) < (xs.length : Int) := by omega
  clear hr
  go_enter Try.func23, Try.ntmps23
  go_wp2
  go_quiet (fail)
  go_wp2
  go_ret
  exact ⟨rfl, _, rfl⟩

theorem rd_range (xs : List Int) : (List.range xs.length).map (fun (i : Nat) => rd xs (i : Int)) = xs := by
  apply List.ext_getElem (by simp)
  intro i h1 h2
  simp [rd, List.getD_eq_getElem?_getD, h2]
theorem count_rd (xs : List Int) (x : Int) : (List.range xs.length).countP (fun (i : Nat) => !decide (x < rd xs (i : Int))) = xs.countP fun y => decide (y ≤ x) := by
  conv => rhs; rw [← rd_range xs]
  rw [List.countP_map]
  congr 1
  funext i
  simp only [Function.comp_apply]
  by_cases h : x < rd xs (i : Int) <;> simp [h] <;> omega
theorem rd_sorted {xs : List Int} (h : xs.Pairwise (· ≤ ·)) (a b : Nat) (hab : a ≤ b) (hb : b < xs.length) : rd xs (a : Int) ≤ rd xs (b : Int) := by
  have e : ∀ i, i < xs.length → rd xs (i : Int) = xs[i]! := fun i hi => by simp [rd, List.getD_eq_getElem?_getD, hi]
  rw [e a (by omega), e b hb, getElem!_pos xs a (by omega), getElem!_pos xs b hb]
  rcases Nat.lt_or_ge a b with hl | hl
  · exact List.pairwise_iff_getElem.1 h a b (by omega) hb hl
  · obtain rfl : a = b := by omega
    exact Int.le_refl _

set_option maxHeartbeats 4000000 in
set_option maxRecDepth 100000 in
theorem energy_Choose.calls (k : Nat) (A0 : Option Addr) (c0 : Nat) (l0 : List Int) (a1 : Int) (r1 r2 r3 : Int) (w : World) (hr0 : Kd.C (Kd.int .i64) w A0 l0.length l0) (hc0 : l0.length ≤ c0) (h : energy_Choose.f k l0 a1 = some (r1, r2, r3)) :
    Calls Try.prog 12 #[.slice A0 l0.length c0, .int .u64 a1] w fun e w' => e = .returned (.tuple #[.int .i64 r1, .int .u64 r2, .int .i64 r3]) ∧ Below w.heap.size w w' := by
  obtain ⟨⟨s1, e0⟩, hs, h⟩ := Option.bind_eq_some_iff.1 h
  have HS := Aside0.mk (energy_sums.calls k A0 c0 l0 s1 e0 w hr0 hc0 hs)
  clear hr0 hs hc0
  simp only at h
  by_cases he : e0 = 0
  · subst he
    rw [if_pos rfl] at h
    obtain ⟨t, ht, h⟩ := Option.bind_eq_some_iff.1 h
    by_cases hc : 0 < s1.length ∧ s1.length < 1000000 ∧ s1.Pairwise (· ≤ ·)
    · rw [if_pos hc] at h
      obtain ⟨x, hx, h⟩ := Option.bind_eq_some_iff.1 h
      simp only [Option.some.injEq, Prod.mk.injEq] at h
      obtain ⟨rfl, rfl, rfl⟩ := h
      obtain ⟨hpos, hbig, hsort⟩ := hc
      have hwr : wrap64 ((s1.length : Int) - 1) = (s1.length : Int) - 1 := by unfold wrap64; omega
      rw [hwr] at hx
      have HT := Aside0.mk (fun W => gen_Next.calls a1 t W ht)
      have HX := Aside0.mk (fun W => gen_Draw.calls t (rd s1 ((s1.length : Int) - 1)) x W hx)
      have HO := Aside0.mk hsort
      clear ht hx hwr hsort
      go_enter Try.func12, Try.ntmps12
      go_wp2_with (go_at_call 19; refine HS.out.mono ?_; rintro e w1 ⟨v1, rfl, hR, hB⟩; obtain ⟨A1, c1, rfl, hc1, hC⟩ := Kd.R_reads hR; obtain ⟨ad, rfl, hlast⟩ := Kd.at_int hC ((s1.length : Int) - 1) (by omega) (by omega); have HC := Aside0.mk hC; have HB := Aside0.mk hB; have HL := Aside0.mk hlast; clear hR hB hC hlast)
      have g0 : (0 : Int) ≤ (s1.length : Int) - 1 := by omega
      have g1 : (s1.length : Int) - 1 < (s1.length : Int) := by omega
      have e1 : ((s1.length : Int) - 1).toNat = s1.length - 1 := by omega
      generalize hy : rd s1 ((s1.length : Int) - 1) = y at HX HL
      have hl1 : ∀ n, ((w1.alloc (.cells #[.slice (some ad) s1.length c1] 24)).drewN n).cell? (ad.add (s1.length - 1)) = some (.int .i64 y) := fun n => pw_cell_below (pw_below_drewN (below_alloc (Below.refl _ _) _) n) (by rw [← e1]; exact HL.out)
      clear e1 hy
      go_wp2_with (first | (go_at_call 20; refine (HT.out _).mono ?_; rintro e w2 ⟨rfl, ⟨nd, rfl⟩⟩) | (go_at_call 21; refine (HX.out _).mono ?_; rintro e w3 ⟨rfl, ⟨nd2, rfl⟩⟩))
      have hcel7 : (((w1.alloc (.cells #[.slice (some ad) s1.length c1] 24)).drewN (nd + nd2)).alloc (.cells #[.int .i64 x] 2)).cell? ⟨w1.heap.size, 0, none⟩ = some (.slice (some ad) s1.length c1) :=
        pw_cell_below (below_alloc (pw_below_drewN (Below.refl _ _) _) _) (Go.Proofs.cell_new_sl w1 _ _)
      have hcel9 : (((w1.alloc (.cells #[.slice (some ad) s1.length c1] 24)).drewN (nd + nd2)).alloc (.cells #[.int .i64 x] 2)).cell? ⟨w1.heap.size + 1, 0, none⟩ = some (.int .i64 x) := by
        have := Go.Proofs.cell_new_sl ((w1.alloc (.cells #[.slice (some ad) s1.length c1] 24)).drewN (nd + nd2)) (.int .i64 x) 2
        simpa using this
      have hbW : Below w1.heap.size w1 (((w1.alloc (.cells #[.slice (some ad) s1.length c1] 24)).drewN (nd + nd2)).alloc (.cells #[.int .i64 x] 2)) := below_alloc (pw_below_drewN (below_alloc (Below.refl _ _) _) _) _
      have hCW := Kd.C_below HC.out hbW
      generalize (((w1.alloc (.cells #[.slice (some ad) s1.length c1] 24)).drewN (nd + nd2)).alloc (.cells #[.int .i64 x] 2)) = W at hcel7 hcel9 hbW hCW ⊢
      have eg : ∀ args w, (callFunc 23 args).run Try.prog w = .ok (.enter 23 args) w := Go.Proofs.enters_of Try.func23 (by kernel_rfl) rfl
      have hlt7 := World.block_lt_of_cell? W _ hcel7
      have hlt9 := World.block_lt_of_cell? W _ hcel9
      have hs := Go.Proofs.Any.sort_Search Go.Proofs.Try.search 23 #[.pointer (some ⟨w1.heap.size, 0, none⟩), .pointer (some ⟨w1.heap.size + 1, 0, none⟩)] s1.length (fun i => decide (x < rd s1 (i : Int))) W eg (by omega)
        (fun m os i hi => (choose_closure s1 x _ _ (some ad) c1 _ i hi (cell_grown hlt7 hcel7 m os) (cell_grown hlt9 hcel9 m os) (Kd.C_below hCW (Go.Proofs.below_grown_sl _ W m os (Nat.le_refl _)))).mono fun e w' ⟨he, q, hw⟩ => ⟨he, q, #[], by rw [hw]; simp⟩)
        (fun a b hab hb ha => by
          simp only [decide_eq_true_eq] at ha ⊢
          have := rd_sorted HO.out a b hab hb
          omega)
      have hs2 : Calls Try.prog 22 #[.int .i64 (s1.length : Int), .func (.func 23) #[] #[.pointer (some ⟨w1.heap.size, 0, none⟩), .pointer (some ⟨w1.heap.size + 1, 0, none⟩)]] W fun e w' => e = .returned (.int .i64 ((s1.countP fun y => decide (y ≤ x) : Nat) : Int)) ∧ Below w1.heap.size w1 w' := by
        rw [count_rd] at hs
        exact hs.mono fun e w' ⟨he, q, os, hw⟩ => ⟨he, by rw [hw]; exact below_then hbW hbW.size (Go.Proofs.below_grown_sl _ W q os (Nat.le_refl _))⟩
      clear hs
      have HS2 := Aside0.mk hs2
      clear hs2
      generalize hres : ((s1.countP fun y => decide (y ≤ x) : Nat) : Int) = res at HS2
      have HRES := Aside0.mk hres
      clear hres
      refine HS2.out.mono ?_
      rintro e w4 ⟨rfl, hb4⟩
      have HB4 := Aside0.mk (below_then HB.out HB.out.size hb4)
      clear hb4
      go_wp2
      go_ret3
      obtain rfl := HRES.out
      exact ⟨rfl, HB4.out⟩
    · rw [if_neg hc] at h
      cases h
  · rw [if_neg he] at h
    simp only [Option.some.injEq, Prod.mk.injEq] at h
    obtain ⟨rfl, rfl, rfl⟩ := h
    have hne : (e0 != 0) = true := by simpa using he
    have hne2 : (e0 == 0) = false := by simpa using he
    clear he
    go_enter Try.func12, Try.ntmps12
    go_wp2_with (go_at_call 19; refine HS.out.mono ?_; rintro e w1 ⟨v1, rfl, hR, hB⟩; obtain ⟨A1, c1, rfl, _, _⟩ := Kd.R_reads hR; have HB := Aside0.mk hB; clear hR hB)
    go_ret3
    exact ⟨rfl, by repeat (first | exact HB.out | apply below_alloc | apply pw_below_drewN | apply below_drew1)⟩
end Go.Proofs.Ytpkdmhplmgbfaaa.A

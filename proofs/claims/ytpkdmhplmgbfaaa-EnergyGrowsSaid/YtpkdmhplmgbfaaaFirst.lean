/- energy.first at shares, called by energy.Shares with its own order: the plain twin (the first n of the sorted shares) and the contract of the call, for every list of shares and every n up to its length. -/
import Derived.Test.YtpkdmhplmgbfaaaAx3
import Derived.Test.YtpkdmhplmgbfaaaSortK
import Derived.Test.YtpkdmhplmgbfaaaSortLay
set_option linter.unusedVariables false
set_option linter.unusedSimpArgs false
namespace Go.Proofs.Ytpkdmhplmgbfaaa.A
open Go.Sort (SWO HoldsK PermIn SortedIn)
open Go.RowKit Go.Proofs.YtpkdmhplmgbfaaaW.PrintWords Go.Proofs.YtpkdmhplmgbfaaaW.PrintLast Go.Proofs.YtpkdmhplmgbfaaaW.PrintMore

instance : Inhabited S56 := ⟨z56⟩
/-- A share's cells. -/
def enc56 (x : S56) : List Value := [.int .i64 x.f0, .int .i64 x.f1]
/-- What the order of two shares comes to. -/
def cmp56 (x y : S56) : Int := if y.f1 < x.f1 then -1 else if x.f1 < y.f1 then 1 else if x.f0 < y.f0 then -1 else if y.f0 < x.f0 then 1 else 0
/-- x does not stand behind y. -/
def le56 (x y : S56) : Bool := decide (y.f1 < x.f1 ∨ (x.f1 = y.f1 ∧ x.f0 ≤ y.f0))

theorem cmpI64_f (a b : Int) : cmp_Compare_int64.f a b = some (if a < b then -1 else if b < a then 1 else 0) := by
  unfold cmp_Compare_int64.f cmp_isNaN_int64.f
  simp
  by_cases h : a < b <;> simp [h]
  by_cases h2 : b < a <;> simp [h2]
theorem cmpInt_f (a b : Int) : cmp_Compare_int.f a b = some (if a < b then -1 else if b < a then 1 else 0) := by
  unfold cmp_Compare_int.f cmp_isNaN_int.f
  simp
  by_cases h : a < b <;> simp [h]
  by_cases h2 : b < a <;> simp [h2]
theorem or_f (a b : Int) : cmp_Or_int.f 4 [a, b] = some (if a = 0 then (if b = 0 then 0 else b) else a) := by
  unfold cmp_Or_int.f
  by_cases ha : a = 0 <;> by_cases hb : b = 0 <;> simp [cmp_Or_int.l0, rd, wrap64, ha, hb]
theorem closure_f (x y : S56) : energy_Shares_1.f 4 x.f0 x.f1 y.f0 y.f1 = some (cmp56 x y) := by
  unfold energy_Shares_1.f
  rw [cmpI64_f, cmpInt_f]
  simp only [Option.bind_some, or_f]
  unfold cmp56
  congr 1
  by_cases h1 : y.f1 < x.f1
  · simp [h1]
  · by_cases h2 : x.f1 < y.f1
    · simp [h1, h2]
    · by_cases h3 : x.f0 < y.f0
      · simp [h1, h2, h3]
      · by_cases h4 : y.f0 < x.f0 <;> simp [h1, h2, h3, h4]

theorem lt56 (x y : S56) : Go.Proofs.ltOf cmp56 x y = !le56 y x := by
  unfold Go.Proofs.ltOf cmp56 le56
  by_cases h1 : y.f1 < x.f1 <;> by_cases h2 : x.f1 < y.f1 <;> by_cases h3 : x.f0 < y.f0 <;> by_cases h4 : y.f0 < x.f0 <;> simp [h1, h2, h3, h4] <;> omega
theorem swo56 : SWO (Go.Proofs.ltOf cmp56) where
  irrefl x := by rw [lt56]; simp [le56]
  trans x y z h1 h2 := by rw [lt56] at *; simp [le56] at *; omega
  ntrans x y z h1 h2 := by rw [lt56] at *; simp [le56] at *; omega
theorem one56 (x y : S56) (h1 : Go.Proofs.ltOf cmp56 x y = false) (h2 : Go.Proofs.ltOf cmp56 y x = false) : x = y := by
  rw [lt56] at h1 h2
  simp [le56] at h1 h2
  obtain ⟨a, b⟩ := x
  obtain ⟨c, d⟩ := y
  simp at h1 h2 ⊢
  omega

/-- The shares in their order. -/
def ins56 (x : S56) : List S56 → List S56
  | [] => [x]
  | y :: ys => if le56 x y = true then x :: y :: ys else y :: ins56 x ys
def sort56 : List S56 → List S56
  | [] => []
  | x :: xs => ins56 x (sort56 xs)
theorem le56_total (x y : S56) (h : le56 x y = false) : le56 y x = true := by
  simp [le56] at *; omega
theorem le56_trans (x y z : S56) (h : le56 x y = true) (h' : le56 y z = true) : le56 x z = true := by
  simp [le56] at *; omega
theorem ins56_perm (x : S56) (l : List S56) : (ins56 x l).Perm (x :: l) := by
  induction l with
  | nil => exact List.Perm.refl _
  | cons y ys ih =>
    unfold ins56
    split
    · exact List.Perm.refl _
    · exact (List.Perm.cons y ih).trans (List.Perm.swap x y ys)
theorem sort56_perm (l : List S56) : (sort56 l).Perm l := by
  induction l with
  | nil => exact List.Perm.refl _
  | cons x xs ih => exact (ins56_perm x _).trans (List.Perm.cons x ih)
theorem ins56_sorted (x : S56) (l : List S56) (h : l.Pairwise (fun a b => le56 a b = true)) : (ins56 x l).Pairwise (fun a b => le56 a b = true) := by
  induction l with
  | nil => simp [ins56]
  | cons y ys ih =>
    obtain ⟨h1, h2⟩ := List.pairwise_cons.1 h
    unfold ins56
    split
    · rename_i hx
      refine List.pairwise_cons.2 ⟨fun z hz => ?_, h⟩
      rcases List.mem_cons.1 hz with rfl | hz
      · exact hx
      · exact le56_trans _ _ _ hx (h1 z hz)
    · rename_i hx
      refine List.pairwise_cons.2 ⟨fun z hz => ?_, ih h2⟩
      rcases List.mem_cons.1 ((ins56_perm x ys).mem_iff.1 hz) with rfl | hz
      · exact le56_total _ _ (by simpa using hx)
      · exact h1 z hz
theorem sort56_sorted (l : List S56) : (sort56 l).Pairwise (fun a b => le56 a b = true) := by
  induction l with
  | nil => exact List.Pairwise.nil
  | cons x xs ih => exact ins56_sorted x _ ih
theorem sort56_length (l : List S56) : (sort56 l).length = l.length := (sort56_perm l).length_eq
theorem sort56_merge (l : List S56) : sort56 l = l.mergeSort le56 := by
  have he2 : (fun x y => !Go.Proofs.ltOf cmp56 y x) = le56 := by
    funext x y
    rw [lt56]
    simp
  have hu := Go.Sort.sorted_unique_holds (lt := Go.Proofs.ltOf cmp56) swo56 one56 l.toArray (sort56 l).toArray
    ⟨by simp [sort56_length], fun i hi => by
        have h1 : l.length ≤ i := by simpa using hi
        simp [List.getElem?_eq_none, h1, sort56_length], by
        simp only [List.extract_toArray, List.size_toArray, List.extract_eq_take_drop]
        rw [List.take_of_length_le (by simp [sort56_length]), List.take_of_length_le (by simp)]
        simpa using sort56_perm l⟩
    (fun i j _ hij hj => by
      have hj' : j < (sort56 l).length := by rw [sort56_length]; simpa using hj
      rw [lt56]
      have := List.pairwise_iff_getElem.1 (sort56_sorted l) i j (by omega) hj' hij
      simp [this, getElem!_pos, hj', show i < (sort56 l).length by omega])
  rw [he2] at hu
  simpa using hu
def energy_share_28.f (l0 : List S56) (a1 : Int) : Option (List S56) :=
  if 0 < l0.length ∧ l0.length < 1000000000 ∧ 0 ≤ a1 ∧ a1 ≤ (l0.length : Int) then some ((sort56 l0).take a1.toNat) else none

theorem cmpLays56 (blk off size : Nat) (w : World) : Go.Proofs.CmpLays Try.prog 29 #[] enc56 2 cmp56 blk off size w := fun _ _ _ _ x y =>
  (energy_Shares_1.calls 4 x.f0 x.f1 y.f0 y.f1 (cmp56 x y) _ (closure_f x y)).mono fun _ _ ⟨he, _, hg⟩ => ⟨he, hg⟩

theorem M56 (w : World) (base : Nat) (ok : Nat → Prop) (x : S56) : k56.M w base ok x (enc56 x) := k56_mkM w base ok x

set_option maxHeartbeats 2000000 in
set_option maxRecDepth 100000 in
theorem energy_share_28.calls (A0 : Option Addr) (c0 : Nat) (l0 : List S56) (a1 : Int) (r : List S56) (w : World) (hr0 : Kd.C k56 w A0 l0.length l0) (hc0 : l0.length ≤ c0) (h : energy_share_28.f l0 a1 = some r) :
    Calls Try.prog 28 #[.slice A0 l0.length c0, .int .i64 a1, .func (.func 29) #[] #[]] w fun e w' => ∃ v0_ : Value, e = .returned v0_ ∧ Kd.R k56 56 w' w.heap.size (fun _ => True) v0_ r ∧ Below w.heap.size w w' := by
  have hcond : 0 < l0.length ∧ l0.length < 1000000000 ∧ 0 ≤ a1 ∧ a1 ≤ (l0.length : Int) := by
    unfold energy_share_28.f at h
    by_cases hc : 0 < l0.length ∧ l0.length < 1000000000 ∧ 0 ≤ a1 ∧ a1 ≤ (l0.length : Int)
    · exact hc
    · rw [if_neg hc] at h; cases h
  obtain ⟨hpos, hbig, h0, h1⟩ := hcond
  unfold energy_share_28.f at h
  rw [if_pos ⟨hpos, hbig, h0, h1⟩] at h
  obtain rfl := Option.some.inj h
  clear h
  have hcl := Aside0.mk (energy_share_36.calls A0 c0 l0 l0 w hr0 hc0 (by unfold energy_share_36.f; simp; omega))
  clear hr0
  obtain ⟨m, rfl⟩ := Int.eq_ofNat_of_zero_le h0
  have hm : m ≤ l0.length := by omega
  clear h0 h1 hc0
  have eg : ∀ args w, (callFunc 29 args).run Try.prog w = .ok (.enter 29 args) w := Go.Proofs.enters_of Try.func29 (by kernel_rfl) rfl
  go_enter Try.func28, Try.ntmps28
  go_wp2_with (go_at_call 36; refine hcl.out.mono ?_; rintro e w1 ⟨v1, rfl, hR, hB⟩)
  obtain ⟨hok, inner, ho, hrep⟩ := hR
  rcases ho.2 with ⟨_, hn⟩ | ⟨g, cap, cur, rfl, hg, hh, hnc, hcap, hsz, htake⟩
  · omega
  · replace htake : List.take (l0.length * 2) cur.toList = inner := htake
    replace hsz : cur.size = cap * 2 := hsz
    have hflat : inner = l0.flatMap enc56 := SortK.reps_flat enc56 2 (by omega) (fun _ => rfl) (fun x c hc => k56_openM hc) hrep
    have hblk : g < w1.heap.size := (Array.getElem?_eq_some_iff.1 hh).1
    have hH : HoldsK enc56 2 w1 g 0 l0.toArray := SortK.holdsK_of_block enc56 2 (fun _ => rfl) hh (by rw [htake]; exact hflat)
    have hs := Go.Proofs.AnyQ.slices_SortFunc Go.Proofs.Try.sortShare 2 Try.isAgg56 Try.sizeOf56 enc56 (fun _ => rfl) (fun x v hv => by simp [enc56] at hv; rcases hv with rfl | rfl <;> rfl) cmp56 swo56 29 #[] g 0 cap l0.toArray w1 eg (cmpLays56 g 0 l0.toArray.size w1) hH hblk (by simp; omega)
    have hs2 : Calls Try.prog 37 #[.slice (some ⟨g, 0, none⟩) l0.length cap, .func (.func 29) #[] #[]] w1 fun e w' => e = .returned (.tuple #[]) ∧ ∃ n os, w' = sortWorldK enc56 2 w1 g 0 n (sort56 l0).toArray os := by
      change Calls Try.prog 37 #[.slice (some ⟨g, 0, none⟩) l0.toArray.size cap, .func (.func 29) #[] #[]] _ _ at hs
      rw [List.size_toArray] at hs
      refine hs.mono ?_
      rintro e w' ⟨he, d', n, os, hp, hsd, hw⟩
      refine ⟨he, n, os, ?_⟩
      have hu := Go.Sort.sorted_unique_holds (lt := Go.Proofs.ltOf cmp56) swo56 one56 l0.toArray d' (by simpa using hp) (by simpa using hsd)
      have he2 : (fun x y => !Go.Proofs.ltOf cmp56 y x) = le56 := by
        funext x y
        rw [lt56]
        simp
      rw [he2] at hu
      have hd : d' = (sort56 l0).toArray := by
        rw [sort56_merge, ← Array.toArray_toList (xs := d'), hu]
      rw [hw, hd]
    have HS := Aside0.mk hs2
    have HH := Aside0.mk (And.intro hh (And.intro hB (And.intro hg (And.intro hsz hcap))))
    clear hs hs2 hH hh hB hg hsz hcap htake hflat ho hrep hok
    have hmc : (m : Int) ≤ (cap : Int) := by omega
    go_wp2_with (go_at_call 37; refine HS.out.mono ?_; rintro e w2 ⟨rfl, n, os, rfl⟩)
    obtain ⟨hh, hB, hg, hsz, hcap⟩ := HH.out
    have hlen : (sort56 l0).length = l0.length := sort56_length l0
    go_ret
    have hR2 : Kd.R k56 56 (sortWorldK enc56 2 w1 g 0 n (sort56 l0).toArray os) w.heap.size (fun _ => True) (.slice (some ⟨g, 0, none⟩) (sort56 l0).length cap) (sort56 l0) :=
      ⟨fun _ _ => trivial, _, SortK.ownsRow_sortedK enc56 2 (fun _ => rfl) hlen hg hh hnc hcap hsz, SortK.flat_reps enc56 2 (by omega) (fun _ => rfl) (fun x => k56_mkM _ _ _ x) _⟩
    refine ⟨_, rfl, ?_, ?_⟩
    · rw [Int.toNat_natCast]
      exact Kd.R_take hR2 (by omega)
    · exact hB.grown (SortK.grownBy_sortedK enc56 2 _) hB.size (fun j hj => by cases hj; exact hg)
end Go.Proofs.Ytpkdmhplmgbfaaa.A

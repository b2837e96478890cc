/- The library's stable sort by blocks of 20 and merging by rotations (symMerge), in plain Lean with no program in sight: what turned and exchanged ranges come to, that a merge of two ascending parts is ascending, that blocks which are merged become one: for a test lt that agrees with an order lt' wherever a later element is compared with an earlier one. -/
import Derived.Sort.LotA
set_option linter.all false
set_option linter.unusedVariables false
set_option linter.unusedSectionVars false
namespace Go.Proofs.YtndennmpnomjnaaDoor.SortSt
open Go.Sort
variable {α : Type} [Inhabited α]
/-- The places from lo to hi, turned so that what stood from mid on stands first. -/
def rot (f : Nat → α) (lo mid hi : Nat) : Nat → α := fun x =>
 if lo ≤ x ∧ x < hi then (if x < lo + (hi - mid) then f (x + (mid - lo)) else f (x - (hi - mid))) else f x
/-- n places from p on exchanged with n from q on. -/
def sws (f : Nat → α) (p q n : Nat) : Nat → α := fun x =>
 if p ≤ x ∧ x < p + n then f (x + (q - p)) else if q ≤ x ∧ x < q + n then f (x - (q - p)) else f x
def at1 (d : Array α) : Nat → α := fun x => d[x]!
theorem rot_gt (f : Nat → α) {m i j : Nat} (h : j < i) (hi : i ≤ m) : rot (sws f (m - i) m j) (m - (i - j)) m (m + j) = rot f (m - i) m (m + j) := by
 funext x
 unfold rot sws
 repeat' split
 all_goals first | (exfalso; omega) | rfl | (congr 1; omega)
theorem rot_lt (f : Nat → α) {m i j : Nat} (h : i < j) (hi : i ≤ m) : rot (sws f (m - i) (m + j - i) i) (m - i) m (m + (j - i)) = rot f (m - i) m (m + j) := by
 funext x
 unfold rot sws
 repeat' split
 all_goals first | (exfalso; omega) | rfl | (congr 1; omega)
theorem rot_eq (f : Nat → α) {m i : Nat} (hi : i ≤ m) : sws f (m - i) m i = rot f (m - i) m (m + i) := by
 funext x
 unfold rot sws
 repeat' split
 all_goals first | (exfalso; omega) | rfl | (congr 1; omega)
theorem sws_none (f : Nat → α) (p q : Nat) : sws f p q 0 = f := by
 funext x
 unfold sws
 repeat' split
 all_goals first | (exfalso; omega) | rfl
theorem rot_none (f : Nat → α) (lo mid : Nat) (h : lo ≤ mid) : rot f lo mid mid = f := by
 funext x
 unfold rot
 repeat' split
 all_goals first | (exfalso; omega) | rfl | (congr 1; omega)
theorem rot_none' (f : Nat → α) (mid hi : Nat) (h : mid ≤ hi) : rot f mid mid hi = f := by
 funext x
 unfold rot
 repeat' split
 all_goals first | (exfalso; omega) | rfl | (congr 1; omega)
theorem at1_swp (d : Array α) {i j : Nat} (hi : i < d.size) (hj : j < d.size) : at1 (swp d i j) = fun x => if x = j then at1 d i else if x = i then at1 d j else at1 d x := by
 funext x
 exact swp_get d hi hj x
theorem sws_step (f : Nat → α) (d : Array α) {p q n N : Nat} (h : at1 d = sws f p q n) (hn : n < N) (hpq : p + N ≤ q) (hq : q + N ≤ d.size) : at1 (swp d (p + n) (q + n)) = sws f p q (n + 1) := by
 rw [at1_swp d (by omega) (by omega), h]
 funext x
 unfold sws
 repeat' split
 all_goals first | (exfalso; omega) | rfl | (congr 1; omega)
theorem rot_up (f : Nat → α) (d : Array α) {a k : Nat} (h : at1 d = rot f a (a + 1) (k + 1)) (hk : a ≤ k) (hs : k + 1 < d.size) : at1 (swp d k (k + 1)) = rot f a (a + 1) (k + 1 + 1) := by
 rw [at1_swp d (by omega) (by omega), h]
 funext x
 unfold rot
 repeat' split
 all_goals first | (exfalso; omega) | rfl | (congr 1; omega)
theorem rot_down (f : Nat → α) (d : Array α) {m k : Nat} (h : at1 d = rot f (k + 1) m (m + 1)) (hk : k + 1 ≤ m) (hs : m < d.size) : at1 (swp d (k + 1) k) = rot f k m (m + 1) := by
 rw [at1_swp d (by omega) (by omega), h]
 funext x
 unfold rot
 repeat' split
 all_goals first | (exfalso; omega) | rfl | (congr 1; omega)
variable {lt lt' : α → α → Bool}
/-- Two ascending parts, of which each later element is tested against each earlier one as the order has it. -/
structure Mer (lt lt' : α → α → Bool) (a m b : Nat) (d : Array α) : Prop where
 left : SortedIn lt' a m d
 right : SortedIn lt' m b d
 cross : ∀ i j, a ≤ i → i < m → m ≤ j → j < b → lt d[j]! d[i]! = lt' d[j]! d[i]!
theorem SWO.lt_of_lt_le (hS : SWO lt') {x y z : α} (h : lt' x y = true) (h' : lt' z y = false) : lt' x z = true := by
 cases hxz : lt' x z with
 | true => rfl
 | false =>
  have := hS.ntrans x z y hxz h'
  rw [h] at this
  cases this
theorem SWO.lt_of_le_lt (hS : SWO lt') {x y z : α} (h : lt' y x = false) (h' : lt' y z = true) : lt' x z = true := by
 cases hxz : lt' x z with
 | true => rfl
 | false =>
  have := hS.ntrans y x z h hxz
  rw [h'] at this
  cases this
theorem SortedIn.le (hS : SWO lt') {a b : Nat} {d : Array α} (h : SortedIn lt' a b d) {i j : Nat} (hi : a ≤ i) (hij : i ≤ j) (hj : j < b) : lt' d[j]! d[i]! = false := by
 rcases Nat.lt_or_eq_of_le hij with h1 | h1
 ·exact h i j hi h1 hj
 ·subst h1; exact hS.irrefl _
theorem SortedIn.nil (a b : Nat) (d : Array α) (h : b ≤ a + 1) : SortedIn lt' a b d := fun i j _ _ _ => by omega
theorem SortedIn.part {a b a' b' : Nat} {d : Array α} (h : SortedIn lt' a b d) (ha : a ≤ a') (hb : b' ≤ b) : SortedIn lt' a' b' d := fun i j h1 h2 h3 => h i j (by omega) h2 (by omega)
theorem SortedIn.of_eq {a b : Nat} {d d' : Array α} (h : SortedIn lt' a b d) (he : ∀ x, a ≤ x → x < b → d'[x]! = d[x]!) : SortedIn lt' a b d' := fun i j h1 h2 h3 => by
 rw [he i h1 (by omega), he j (by omega) h3]; exact h i j h1 h2 h3
/-- One element ahead of an ascending part: laid in behind all that are less. -/
theorem mer_first (hS : SWO lt') {a b i : Nat} {d d' : Array α} (M : Mer lt lt' a (a + 1) b d) (hi : a + 1 ≤ i) (hib : i ≤ b)
  (h1 : i = a + 1 ∨ lt d[i - 1]! d[a]! = true) (h2 : i = b ∨ lt d[i]! d[a]! = false) (hd : at1 d' = rot (at1 d) a (a + 1) i) : SortedIn lt' a b d' := by
 have g : ∀ x, d'[x]! = rot (at1 d) a (a + 1) i x := fun x => congrFun hd x
 have hlo : ∀ k, a + 1 ≤ k → k < i → lt' d[k]! d[a]! = true := fun k hk hk2 => by
  rcases h1 with h1 | h1
  ·omega
  ·rw [M.cross a (i - 1) (Nat.le_refl _) (by omega) (by omega) (by omega)] at h1
   exact SWO.lt_of_le_lt hS (SortedIn.le hS M.right hk (show k ≤ i - 1 by omega) (by omega)) h1
 have hhi : ∀ k, i ≤ k → k < b → lt' d[k]! d[a]! = false := fun k hk hk2 => by
  rcases h2 with h2 | h2
  ·omega
  ·rw [M.cross a i (Nat.le_refl _) (by omega) (by omega) (by omega)] at h2
   exact hS.ntrans _ _ _ (SortedIn.le hS M.right (by omega) hk hk2) h2
 intro x y hx hxy hy
 rw [g, g]
 unfold rot at1
 by_cases y1 : y < i
 ·by_cases y2 : y < a + (i - (a + 1))
  ·rw [if_pos (by omega), if_pos y2, if_pos (by omega), if_pos (by omega)]
   exact M.right _ _ (by omega) (by omega) (by omega)
  ·rw [if_pos (by omega), if_neg y2, if_pos (by omega), if_pos (by omega)]
   rw [show y - (i - (a + 1)) = a by omega]
   exact SWO.asymmA hS (hlo _ (by omega) (by omega))
 ·rw [if_neg (by omega)]
  by_cases x1 : x < i
  ·rw [if_pos (by omega)]
   by_cases x2 : x < a + (i - (a + 1))
   ·rw [if_pos x2]
    exact M.right _ _ (by omega) (by omega) (by omega)
   ·rw [if_neg x2, show x - (i - (a + 1)) = a by omega]
    exact hhi _ (by omega) hy
  ·rw [if_neg (by omega)]
   exact M.right _ _ (by omega) hxy hy
/-- One element behind an ascending part: laid in behind all that are not greater. -/
theorem mer_last (hS : SWO lt') {a m i : Nat} {d d' : Array α} (M : Mer lt lt' a m (m + 1) d) (hi : a ≤ i) (him : i ≤ m)
  (h1 : i = a ∨ lt d[m]! d[i - 1]! = false) (h2 : i = m ∨ lt d[m]! d[i]! = true) (hd : at1 d' = rot (at1 d) i m (m + 1)) : SortedIn lt' a (m + 1) d' := by
 have g : ∀ x, d'[x]! = rot (at1 d) i m (m + 1) x := fun x => congrFun hd x
 have hlo : ∀ k, a ≤ k → k < i → lt' d[m]! d[k]! = false := fun k hk hk2 => by
  rcases h1 with h1 | h1
  ·omega
  ·rw [M.cross (i - 1) m (by omega) (by omega) (by omega) (by omega)] at h1
   exact hS.ntrans _ _ _ h1 (SortedIn.le hS M.left hk (show k ≤ i - 1 by omega) (by omega))
 have hhi : ∀ k, i ≤ k → k < m → lt' d[m]! d[k]! = true := fun k hk hk2 => by
  rcases h2 with h2 | h2
  ·omega
  ·rw [M.cross i m (by omega) (by omega) (by omega) (by omega)] at h2
   exact SWO.lt_of_lt_le hS h2 (SortedIn.le hS M.left (by omega) hk hk2)
 intro x y hx hxy hy
 rw [g, g]
 unfold rot at1
 by_cases x1 : i ≤ x
 ·rw [if_pos (c := i ≤ x ∧ x < m + 1) ⟨x1, by omega⟩, if_pos (c := i ≤ y ∧ y < m + 1) ⟨by omega, by omega⟩, if_neg (by omega)]
  by_cases x2 : x < i + (m + 1 - m)
  ·rw [if_pos x2, show x + (m - i) = m by omega]
   exact SWO.asymmA hS (hhi _ (by omega) (by omega))
  ·rw [if_neg x2]
   exact M.left _ _ (by omega) (by omega) (by omega)
 ·rw [if_neg (c := i ≤ x ∧ x < m + 1) (by omega)]
  by_cases y1 : i ≤ y
  ·rw [if_pos ⟨y1, by omega⟩]
   by_cases y2 : y < i + (m + 1 - m)
   ·rw [if_pos y2, show y + (m - i) = m by omega]
    exact hlo _ hx (by omega)
   ·rw [if_neg y2]
    exact M.left _ _ hx (by omega) (by omega)
  ·rw [if_neg (by omega)]
   exact M.left _ _ hx hxy (by omega)
/-- What the search for the place of turning has come to: from s on the left part goes behind, up to e = mid + m - s the right part goes ahead. -/
structure Cut (lt : α → α → Bool) (a m b mid s : Nat) (d : Array α) : Prop where
 s1 : a ≤ s
 s2 : s ≤ m
 s3 : mid + m - s ≤ b
 s4 : s ≤ mid
 lo : (s = a ∨ mid + m - s = b) ∨ lt d[mid + m - s]! d[s - 1]! = false
 hi : (s = m ∨ s = mid) ∨ lt d[mid + m - s - 1]! d[s]! = true
/-- Behind the turn: both halves are ready to be merged, and the first half is not greater than the second. -/
theorem mer_cut (hS : SWO lt') {a m b mid s : Nat} {d d' : Array α} (M : Mer lt lt' a m b d) (ham : a < m) (hmb : m < b) (hm1 : a ≤ mid) (hm2 : mid ≤ b) (C : Cut lt a m b mid s d)
  (hd : at1 d' = rot (at1 d) s m (mid + m - s)) :
  Mer lt lt' a s mid d' ∧ Mer lt lt' mid (mid + m - s) b d' ∧ (∀ x y, a ≤ x → x < mid → mid ≤ y → y < b → lt' d'[y]! d'[x]! = false) := by
 obtain ⟨s1, s2, s3, s4, lo, hi⟩ := C
 have g : ∀ x, d'[x]! = rot (at1 d) s m (mid + m - s) x := fun x => congrFun hd x
 -- the four parts
 have p1 : ∀ x, x < s → d'[x]! = d[x]! := fun x hx => by
  rw [g]; unfold rot at1; rw [if_neg (by omega)]
 have p2 : ∀ x, s ≤ x → x < mid → d'[x]! = d[x + (m - s)]! := fun x hx hx2 => by
  rw [g]; unfold rot at1; rw [if_pos (by omega), if_pos (by omega)]
 have p3 : ∀ x, mid ≤ x → x < mid + m - s → d'[x]! = d[x - (mid - s)]! := fun x hx hx2 => by
  rw [g]; unfold rot at1; rw [if_pos (by omega), if_neg (by omega)]
  congr 1; omega
 have p4 : ∀ x, mid + m - s ≤ x → d'[x]! = d[x]! := fun x hx => by
  rw [g]; unfold rot at1
  by_cases h : s ≤ x ∧ x < mid + m - s
  ·omega
  ·rw [if_neg h]
 have L : ∀ i j, a ≤ i → i ≤ j → j < m → lt' d[j]! d[i]! = false := fun i j h1 h2 h3 => SortedIn.le hS M.left h1 h2 h3
 have R : ∀ i j, m ≤ i → i ≤ j → j < b → lt' d[j]! d[i]! = false := fun i j h1 h2 h3 => SortedIn.le hS M.right h1 h2 h3
 -- left of the cut, right of the end
 have q1 : ∀ x y, a ≤ x → x < s → mid + m - s ≤ y → y < b → lt' d[y]! d[x]! = false := fun x y h1 h2 h3 h4 => by
  rcases lo with (lo | lo) | lo
  ·omega
  ·omega
  ·by_cases hk : m ≤ mid + m - s
   ·rw [M.cross (s - 1) (mid + m - s) (by omega) (by omega) hk (by omega)] at lo
    exact hS.ntrans _ _ _ (R _ _ hk h3 h4) (hS.ntrans _ _ _ lo (L _ _ h1 (by omega) (by omega)))
   ·omega
 have q2 : ∀ x y, m ≤ x → x < mid + m - s → s ≤ y → y < m → lt' d[y]! d[x]! = false := fun x y h1 h2 h3 h4 => by
  rcases hi with (hi | hi) | hi
  ·omega
  ·omega
  ·rw [M.cross s (mid + m - s - 1) (by omega) (by omega) (by omega) (by omega)] at hi
   have e1 := SWO.lt_of_le_lt hS (R x (mid + m - s - 1) h1 (by omega) (by omega)) hi
   have e2 := SWO.lt_of_lt_le hS e1 (L s y s1 h3 h4)
   exact SWO.asymmA hS e2
 refine ⟨⟨?_, ?_, ?_⟩, ⟨?_, ?_, ?_⟩, ?_⟩
 ·exact SortedIn.of_eq (SortedIn.part M.left (Nat.le_refl _) s2) (fun x _ hx => p1 x hx)
 ·intro x y hx hxy hy
  rw [p2 x hx (by omega), p2 y (by omega) hy]
  exact M.right _ _ (by omega) (by omega) (by omega)
 ·intro x y hx hx2 hy hy2
  rw [p1 x hx2, p2 y hy hy2]
  exact M.cross _ _ hx (by omega) (by omega) (by omega)
 ·intro x y hx hxy hy
  rw [p3 x hx (by omega), p3 y (by omega) hy]
  exact M.left _ _ (by omega) (by omega) (by omega)
 ·exact SortedIn.of_eq (SortedIn.part M.right (by omega) (Nat.le_refl _)) (fun x hx _ => p4 x hx)
 ·intro x y hx hx2 hy hy2
  rw [p3 x hx hx2, p4 y hy]
  exact M.cross _ _ (by omega) (by omega) (by omega) hy2
 ·intro x y hx hx2 hy hy2
  by_cases h1 : x < s
  ·rw [p1 x h1]
   by_cases h2 : y < mid + m - s
   ·rw [p3 y hy h2]
    exact L _ _ hx (by omega) (by omega)
   ·rw [p4 y (by omega)]
    exact q1 _ _ hx h1 (by omega) hy2
  ·rw [p2 x (by omega) hx2]
   by_cases h2 : y < mid + m - s
   ·rw [p3 y hy h2]
    exact q2 _ _ (by omega) (by omega) (by omega) (by omega)
   ·rw [p4 y (by omega)]
    exact R _ _ (by omega) (by omega) hy2
/-- The two halves sorted by themselves: the whole is ascending. -/
theorem halves (hS : SWO lt') {a b mid : Nat} {d1 d2 d3 : Array α} (hm1 : a ≤ mid) (hm2 : mid ≤ b) (hb : b ≤ d1.size)
  (hx : ∀ x y, a ≤ x → x < mid → mid ≤ y → y < b → lt' d1[y]! d1[x]! = false)
  (P2 : PermIn a mid d1 d2) (S2 : SortedIn lt' a mid d2) (P3 : PermIn mid b d2 d3) (S3 : SortedIn lt' mid b d3) : SortedIn lt' a b d3 := by
 have e3 : ∀ x, x < mid → d3[x]! = d2[x]! := fun x h => P3.2.1 x (.inl h)
 have e2 : ∀ x, mid ≤ x → d2[x]! = d1[x]! := fun x h => P2.2.1 x (.inr h)
 have k1 : ∀ y, mid ≤ y → y < b → ∀ x, a ≤ x → x < mid → lt' d1[y]! d2[x]! = false := fun y hy hy2 =>
  permIn_all d1 d2 a mid (fun v => lt' d1[y]! v = false) (by omega) P2 (fun x h1 h2 => hx x y h1 h2 hy hy2)
 have k2 : ∀ x, a ≤ x → x < mid → ∀ y, mid ≤ y → y < b → lt' d3[y]! d2[x]! = false := fun x h1 h2 =>
  permIn_all d2 d3 mid b (fun v => lt' v d2[x]! = false) (by rw [P2.1]; exact hb) P3 (fun y hy hy2 => by
   show lt' d2[y]! d2[x]! = false
   rw [e2 y hy]; exact k1 y hy hy2 x h1 h2)
 intro x y hx1 hxy hy
 by_cases h1 : y < mid
 ·rw [e3 x (by omega), e3 y h1]
  exact S2 x y hx1 hxy h1
 ·by_cases h2 : x < mid
  ·rw [e3 x h2]
   exact k2 x hx1 h2 y (by omega) hy
  ·exact S3 x y (by omega) hxy hy
/-! ### The insertion sort of a block -/
theorem insInner_eq (a i : Nat) : ∀ (j : Nat) (d : Array α), i < d.size → j ≤ i → (∀ k, a ≤ k → k < j → lt d[j]! d[k]! = lt' d[j]! d[k]!) → insInner lt a j d = insInner lt' a j d := by
 intro j
 induction j with
 | zero => intro d _ _ _; rfl
 | succ j ih =>
  intro d hs hj hk
  unfold insInner
  by_cases ha : j + 1 > a
  ·rw [hk j (by omega) (by omega)]
   by_cases hl : lt' d[j + 1]! d[j]! = true
   ·rw [if_pos (by simp [ha, hl]), if_pos (by simp [ha, hl])]
    refine ih (swp d (j + 1) j) (by rw [swp_size]; exact hs) (by omega) (fun k h1 h2 => ?_)
    have g := swp_get d (i := j + 1) (j := j) (by omega) (by omega)
    rw [g, g, if_pos rfl, if_neg (by omega), if_neg (by omega)]
    exact hk k h1 (by omega)
   ·rw [if_neg (by simp [hl]), if_neg (by simp [hl])]
  ·rw [if_neg (by simp; omega), if_neg (by simp; omega)]
theorem insOuter_eq (hS : SWO lt') (a b : Nat) : ∀ (n i : Nat) (d : Array α), b - i ≤ n → a < i → b ≤ d.size → (∀ j k, a ≤ k → k < j → i ≤ j → j < b → lt d[j]! d[k]! = lt' d[j]! d[k]!) → insOuter lt a b i d = insOuter lt' a b i d := by
 intro n
 induction n with
 | zero =>
  intro i d hn ha hb hk
  unfold insOuter
  rw [if_neg (by omega), if_neg (by omega)]
 | succ n ih =>
  intro i d hn ha hb hk
  unfold insOuter
  by_cases hi : i < b
  ·rw [if_pos hi, if_pos hi, insInner_eq a i i d (by omega) (Nat.le_refl _) (fun k h1 h2 => hk i k h1 h2 (Nat.le_refl _) hi)]
   have hp : PermIn a (i + 1) d (insInner lt' a i d) := by
    have : ∀ (j : Nat) (d : Array α), j ≤ i → i < d.size → PermIn a (i + 1) d (insInner lt' a j d) := by
     intro j
     induction j with
     | zero => intro d _ _; exact permIn_refl _ _ _
     | succ j ihj =>
      intro d hj hs
      unfold insInner
      split
      ·rename_i hc
       have ha : a ≤ j := by simp at hc; omega
       exact permIn_trans _ _ _ _ _ (swp_permIn d a (i + 1) (j + 1) j (by omega) (by omega) ha (by omega) (by omega)) (ihj _ (by omega) (by rw [swp_size]; exact hs))
      ·exact permIn_refl _ _ _
    exact this i d (Nat.le_refl _) (by omega)
   refine ih (i + 1) _ (by omega) (by omega) (by rw [hp.1]; exact hb) (fun j k h1 h2 h3 h4 => ?_)
   rw [hp.2.1 j (.inr (by omega))]
   by_cases hki : k < i + 1
   ·exact permIn_all d _ a (i + 1) (fun v => lt d[j]! v = lt' d[j]! v) (by omega) hp (fun k' h5 h6 => hk j k' h5 (by omega) (by omega) h4) k h1 hki
   ·rw [hp.2.1 k (.inr (by omega))]
    exact hk j k h1 h2 (by omega) h4
  ·rw [if_neg hi, if_neg hi]
theorem insertionSort_block (hS : SWO lt') (d : Array α) (a b : Nat) (hab : a ≤ b) (hb : b ≤ d.size) (hk : ∀ j k, a ≤ k → k < j → j < b → lt d[j]! d[k]! = lt' d[j]! d[k]!) :
  PermIn a b d (insertionSort lt d a b) ∧ SortedIn lt' a b (insertionSort lt d a b) := by
 have e : insertionSort lt d a b = insertionSort lt' d a b := insOuter_eq hS a b (b - (a + 1)) (a + 1) d (Nat.le_refl _) (by omega) hb (fun j k h1 h2 _ h4 => hk j k h1 h2 h4)
 rw [e]
 exact insertionSort_holds hS d a b hab hb
/-! ### Blocks -/
/-- Elements of different blocks of bs are tested as the order has it. -/
def Apart (lt lt' : α → α → Bool) (bs n : Nat) (d : Array α) : Prop := ∀ k i j, i < k * bs → k * bs ≤ j → j < n → lt d[j]! d[i]! = lt' d[j]! d[i]!
/-- The blocks of bs are ascending. -/
def Blocks (lt' : α → α → Bool) (bs n : Nat) (d : Array α) : Prop := ∀ k, SortedIn lt' (k * bs) (min ((k + 1) * bs) n) d
/-- A block permuted within itself. -/
theorem Apart.perm {bs n K e : Nat} {d d' : Array α} (h : Apart lt lt' bs n d) (hn : n ≤ d.size) (he : e ≤ (K + 1) * bs) (hen : e ≤ n) (P : PermIn (K * bs) e d d') : Apart lt lt' bs n d' := by
 intro k i j hi hj hjn
 have hm : ∀ x y : Nat, x ≤ y → x * bs ≤ y * bs := fun x y h => Nat.mul_le_mul_right bs h
 have hKs : (K + 1) * bs = K * bs + bs := by rw [Nat.add_mul, Nat.one_mul]
 by_cases hi1 : K * bs ≤ i ∧ i < e
 ·have hkK : K < k := by
   rcases Nat.lt_or_ge K k with h1 | h1
   ·exact h1
   ·have := hm k K h1; omega
  have := hm (K + 1) k hkK
  have hj' : d'[j]! = d[j]! := P.2.1 j (.inr (by omega))
  rw [hj']
  exact permIn_all d d' (K * bs) e (fun v => lt d[j]! v = lt' d[j]! v) (by omega) P (fun x h1 h2 => h k x j (by omega) hj hjn) i hi1.1 hi1.2
 ·have hi' : d'[i]! = d[i]! := P.2.1 i (by omega)
  rw [hi']
  by_cases hj1 : K * bs ≤ j ∧ j < e
  ·have hkK : k ≤ K := by
    rcases Nat.lt_or_ge K k with h1 | h1
    ·have := hm (K + 1) k h1; omega
    ·exact h1
   have := hm k K hkK
   exact permIn_all d d' (K * bs) e (fun v => lt v d[i]! = lt' v d[i]!) (by omega) P (fun x h1 h2 => h k i x hi (by omega) (by omega)) j hj1.1 hj1.2
  ·have hj' : d'[j]! = d[j]! := P.2.1 j (by omega)
   rw [hj']
   exact h k i j hi hj hjn
theorem Apart.twice {bs n : Nat} {d : Array α} (h : Apart lt lt' bs n d) : Apart lt lt' (2 * bs) n d := fun k i j hi hj hn => by
 have e : k * (2 * bs) = (2 * k) * bs := by rw [← Nat.mul_assoc, Nat.mul_comm k 2]
 rw [e] at hi hj
 exact h (2 * k) i j hi hj hn
/-- What holds while the blocks are sorted by insertion: K blocks are done. -/
structure Ins1 (lt lt' : α → α → Bool) (bs n K : Nat) (d0 d : Array α) : Prop where
 perm : PermIn 0 n d0 d
 apart : Apart lt lt' bs n d
 done : ∀ k, k < K → SortedIn lt' (k * bs) (min ((k + 1) * bs) n) d
 rest : ∀ x, K * bs ≤ x → d[x]! = d0[x]!
theorem Ins1.start (bs : Nat) {n : Nat} {d : Array α} (h : ∀ i j, i < j → j < n → lt d[j]! d[i]! = lt' d[j]! d[i]!) : Ins1 lt lt' bs n 0 d d :=
 ⟨permIn_refl _ _ _, fun k i j h1 h2 h3 => h i j (by omega) h3, fun k hk => by omega, fun _ _ => rfl⟩
theorem Ins1.next (hS : SWO lt') {bs n K e : Nat} {d0 d : Array α} (h : Ins1 lt lt' bs n K d0 d) (hn : n ≤ d0.size) (h0 : ∀ i j, i < j → j < n → lt d0[j]! d0[i]! = lt' d0[j]! d0[i]!)
  (he : e = min ((K + 1) * bs) n) (hK : K * bs ≤ n) : Ins1 lt lt' bs n (K + 1) d0 (insertionSort lt d (K * bs) e) := by
 have hKs : (K + 1) * bs = K * bs + bs := by rw [Nat.add_mul, Nat.one_mul]
 have hm : ∀ x y : Nat, x ≤ y → x * bs ≤ y * bs := fun x y h => Nat.mul_le_mul_right bs h
 have hsz := h.perm.1
 obtain ⟨P, S⟩ := insertionSort_block (lt := lt) hS d (K * bs) e (by omega) (by omega) (fun j k h1 h2 h3 => by
  rw [h.rest j (by omega), h.rest k h1]; exact h0 k j h2 (by omega))
 refine ⟨permIn_trans _ _ _ _ _ h.perm (permIn_mono _ _ (K * bs) e 0 n (by omega) (by omega) (by omega) P), h.apart.perm (by omega) (by omega) (by omega) P, ?_, ?_⟩
 ·intro k hk
  by_cases hkK : k = K
  ·subst hkK
   rw [← he]; exact S
  ·have := hm (k + 1) K (by omega)
   exact SortedIn.of_eq (h.done k (by omega)) (fun x h1 h2 => P.2.1 x (.inl (by omega)))
 ·intro x hx
  rw [P.2.1 x (.inr (by omega))]
  exact h.rest x (by omega)
theorem Ins1.blocks {bs n K : Nat} {d0 d : Array α} (h : Ins1 lt lt' bs n K d0 d) (hK : n ≤ K * bs) : Blocks lt' bs n d := fun k => by
 rcases Nat.lt_or_ge k K with h1 | h1
 ·exact h.done k h1
 ·have : K * bs ≤ k * bs := Nat.mul_le_mul_right bs h1
  exact SortedIn.nil _ _ _ (by omega)
/-- What holds while pairs of blocks are merged: K pairs are done. -/
structure Mrg (lt lt' : α → α → Bool) (bs n K : Nat) (d0 d : Array α) : Prop where
 perm : PermIn 0 n d0 d
 apart : Apart lt lt' (2 * bs) n d
 done : ∀ k, k < K → SortedIn lt' (k * (2 * bs)) (min ((k + 1) * (2 * bs)) n) d
 rest : ∀ x, K * (2 * bs) ≤ x → d[x]! = d0[x]!
theorem Mrg.start {bs n : Nat} {d : Array α} (h : Apart lt lt' bs n d) : Mrg lt lt' bs n 0 d d :=
 ⟨permIn_refl _ _ _, h.twice, fun k hk => by omega, fun _ _ => rfl⟩
theorem Mrg.mer {bs n K e : Nat} {d0 d : Array α} (h : Mrg lt lt' bs n K d0 d) (A : Apart lt lt' bs n d0) (B : Blocks lt' bs n d0) (he : e = min ((K + 1) * (2 * bs)) n) (hK : K * (2 * bs) + bs ≤ e) :
  Mer lt lt' (K * (2 * bs)) (K * (2 * bs) + bs) e d := by
 have e1 : K * (2 * bs) = (2 * K) * bs := by rw [← Nat.mul_assoc, Nat.mul_comm K 2]
 have e2 : (2 * K + 1) * bs = (2 * K) * bs + bs := by rw [Nat.add_mul, Nat.one_mul]
 have e3 : (2 * K + 1 + 1) * bs = (2 * K) * bs + bs + bs := by rw [Nat.add_mul, e2, Nat.one_mul]
 have e4 : (K + 1) * (2 * bs) = (2 * K) * bs + bs + bs := by rw [Nat.add_mul, e1]; omega
 have b1 := B (2 * K)
 have b2 := B (2 * K + 1)
 rw [e2] at b1 b2
 rw [e3] at b2
 refine ⟨?_, ?_, ?_⟩
 ·refine SortedIn.of_eq (SortedIn.part b1 (by omega) (by omega)) (fun x h1 h2 => h.rest x h1)
 ·refine SortedIn.of_eq (SortedIn.part b2 (by omega) (by omega)) (fun x h1 h2 => h.rest x (by omega))
 ·intro i j h1 h2 h3 h4
  rw [h.rest i h1, h.rest j (by omega)]
  exact A (2 * K + 1) i j (by omega) (by omega) (by omega)
theorem Mrg.next {bs n K e : Nat} {d0 d d' : Array α} (h : Mrg lt lt' bs n K d0 d) (hn : n ≤ d0.size) (he : e = min ((K + 1) * (2 * bs)) n) (hK : K * (2 * bs) ≤ n)
  (P : PermIn (K * (2 * bs)) e d d') (S : SortedIn lt' (K * (2 * bs)) e d') : Mrg lt lt' bs n (K + 1) d0 d' := by
 have hKs : (K + 1) * (2 * bs) = K * (2 * bs) + 2 * bs := by rw [Nat.add_mul, Nat.one_mul]
 have hm : ∀ x y : Nat, x ≤ y → x * (2 * bs) ≤ y * (2 * bs) := fun x y h => Nat.mul_le_mul_right (2 * bs) h
 have hsz := h.perm.1
 refine ⟨permIn_trans _ _ _ _ _ h.perm (permIn_mono _ _ _ e 0 n (by omega) (by omega) (by omega) P), h.apart.perm (by omega) (by omega) (by omega) P, ?_, ?_⟩
 ·intro k hk
  by_cases hkK : k = K
  ·subst hkK
   rw [← he]; exact S
  ·have := hm (k + 1) K (by omega)
   exact SortedIn.of_eq (h.done k (by omega)) (fun x h1 h2 => P.2.1 x (.inl (by omega)))
 ·intro x hx
  rw [P.2.1 x (.inr (by omega))]
  exact h.rest x (by omega)
/-- The last blocks, where no whole block follows: they are ascending as they stand. -/
theorem Mrg.blocks {bs n K : Nat} {d0 d : Array α} (h : Mrg lt lt' bs n K d0 d) (B : Blocks lt' bs n d0) (hK : n ≤ K * (2 * bs) + bs) : Blocks lt' (2 * bs) n d := fun k => by
 rcases Nat.lt_or_ge k K with h1 | h1
 ·exact h.done k h1
 ·have e1 : k * (2 * bs) = (2 * k) * bs := by rw [← Nat.mul_assoc, Nat.mul_comm k 2]
  have e2 : (2 * k + 1) * bs = (2 * k) * bs + bs := by rw [Nat.add_mul, Nat.one_mul]
  have hm : K * (2 * bs) ≤ k * (2 * bs) := Nat.mul_le_mul_right _ h1
  have b1 := B (2 * k)
  rw [e2] at b1
  exact SortedIn.of_eq (SortedIn.part b1 (by omega) (by omega)) (fun x h1 h2 => h.rest x (by omega))
theorem Blocks.whole {bs n : Nat} {d : Array α} (h : Blocks lt' bs n d) (hn : n ≤ bs) : SortedIn lt' 0 n d := by
 have := h 0
 exact SortedIn.part this (by omega) (by omega)
end Go.Proofs.YtndennmpnomjnaaDoor.SortSt

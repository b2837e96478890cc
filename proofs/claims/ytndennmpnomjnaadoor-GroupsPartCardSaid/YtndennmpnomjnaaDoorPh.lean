/- GroupsPart in plain words: the groups part the keys' places; who stands for a group is one of it with the least size; the law's function answers true. -/
import Derived.Test.YtndennmpnomjnaaDoorPc
import Derived.Test.YtndennmpnomjnaaDoorBx4
set_option linter.all false
set_option linter.unusedVariables false
namespace Go.Proofs.YtndennmpnomjnaaDoor.A
open Go.RowKit Go.Proofs.YtndennmpnomjnaaDoorW.PrintWords
theorem rdT_set {gs : List S35} {c : Nat} (v : S35) (hc : c < gs.length) (j : Nat) : rd_T35 (gs.set c v) (j : Int) = if j = c then v else rd_T35 gs (j : Int) := by
 unfold rd_T35
 rw [Int.toNat_natCast, List.getD_eq_getElem?_getD, List.getD_eq_getElem?_getD, List.getElem?_set]
 by_cases h : j = c
 ·subst h; simp [hc]
 ·rw [if_neg (fun e => h e.symm), if_neg h]
theorem rdT_left {gs hs : List S35} {j : Nat} (hj : j < gs.length) : rd_T35 (gs ++ hs) (j : Int) = rd_T35 gs (j : Int) := by
 unfold rd_T35
 rw [Int.toNat_natCast, List.getD_eq_getElem?_getD, List.getD_eq_getElem?_getD, List.getElem?_append_left hj]
theorem rdT_last (gs : List S35) (g : S35) : rd_T35 (gs ++ [g]) (gs.length : Int) = g := by
 unfold rd_T35
 rw [Int.toNat_natCast, List.getD_eq_getElem?_getD]
 simp
/-- The groups of the first n keys. -/
structure PInv (ks : List ByteArray) (n : Nat) (gs : List S35) : Prop where
 one : ∀ i j : Nat, i < gs.length → j < gs.length → (rd_T35 gs (i : Int)).f0 = (rd_T35 gs (j : Int)).f0 → i = j
 mem : ∀ i : Nat, i < gs.length → ∀ x ∈ (rd_T35 gs (i : Int)).f1, ∃ m : Nat, x = (m : Int) ∧ m < n ∧ rdOf ByteArray.empty ks (m : Int) = (rd_T35 gs (i : Int)).f0
 all : ∀ m : Nat, m < n → ∃ i : Nat, i < gs.length ∧ (m : Int) ∈ (rd_T35 gs (i : Int)).f1
 nod : ∀ i : Nat, i < gs.length → (rd_T35 gs (i : Int)).f1.Nodup
 ne : ∀ i : Nat, i < gs.length → (rd_T35 gs (i : Int)).f1 ≠ []
theorem nodup_snoc {l : List Int} {n : Nat} (h : l.Nodup) (hx : ∀ x ∈ l, ∃ m : Nat, x = (m : Int) ∧ m < n) : (l ++ [(n : Int)]).Nodup := by
 refine List.nodup_append.2 ⟨h, by simp, ?_⟩
 intro a ha b hb e
 simp at hb
 obtain ⟨m, hm, hlt⟩ := hx a ha
 omega
theorem PInv.step {ks : List ByteArray} {n : Nat} {gs : List S35} (h : PInv ks n gs) : PInv ks (n + 1) (gStep gs (n : Int) (rdOf ByteArray.empty ks (n : Int))) := by
 obtain ⟨s, hs⟩ : ∃ s, s = rdOf ByteArray.empty ks (n : Int) := ⟨_, rfl⟩
 rw [← hs]
 obtain ⟨c, hc⟩ : ∃ c, c = kfind (gs.map (·.f0)) s := ⟨_, rfl⟩
 have hle := kfind_le' gs s
 rw [← hc] at hle
 by_cases hlt : c < gs.length
 ·have e0 : (rd_T35 gs (c : Int)).f0 = s := (kfind_at hlt).1 hc
  have eq : gStep gs (n : Int) s = gs.set c ⟨s, (rd_T35 gs (c : Int)).f1 ++ [(n : Int)]⟩ := by
   unfold gStep gNew
   rw [← hc, if_pos hlt, e0]
  have hr : ∀ j : Nat, rd_T35 (gs.set c ⟨s, (rd_T35 gs (c : Int)).f1 ++ [(n : Int)]⟩) (j : Int) = if j = c then ⟨s, (rd_T35 gs (c : Int)).f1 ++ [(n : Int)]⟩ else rd_T35 gs (j : Int) := rdT_set _ hlt
  have hf0 : ∀ j : Nat, (rd_T35 (gs.set c ⟨s, (rd_T35 gs (c : Int)).f1 ++ [(n : Int)]⟩) (j : Int)).f0 = (rd_T35 gs (j : Int)).f0 := by
   intro j
   rw [hr]
   by_cases hj : j = c
   ·subst hj; rw [if_pos rfl, e0]
   ·rw [if_neg hj]
  rw [eq]
  refine ⟨?_, ?_, ?_, ?_, ?_⟩
  ·intro i j hi hj e
   rw [List.length_set] at hi hj
   rw [hf0, hf0] at e
   exact h.one i j hi hj e
  ·intro i hi x hx
   rw [List.length_set] at hi
   rw [hf0]
   rw [hr] at hx
   by_cases hj : i = c
   ·subst hj
    rw [if_pos rfl] at hx
    rcases List.mem_append.1 hx with hx | hx
    ·obtain ⟨m, h1, h2, h3⟩ := h.mem i hi x hx
     exact ⟨m, h1, by omega, h3⟩
    ·simp at hx
     exact ⟨n, hx, by omega, by rw [e0, hs]⟩
   ·rw [if_neg hj] at hx
    obtain ⟨m, h1, h2, h3⟩ := h.mem i hi x hx
    exact ⟨m, h1, by omega, h3⟩
  ·intro m hm
   by_cases hmn : m = n
   ·subst hmn
    exact ⟨c, by rw [List.length_set]; exact hlt, by rw [hr, if_pos rfl]; simp⟩
   ·obtain ⟨i, hi, hx⟩ := h.all m (by omega)
    refine ⟨i, by rw [List.length_set]; exact hi, ?_⟩
    rw [hr]
    by_cases hj : i = c
    ·subst hj; rw [if_pos rfl]; exact List.mem_append.2 (.inl hx)
    ·rw [if_neg hj]; exact hx
  ·intro i hi
   rw [List.length_set] at hi
   rw [hr]
   by_cases hj : i = c
   ·subst hj
    rw [if_pos rfl]
    exact nodup_snoc (h.nod i hi) (fun x hx => by obtain ⟨m, h1, h2, _⟩ := h.mem i hi x hx; exact ⟨m, h1, h2⟩)
   ·rw [if_neg hj]; exact h.nod i hi
  ·intro i hi
   rw [List.length_set] at hi
   rw [hr]
   by_cases hj : i = c
   ·rw [if_pos hj]; simp
   ·rw [if_neg hj]; exact h.ne i hi
 ·have e : c = gs.length := by omega
  have hno : ∀ j : Nat, j < gs.length → ¬ (rd_T35 gs (j : Int)).f0 = s := fun j hj => (kfind_at hj).2 (by omega)
  have eq : gStep gs (n : Int) s = gs ++ [⟨s, [(n : Int)]⟩] := by
   unfold gStep gNew
   rw [← hc, if_neg hlt, e, rdT_last]
   simp
  have hl : ∀ j : Nat, j < gs.length → rd_T35 (gs ++ [⟨s, [(n : Int)]⟩]) (j : Int) = rd_T35 gs (j : Int) := fun j hj => rdT_left hj
  have hz : rd_T35 (gs ++ [⟨s, [(n : Int)]⟩]) (gs.length : Int) = ⟨s, [(n : Int)]⟩ := rdT_last _ _
  have hlen : (gs ++ [(⟨s, [(n : Int)]⟩ : S35)]).length = gs.length + 1 := by simp
  rw [eq]
  refine ⟨?_, ?_, ?_, ?_, ?_⟩
  ·intro i j hi hj e
   rw [hlen] at hi hj
   by_cases h1 : i < gs.length
   ·by_cases h2 : j < gs.length
    ·rw [hl i h1, hl j h2] at e; exact h.one i j h1 h2 e
    ·obtain rfl : j = gs.length := by omega
     rw [hl i h1, hz] at e; exact absurd e (hno i h1)
   ·obtain rfl : i = gs.length := by omega
    by_cases h2 : j < gs.length
    ·rw [hl j h2, hz] at e; exact absurd e.symm (hno j h2)
    ·omega
  ·intro i hi x hx
   rw [hlen] at hi
   by_cases h1 : i < gs.length
   ·rw [hl i h1] at hx ⊢
    obtain ⟨m, h1, h2, h3⟩ := h.mem i h1 x hx
    exact ⟨m, h1, by omega, h3⟩
   ·obtain rfl : i = gs.length := by omega
    rw [hz] at hx ⊢
    simp at hx
    exact ⟨n, hx, by omega, by rw [hs]⟩
  ·intro m hm
   by_cases hmn : m = n
   ·subst hmn
    exact ⟨gs.length, by rw [hlen]; omega, by rw [hz]; simp⟩
   ·obtain ⟨i, hi, hx⟩ := h.all m (by omega)
    exact ⟨i, by rw [hlen]; omega, by rw [hl i hi]; exact hx⟩
  ·intro i hi
   rw [hlen] at hi
   by_cases h1 : i < gs.length
   ·rw [hl i h1]; exact h.nod i h1
   ·obtain rfl : i = gs.length := by omega
    rw [hz]; simp
  ·intro i hi
   rw [hlen] at hi
   by_cases h1 : i < gs.length
   ·rw [hl i h1]; exact h.ne i h1
   ·obtain rfl : i = gs.length := by omega
    rw [hz]; simp
theorem gAll_inv (ks : List ByteArray) : ∀ (n i : Nat) (gs : List S35), ks.length - i = n → i ≤ ks.length → PInv ks i gs → PInv ks ks.length (gAll (ks.drop i) i gs) := by
 intro n
 induction n with
 | zero =>
  intro i gs hn hi h
  obtain rfl : i = ks.length := by omega
  rw [List.drop_eq_nil_of_le (Nat.le_refl _)]
  exact h
 | succ n ih =>
  intro i gs hn hi h
  have hlt : i < ks.length := by omega
  rw [ks_drop hlt]
  exact ih (i + 1) _ (by omega) (by omega) h.step
theorem gInv (ks : List ByteArray) : PInv ks ks.length (gAll ks 0 []) := by
 have := gAll_inv ks _ 0 [] rfl (Nat.zero_le _) ⟨fun i j hi => by simp at hi, fun i hi => by simp at hi, fun m hm => by simp at hm, fun i hi => by simp at hi, fun i hi => by simp at hi⟩
 rw [List.drop_zero] at this
 exact this
/-- The group of a key's place. -/
def kf (ks : List ByteArray) (gs : List S35) (m : Nat) : Nat := kfind (gs.map (·.f0)) (rdOf ByteArray.empty ks (m : Int))
section
variable {ks : List ByteArray} {gs : List S35} (h : PInv ks ks.length gs)
include h
theorem kf_lt {m : Nat} (hm : m < ks.length) : kf ks gs m < gs.length ∧ (rd_T35 gs (kf ks gs m : Int)).f0 = rdOf ByteArray.empty ks (m : Int) := by
 obtain ⟨i, hi, hx⟩ := h.all m hm
 obtain ⟨m', e1, _, e3⟩ := h.mem i hi _ hx
 obtain rfl : m = m' := by omega
 have hlt : kf ks gs m < gs.length := by
  rcases Nat.lt_or_ge (kf ks gs m) gs.length with h' | h'
  ·exact h'
  ·exact absurd e3.symm ((kfind_at hi).2 (by unfold kf at h'; omega))
 exact ⟨hlt, (kfind_at hlt).1 rfl⟩
theorem kf_mem {m i : Nat} (hi : i < gs.length) (hx : (m : Int) ∈ (rd_T35 gs (i : Int)).f1) : m < ks.length ∧ kf ks gs m = i := by
 obtain ⟨m', e1, e2, e3⟩ := h.mem i hi _ hx
 obtain rfl : m = m' := by omega
 obtain ⟨h1, h2⟩ := kf_lt h e2
 exact ⟨e2, h.one _ _ h1 hi (by rw [h2, e3])⟩
theorem mem_kf {m : Nat} (hm : m < ks.length) : (m : Int) ∈ (rd_T35 gs (kf ks gs m : Int)).f1 := by
 obtain ⟨i, hi, hx⟩ := h.all m hm
 have := (kf_mem h hi hx).2
 rw [this]; exact hx
theorem kf_eq {i k : Nat} (hi : i < ks.length) (hk : k < ks.length) : (rdOf ByteArray.empty ks (i : Int) = rdOf ByteArray.empty ks (k : Int)) ↔ kf ks gs i = kf ks gs k := by
 constructor
 ·intro e; unfold kf; rw [e]
 ·intro e
  rw [← (kf_lt h hi).2, ← (kf_lt h hk).2, e]
end
/-- What 'where' holds so far. -/
def WOk (ks : List ByteArray) (gs : List S35) (i j : Nat) (wh : List Int) : Prop :=
 wh.length = ks.length ∧ ∀ m : Nat, m < ks.length → rd wh (m : Int) = if kf ks gs m < i ∨ (kf ks gs m = i ∧ (m : Int) ∈ (rd_T35 gs (i : Int)).f1.take j) then (kf ks gs m : Int) + 1 else 0
theorem rd_set {l : List Int} {m : Nat} (hm : m < l.length) (v : Int) (x : Nat) : rd (l.set m v) (x : Int) = if x = m then v else rd l (x : Int) := by
 unfold rd
 rw [Int.toNat_natCast, List.getD_eq_getElem?_getD, List.getD_eq_getElem?_getD, List.getElem?_set]
 by_cases h : x = m
 ·subst h; simp [hm]
 ·rw [if_neg (fun e => h e.symm), if_neg h]
theorem rd_at {l : List Int} {j : Nat} (hj : j < l.length) : rd l (j : Int) = l[j] := by simp [rd, hj]
theorem part_l1 (ks : List ByteArray) (sz : List Int) (gs : List S35) (h : PInv ks ks.length gs) (hf : Few 1000 gs) (hk : ks.length ≤ 300) (i : Nat) (hi : i < gs.length) (R : Bool)
  (next : ∀ wh, WOk ks gs (i + 1) 0 wh → Ev (fun k => cupellaw35_GroupsPart.l0 k ks sz gs wh ((i + 1 : Nat) : Int)) R) :
  ∀ (n j : Nat) (wh : List Int), (rd_T35 gs (i : Int)).f1.length - j = n → j ≤ (rd_T35 gs (i : Int)).f1.length → WOk ks gs i j wh → Ev (fun k => cupellaw35_GroupsPart.l1 k ks sz gs wh (i : Int) (j : Int)) R := by
 have hfl := hf.1
 have hml := rdT_few hf.2 i
 have hwi : wrap64 ((i : Int) + 1) = ((i + 1 : Nat) : Int) := by rw [w64 (by omega) (by omega)]; rfl
 intro n
 induction n with
 | zero =>
  intro j wh hn hj hw
  obtain rfl : j = (rd_T35 gs (i : Int)).f1.length := by omega
  have hw2 : WOk ks gs (i + 1) 0 wh := by
   refine ⟨hw.1, fun m hm => ?_⟩
   rw [hw.2 m hm, List.take_of_length_le (Nat.le_refl _)]
   have : (kf ks gs m < i ∨ kf ks gs m = i ∧ (m : Int) ∈ (rd_T35 gs (i : Int)).f1) ↔ (kf ks gs m < i + 1 ∨ kf ks gs m = i + 1 ∧ (m : Int) ∈ (rd_T35 gs ((i + 1 : Nat) : Int)).f1.take 0) := by
    constructor
    ·rintro (h1 | ⟨h1, _⟩) <;> exact .inl (by omega)
    ·rintro (h1 | ⟨_, h1⟩)
     ·by_cases h2 : kf ks gs m < i
      ·exact .inl h2
      ·have e : kf ks gs m = i := by omega
       have := mem_kf h hm
       rw [e] at this
       exact .inr ⟨e, this⟩
     ·simp at h1
   simp only [this]
  refine ev_step (fun k => ?_) (next wh hw2)
  simp only [cupellaw35_GroupsPart.l1]
  rw [if_pos (by omega), if_pos (by omega), if_neg (by omega), hwi]
 | succ n ih =>
  intro j wh hn hj hw
  have hlt : j < (rd_T35 gs (i : Int)).f1.length := by omega
  have hwj : wrap64 ((j : Int) + 1) = ((j + 1 : Nat) : Int) := by rw [w64 (by omega) (by omega)]; rfl
  have hmem : rd (rd_T35 gs (i : Int)).f1 (j : Int) ∈ (rd_T35 gs (i : Int)).f1 := by rw [rd_at hlt]; exact List.getElem_mem _
  obtain ⟨m, em, hm, ek⟩ := h.mem i hi _ hmem
  rw [em] at hmem
  have hkf := (kf_mem h hi hmem).2
  have hnt : (m : Int) ∉ (rd_T35 gs (i : Int)).f1.take j := by
   intro hx
   obtain ⟨q, hq, e⟩ := List.mem_take_iff_getElem.1 hx
   have h1 : (rd_T35 gs (i : Int)).f1[q] = (rd_T35 gs (i : Int)).f1[j] := by rw [e, ← em, rd_at hlt]
   have := (List.getElem_inj (h.nod i hi)).1 h1
   omega
  have hz : rd wh (m : Int) = 0 := by
   rw [hw.2 m hm, if_neg]
   rintro (h1 | ⟨_, h1⟩)
   ·omega
   ·exact hnt h1
  have hwl := hw.1
  refine ev_step (g := fun k => cupellaw35_GroupsPart.l1 k ks sz gs (wh.set m ((i + 1 : Nat) : Int)) (i : Int) ((j + 1 : Nat) : Int)) (fun k => ?_) (ih (j + 1) _ (by omega) (by omega) ⟨by rw [List.length_set]; exact hwl, fun x hx => ?_⟩)
  ·simp only [cupellaw35_GroupsPart.l1]
   rw [if_pos (by omega), if_pos (by omega), if_pos (by omega), if_pos (by omega), em, if_neg (by omega), if_neg (by omega), if_pos (by omega), if_pos (by omega), if_pos hz, if_pos (by omega), if_pos (by rw [ek]), hwi, hwj, Int.toNat_natCast]
  ·rw [rd_set (by omega), hw.2 x hx]
   have ht : (x : Int) ∈ (rd_T35 gs (i : Int)).f1.take (j + 1) ↔ ((x : Int) ∈ (rd_T35 gs (i : Int)).f1.take j ∨ x = m) := by
    rw [List.take_succ_eq_append_getElem hlt, List.mem_append, List.mem_singleton, ← rd_at hlt, em]
    constructor
    ·rintro (h1 | h1)
     ·exact .inl h1
     ·exact .inr (by omega)
    ·rintro (h1 | h1)
     ·exact .inl h1
     ·exact .inr (by omega)
   by_cases hxm : x = m
   ·subst hxm
    rw [if_pos rfl, if_pos (.inr ⟨hkf, ht.2 (.inr rfl)⟩), hkf]
    rfl
   ·rw [if_neg hxm]
    have : (kf ks gs x < i ∨ kf ks gs x = i ∧ (x : Int) ∈ (rd_T35 gs (i : Int)).f1.take j) ↔ (kf ks gs x < i ∨ kf ks gs x = i ∧ (x : Int) ∈ (rd_T35 gs (i : Int)).f1.take (j + 1)) := by
     rw [ht]
     constructor
     ·rintro (h1 | ⟨h1, h2⟩)
      ·exact .inl h1
      ·exact .inr ⟨h1, .inl h2⟩
     ·rintro (h1 | ⟨h1, h2 | h2⟩)
      ·exact .inl h1
      ·exact .inr ⟨h1, h2⟩
      ·exact absurd h2 hxm
    simp only [this]
/-- 'where', once all is done. -/
def WAll (ks : List ByteArray) (gs : List S35) (wh : List Int) : Prop := wh.length = ks.length ∧ ∀ m : Nat, m < ks.length → rd wh (m : Int) = (kf ks gs m : Int) + 1
theorem part_l0 (ks : List ByteArray) (sz : List Int) (gs : List S35) (h : PInv ks ks.length gs) (hf : Few 1000 gs) (hk : ks.length ≤ 300) (R : Bool)
  (next : ∀ wh, WAll ks gs wh → Ev (fun k => cupellaw35_GroupsPart.l2 k ks sz gs wh ((0 : Nat) : Int)) R) :
  ∀ (n i : Nat) (wh : List Int), gs.length - i = n → i ≤ gs.length → WOk ks gs i 0 wh → Ev (fun k => cupellaw35_GroupsPart.l0 k ks sz gs wh (i : Int)) R := by
 intro n
 induction n with
 | zero =>
  intro i wh hn hi hw
  obtain rfl : i = gs.length := by omega
  refine ev_step (fun k => ?_) (next wh ⟨hw.1, fun m hm => ?_⟩)
  ·simp only [cupellaw35_GroupsPart.l0]
   rw [if_neg (by omega)]
   rfl
  ·rw [hw.2 m hm, if_pos (.inl (kf_lt h hm).1)]
 | succ n ih =>
  intro i wh hn hi hw
  have hlt : i < gs.length := by omega
  refine ev_step (fun k => ?_) (part_l1 ks sz gs h hf hk i hlt R (fun wh hw => ih (i + 1) wh (by omega) (by omega) hw) _ 0 wh rfl (Nat.zero_le _) hw)
  simp only [cupellaw35_GroupsPart.l0]
  rw [if_pos (by omega)]
  rfl
theorem part_l3 (ks : List ByteArray) (sz : List Int) (gs : List S35) (h : PInv ks ks.length gs) (hk : ks.length ≤ 300) (wh : List Int) (hw : WAll ks gs wh) (R : Bool) (i : Nat) (hi : i < ks.length)
  (next : Ev (fun k => cupellaw35_GroupsPart.l2 k ks sz gs wh ((i + 1 : Nat) : Int)) R) :
  ∀ (n j : Nat), i - j = n → j ≤ i → Ev (fun k => cupellaw35_GroupsPart.l3 k ks sz gs wh (i : Int) (j : Int)) R := by
 have hwl := hw.1
 have hwi : wrap64 ((i : Int) + 1) = ((i + 1 : Nat) : Int) := by rw [w64 (by omega) (by omega)]; rfl
 intro n
 induction n with
 | zero =>
  intro j hn hj
  obtain rfl : j = i := by omega
  refine ev_step (fun k => ?_) next
  simp only [cupellaw35_GroupsPart.l3]
  rw [if_neg (by omega), hwi]
 | succ n ih =>
  intro j hn hj
  have hwj : wrap64 ((j : Int) + 1) = ((j + 1 : Nat) : Int) := by rw [w64 (by omega) (by omega)]; rfl
  refine ev_step (fun k => ?_) (ih (j + 1) (by omega) (by omega))
  simp only [cupellaw35_GroupsPart.l3]
  have hb : (((rdOf ByteArray.empty ks (i : Int)).toList == (rdOf ByteArray.empty ks (j : Int)).toList) != (rd wh (i : Int) == rd wh (j : Int))) = false := by
   rw [hw.2 i hi, hw.2 j (by omega)]
   by_cases e : kf ks gs i = kf ks gs j
   ·rw [beq_iff_eq.2 (toList_inj.2 ((kf_eq h hi (by omega)).2 e)), e, beq_self_eq_true]; rfl
   ·rw [beq_eq_false_iff_ne.2 (fun e' => e ((kf_eq h hi (by omega)).1 (toList_inj.1 e'))), beq_eq_false_iff_ne.2 (by omega)]; rfl
  rw [if_pos (by omega), if_pos (by omega), if_pos (by omega), if_pos (by omega), if_pos (by omega), if_pos (by omega), if_pos (by omega), hb, if_neg (by decide), hwj]
/-! ### Who stands for a group -/
theorem bestR_some (sz : List Int) : ∀ (m : List Int) (b : Int), (∀ x ∈ m, 0 ≤ x ∧ x < sz.length) → (m ≠ [] ∨ 0 ≤ b) →
  ∃ r, bestR sz m b = some r ∧ 0 ≤ r ∧ (r ∈ m ∨ r = b) ∧ (∀ x ∈ m, rd sz r ≤ rd sz x) ∧ (0 ≤ b → rd sz r ≤ rd sz b) := by
 intro m
 induction m with
 | nil =>
  intro b _ hb
  have hb : 0 ≤ b := hb.resolve_left (by simp)
  exact ⟨b, by simp only [bestR]; rw [if_neg (by omega)], hb, .inr rfl, by simp, fun _ => Int.le_refl _⟩
 | cons x m ih =>
  intro b hx hb
  obtain ⟨x0, x1⟩ := hx x (List.mem_cons_self ..)
  have hx' : ∀ y ∈ m, 0 ≤ y ∧ y < sz.length := fun y hy => hx y (List.mem_cons_of_mem _ hy)
  unfold bestR
  rw [if_neg (by omega)]
  by_cases c : b < 0 ∨ rd sz x < rd sz b
  ·rw [if_pos c]
   obtain ⟨r, e, r0, r1, r2, r3⟩ := ih x hx' (.inr x0)
   refine ⟨r, e, r0, ?_, ?_, ?_⟩
   ·rcases r1 with r1 | r1
    ·exact .inl (List.mem_cons_of_mem _ r1)
    ·exact .inl (by rw [r1]; exact List.mem_cons_self ..)
   ·intro y hy
    rcases List.mem_cons.1 hy with rfl | hy
    ·exact r3 x0
    ·exact r2 y hy
   ·intro hb0
    have := r3 x0
    rcases c with c | c <;> omega
  ·rw [if_neg c]
   have hb0 : 0 ≤ b := by
    rcases Int.lt_or_le b 0 with h1 | h1
    ·exact absurd (Or.inl h1) c
    ·exact h1
   have hge : rd sz b ≤ rd sz x := by
    rcases Int.lt_or_le (rd sz x) (rd sz b) with h1 | h1
    ·exact absurd (Or.inr h1) c
    ·exact h1
   obtain ⟨r, e, r0, r1, r2, r3⟩ := ih b hx' (.inr hb0)
   refine ⟨r, e, r0, ?_, ?_, r3⟩
   ·rcases r1 with r1 | r1
    ·exact .inl (List.mem_cons_of_mem _ r1)
    ·exact .inr r1
   ·intro y hy
    rcases List.mem_cons.1 hy with rfl | hy
    ·have := r3 hb0; omega
    ·exact r2 y hy
/-- Who stands for a group. -/
def stand (sz : List Int) (g : S35) : Int := (bestR sz g.f1 (-1)).getD 0
theorem repAll_all (sz : List Int) : ∀ (gs : List S35) (acc : List Int), (∀ g ∈ gs, bestR sz g.f1 (-1) = some (stand sz g)) → repAll sz gs acc = (acc ++ gs.map (stand sz), 0) := by
 intro gs
 induction gs with
 | nil => intro acc _; simp [repAll]
 | cons g gs ih =>
  intro acc hg
  unfold repAll
  rw [hg g (List.mem_cons_self ..)]
  simp only
  rw [ih _ (fun g' h' => hg g' (List.mem_cons_of_mem _ h'))]
  simp
theorem mem_rdT {gs : List S35} {g : S35} (hg : g ∈ gs) : ∃ i : Nat, i < gs.length ∧ g = rd_T35 gs (i : Int) := by
 obtain ⟨i, hi, e⟩ := List.getElem_of_mem hg
 refine ⟨i, hi, ?_⟩
 unfold rd_T35
 rw [Int.toNat_natCast, List.getD_eq_getElem?_getD, List.getElem?_eq_getElem hi, ← e]
 rfl
theorem stand_ok (ks : List ByteArray) (sz : List Int) (gs : List S35) (h : PInv ks ks.length gs) (hsz : ks.length ≤ sz.length) (i : Nat) (hi : i < gs.length) :
  bestR sz (rd_T35 gs (i : Int)).f1 (-1) = some (stand sz (rd_T35 gs (i : Int))) ∧ stand sz (rd_T35 gs (i : Int)) ∈ (rd_T35 gs (i : Int)).f1 ∧ ∀ x ∈ (rd_T35 gs (i : Int)).f1, rd sz (stand sz (rd_T35 gs (i : Int))) ≤ rd sz x := by
 obtain ⟨r, e, r0, r1, r2, _⟩ := bestR_some sz (rd_T35 gs (i : Int)).f1 (-1) (fun x hx => by
  obtain ⟨m, h1, h2, _⟩ := h.mem i hi x hx
  omega) (.inl (h.ne i hi))
 have es : stand sz (rd_T35 gs (i : Int)) = r := by unfold stand; rw [e]; rfl
 rw [es]
 exact ⟨e, r1.resolve_right (by omega), r2⟩
theorem part_l4 (ks : List ByteArray) (sz : List Int) (gs : List S35) (h : PInv ks ks.length gs) (hf : Few 1000 gs) (hk : ks.length ≤ 300) (wh : List Int) (hw : WAll ks gs wh) (hsz : ks.length ≤ sz.length) :
  ∀ (n i : Nat), ks.length - i = n → i ≤ ks.length → Ev (fun k => cupellaw35_GroupsPart.l4 k ks sz wh (gs.map (stand sz)) (i : Int)) true := by
 have hwl := hw.1
 have hfl := hf.1
 intro n
 induction n with
 | zero =>
  intro i hn hi
  obtain rfl : i = ks.length := by omega
  refine ev_step (g := fun _ => some true) (fun k => ?_) (ev_const _)
  simp only [cupellaw35_GroupsPart.l4]
  rw [if_neg (by omega)]
 | succ n ih =>
  intro i hn hi
  have hlt : i < ks.length := by omega
  have hwi : wrap64 ((i : Int) + 1) = ((i + 1 : Nat) : Int) := by rw [w64 (by omega) (by omega)]; rfl
  obtain ⟨c, hc⟩ : ∃ c, c = kf ks gs i := ⟨_, rfl⟩
  have hcl : c < gs.length := by rw [hc]; exact (kf_lt h hlt).1
  have ew : rd wh (i : Int) = (c : Int) + 1 := by rw [hw.2 i hlt, hc]
  have e1 : wrap64 ((c : Int) + 1 - 1) = (c : Int) := by rw [show (c : Int) + 1 - 1 = c by omega]; exact wrap64_small _ (by omega) (by omega)
  obtain ⟨s1, s2, s3⟩ := stand_ok ks sz gs h hsz c hcl
  have er : rd (gs.map (stand sz)) (c : Int) = stand sz (rd_T35 gs (c : Int)) := by
   unfold rd rd_T35
   rw [Int.toNat_natCast, List.getD_eq_getElem?_getD, List.getD_eq_getElem?_getD, List.getElem?_map, List.getElem?_eq_getElem hcl]
   rfl
  obtain ⟨m, em, hm, _⟩ := h.mem c hcl _ s2
  have hkm : kf ks gs m = c := (kf_mem h hcl (by rw [← em]; exact s2)).2
  have hmi : rd sz (m : Int) ≤ rd sz (i : Int) := by rw [← em]; exact s3 _ (by rw [hc]; exact mem_kf h hlt)
  have ewm : rd wh (m : Int) = (c : Int) + 1 := by rw [hw.2 m hm, hkm]
  have hml : ((gs.map (stand sz)).length : Int) = gs.length := by simp
  refine ev_step (fun k => ?_) (ih (i + 1) (by omega) (by omega))
  simp only [cupellaw35_GroupsPart.l4]
  rw [ew, e1, er, em, ewm, if_pos (by omega), if_pos (by omega), if_pos (by omega), if_pos (by omega), if_pos (by omega), if_neg (by omega), if_neg (by omega), if_pos (by omega), if_pos (by omega), if_pos rfl, if_pos (by omega), if_pos (by omega), if_neg (by omega), hwi]
theorem part_l2 (ks : List ByteArray) (sz : List Int) (gs : List S35) (h : PInv ks ks.length gs) (hf : Few 1000 gs) (hk : ks.length ≤ 300) (wh : List Int) (hw : WAll ks gs wh) :
  ∀ (n i : Nat), ks.length - i = n → i ≤ ks.length → Ev (fun k => cupellaw35_GroupsPart.l2 k ks sz gs wh (i : Int)) true := by
 have hwl := hw.1
 have hfl := hf.1
 intro n
 induction n with
 | zero =>
  intro i hn hi
  obtain rfl : i = ks.length := by omega
  by_cases hs : sz.length < ks.length
  ·refine ev_step (g := fun _ => some true) (fun k => ?_) (ev_const _)
   simp only [cupellaw35_GroupsPart.l2]
   rw [if_neg (by omega), if_pos (by omega)]
  ·have hsz : ks.length ≤ sz.length := by omega
   have er : repAll sz gs [] = (gs.map (stand sz), 0) := by
    rw [repAll_all sz gs [] (fun g hg => by
     obtain ⟨i, hi, rfl⟩ := mem_rdT hg
     exact (stand_ok ks sz gs h hsz i hi).1)]
    rfl
   have hp := prog_ev gs sz (by omega)
   rw [er] at hp
   refine ev_step (g := fun k => (groups_Represent.f k gs sz).bind fun b => if b.2 = 0 then (cupellaw35_GroupsPart.j4 k ks sz wh b.1 ((b.1.length : Int) != (gs.length : Int))) else (cupellaw35_GroupsPart.j4 k ks sz wh b.1 true)) (fun k => ?_) (ev_bind hp ?_)
   ·simp only [cupellaw35_GroupsPart.l2]
    rw [if_neg (by omega), if_neg (by omega)]
   ·simp only [if_true]
    rw [show ((((gs.map (stand sz)).length : Nat) : Int) != (gs.length : Int)) = false by simp]
    refine ev_step (fun k => ?_) (part_l4 ks sz gs h hf hk wh hw hsz _ 0 rfl (Nat.zero_le _))
    simp only [cupellaw35_GroupsPart.j4]
    rw [if_neg (by decide)]
    rfl
 | succ n ih =>
  intro i hn hi
  have hlt : i < ks.length := by omega
  refine ev_step (fun k => ?_) (part_l3 ks sz gs h hk wh hw true i hlt (ih (i + 1) (by omega) (by omega)) _ 0 rfl (Nat.zero_le _))
  simp only [cupellaw35_GroupsPart.l2]
  have := hw.2 i hlt
  rw [if_pos (by omega), if_pos (by omega), if_pos (by omega), if_neg (by omega)]
  rfl
theorem part_law_ev (ks : List ByteArray) (sz : List Int) (hw : ∀ s ∈ ks, s.size ≤ maxLen) : Ev (fun k => cupellaw35_GroupsPart.f k ks sz) true := by
 unfold cupellaw35_GroupsPart.f
 refine ev_bind shown_ev ?_
 simp only [if_true]
 by_cases hk : (ks.length : Int) > 300
 ·simp only [if_pos hk]; exact ev_const _
 ·simp only [if_neg hk]
  refine ev_bind (gGroups_ev ks hw) ?_
  have e : gRes ks = (gAll ks 0 [], 0) := by unfold gRes; rw [if_neg (by omega)]
  rw [e]
  have hf : Few 1000 (gAll ks 0 []) := by have := gRes_few ks; rw [e] at this; exact this
  simp only [if_true, if_pos (show 0 ≤ (ks.length : Int) by omega), if_pos (show ((ks.length : Int) : Int).toNat ≤ 35184372088832 by omega)]
  rw [Int.toNat_natCast]
  refine part_l0 ks sz _ (gInv ks) hf (by omega) true (fun wh hw => part_l2 ks sz _ (gInv ks) hf (by omega) wh hw _ 0 rfl (Nat.zero_le _)) _ 0 _ rfl (Nat.zero_le _) ⟨List.length_replicate .., fun m hm => ?_⟩
  rw [if_neg (fun h => h.elim (fun h1 => absurd h1 (Nat.not_lt_zero _)) (fun h1 => by have h2 := h1.2; simp at h2))]
  simp [rd, hm]
end Go.Proofs.YtndennmpnomjnaaDoor.A

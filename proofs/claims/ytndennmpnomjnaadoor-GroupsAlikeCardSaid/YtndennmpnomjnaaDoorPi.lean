/- GroupsAlike in plain words: neither other numbers nor one more way with the same bare name make another key; the law's function answers true. -/
import Derived.Test.YtndennmpnomjnaaDoorPg
import Derived.Test.YtndennmpnomjnaaDoorBx5
set_option linter.all false
set_option linter.unusedVariables false
namespace Go.Proofs.YtndennmpnomjnaaDoor.A
open Go.RowKit Go.Lib Go.Proofs.YtndennmpnomjnaaDoorW.PrintWords Go.Proofs.YtndennmpnomjnaaDoorW.PrintMore
/-! ### Other numbers -/
def addO (add : Int) (o : S45) : S45 := ⟨o.f0, ⟨o.f1.f0.map (fun v => wrap64 (v + add)), o.f1.f1, o.f1.f2⟩⟩
def In64 (l : List Int) : Prop := ∀ v ∈ l, -9223372036854775808 ≤ v ∧ v ≤ 9223372036854775807
theorem add_inj {a b add : Int} (ha : -9223372036854775808 ≤ a ∧ a ≤ 9223372036854775807) (hb : -9223372036854775808 ≤ b ∧ b ≤ 9223372036854775807) : (wrap64 (a + add) = wrap64 (b + add)) ↔ a = b := by
 constructor
 ·intro h
  unfold wrap64 at h
  omega
 ·rintro rfl; rfl
theorem pre_map (add : Int) : ∀ (a b : List Int), In64 a → In64 b → pre (a.map (fun v => wrap64 (v + add))) (b.map (fun v => wrap64 (v + add))) = pre a b := by
 intro a
 induction a with
 | nil => intro b _ _; simp [pre]
 | cons x a ih =>
  intro b ha hb
  cases b with
  | nil => simp [pre]
  | cons y b =>
   simp only [List.map_cons, pre]
   rw [ih b (fun v hv => ha v (List.mem_cons_of_mem _ hv)) (fun v hv => hb v (List.mem_cons_of_mem _ hv))]
   simp only [add_inj (ha x (List.mem_cons_self ..)) (hb y (List.mem_cons_self ..))]
theorem kindG_map (add e e' : Int) : ∀ (a b : List Int) (i : Int), In64 a → In64 b → kindG e e' (a.map (fun v => wrap64 (v + add))) (b.map (fun v => wrap64 (v + add))) i = kindG e e' a b i := by
 intro a
 induction a with
 | nil =>
  intro b i _ _
  cases b with
  | nil => rfl
  | cons y b => rfl
 | cons x a ih =>
  intro b i ha hb
  cases b with
  | nil => rfl
  | cons y b =>
   simp only [List.map_cons, kindG]
   rw [ih b _ (fun v hv => ha v (List.mem_cons_of_mem _ hv)) (fun v hv => hb v (List.mem_cons_of_mem _ hv))]
   simp only [add_inj (ha x (List.mem_cons_self ..)) (hb y (List.mem_cons_self ..))]
theorem agB_map (add e c e' c' : Int) (a b : List Int) (ha : In64 a) (hb : In64 b) : agB (a.map (fun v => wrap64 (v + add))) e c (b.map (fun v => wrap64 (v + add))) e' c' = agB a e c b e' c' := by
 unfold agB
 rw [pre_map add a b ha hb, pre_map add b a hb ha, List.length_map, List.length_map]
/-- The difference of two behaviours. -/
def admG (a b : S43) (i k : Nat) : List S57 :=
 if a.f1 = 3 then [] else if b.f1 = 3 then [] else if agB a.f0 a.f1 a.f2 b.f0 b.f1 b.f2 = true then []
 else [⟨i, k, (kindG a.f1 b.f1 a.f0 b.f0 0).1, (kindG a.f1 b.f1 a.f0 b.f0 0).2⟩]
theorem admK_G (l : List S45) (i k : Nat) : admK l i k = admG (rd_T45 l (i : Int)).f1 (rd_T45 l (k : Int)).f1 i k := rfl
theorem rdT45_map (l : List S45) (add : Int) (i : Int) : rd_T45 (l.map (addO add)) i = addO add (rd_T45 l i) := by
 unfold rd_T45
 rw [List.getD_eq_getElem?_getD, List.getD_eq_getElem?_getD, List.getElem?_map]
 cases l[i.toNat]? with
 | none => rfl
 | some o => rfl
theorem admK_map (l : List S45) (add : Int) (hl : ∀ j, In64 (rd_T45 l j).f1.f0) (i k : Nat) : admK (l.map (addO add)) i k = admK l i k := by
 rw [admK_G, admK_G, rdT45_map, rdT45_map]
 unfold admG addO
 simp only [agB_map add _ _ _ _ _ _ (hl _) (hl _), kindG_map add _ _ _ _ _ (hl _) (hl _)]
theorem refAll_map (l : List S45) (add : Int) (hl : ∀ j, In64 (rd_T45 l j).f1.f0) : refAll (l.map (addO add)) 0 = refAll l 0 := by
 unfold refAll refRow
 simp only [List.length_map, admK_map l add hl]
theorem partX_map (l : List S45) (add : Int) (x : S57) : partX (l.map (addO add)) x = partX l x := by
 unfold partX
 rw [rdT45_map, rdT45_map]
 rfl
theorem keyList_map (l : List S45) (add pass : Int) (ds : List S57) : keyList (l.map (addO add)) pass ds = keyList l pass ds := by
 have : keyStep (l.map (addO add)) = keyStep l := by
  funext ks x
  unfold keyStep
  rw [partX_map]
 unfold keyList
 rw [this]
theorem oddAny_cons (x : S45) (l : List S45) : oddAny (x :: l) = (oddW x.f0 || oddAny l) := rfl
theorem oddAny_map (add : Int) : ∀ (l : List S45), oddAny (l.map (addO add)) = oddAny l := by
 intro l
 induction l with
 | nil => rfl
 | cons x l ih => rw [List.map_cons, oddAny_cons, oddAny_cons, ih]; rfl
theorem kRes_map (l : List S45) (add pass : Int) (hl : ∀ j, In64 (rd_T45 l j).f1.f0) : kRes (l.map (addO add)) pass = kRes l pass := by
 unfold kRes
 rw [List.length_map, oddAny_map, refAll_map l add hl, keyList_map]
/-! ### One more way -/
theorem g1_app (r : List UInt8) : ∀ l : List UInt8, g1 (g1 l ++ 32 :: r) = g1 l := by
 intro l
 induction l with
 | nil => simp [g1]
 | cons c l ih =>
  by_cases hc : c = 32
  ·subst hc; simp [g1]
  ·have e : g1 (c :: l) = c :: g1 l := by simp only [g1]; rw [if_neg hc]
   rw [e, List.cons_append]
   simp only [g1]
   rw [if_neg hc, ih]
theorem g0_app (r : List UInt8) : ∀ l : List UInt8, g0 l ≠ l → g0 (g0 l ++ 32 :: r) = g0 l := by
 intro l
 induction l with
 | nil => intro h; exact absurd rfl h
 | cons c l ih =>
  intro h
  by_cases hc : c = 32
  ·have e : g0 (c :: l) = c :: g1 l := by simp only [g0]; rw [if_pos hc]
   rw [e, List.cons_append]
   simp only [g0]
   rw [if_pos hc, g1_app]
  ·have e : g0 (c :: l) = c :: g0 l := by simp only [g0]; rw [if_neg hc]
   rw [e] at h ⊢
   rw [List.cons_append]
   have h' : g0 l ≠ l := fun e' => h (by rw [e'])
   have : g0 (c :: (g0 l ++ 32 :: r)) = c :: g0 (g0 l ++ 32 :: r) := by simp only [g0]; rw [if_neg hc]
   rw [this, ih h']
theorem g1_len : ∀ l : List UInt8, (g1 l).length ≤ l.length := by
 intro l
 induction l with
 | nil => simp [g1]
 | cons c l ih =>
  unfold g1
  split
  ·simp
  ·simp; exact ih
theorem g0_len : ∀ l : List UInt8, (g0 l).length ≤ l.length := by
 intro l
 induction l with
 | nil => simp [g0]
 | cons c l ih =>
  unfold g0
  split
  ·simp; exact g1_len l
  ·simp; exact ih
theorem way_g1 : ∀ (l : List UInt8) (b : Bool), wayL b l = true → wayL b (g1 l ++ [32, 57, 57]) = true ∨ b = true := by
 intro l
 induction l with
 | nil =>
  intro b h
  cases b with
  | true => exact .inr rfl
  | false => exact .inl (by decide)
 | cons c l ih =>
  intro b h
  cases b with
  | true => exact .inr rfl
  | false =>
   refine .inl ?_
   by_cases hc : c = 32
   ·have e : g1 (c :: l) = [] := by simp only [g1]; rw [if_pos hc]
    rw [e]; decide
   ·have e : g1 (c :: l) = c :: g1 l := by simp only [g1]; rw [if_neg hc]
    rw [e, List.cons_append]
    unfold wayL at h ⊢
    rw [if_neg hc] at h ⊢
    exact (ih false h).resolve_right (by decide)
theorem way_g1t : ∀ (l : List UInt8), wayL true l = true → wayL true (g1 l ++ [32, 57, 57]) = true := by
 intro l h
 cases l with
 | nil => simp [wayL] at h
 | cons c l =>
  by_cases hc : c = 32
  ·unfold wayL at h
   rw [if_pos hc, if_pos rfl] at h
   cases h
  ·have e : g1 (c :: l) = c :: g1 l := by simp only [g1]; rw [if_neg hc]
   rw [e, List.cons_append]
   unfold wayL at h ⊢
   rw [if_neg hc] at h ⊢
   exact (way_g1 l false h).resolve_right (by decide)
theorem way_g0 : ∀ (l : List UInt8) (b : Bool), wayL b l = true → wayL b (g0 l ++ [32, 57, 57]) = true := by
 intro l
 induction l with
 | nil =>
  intro b h
  cases b with
  | true => simp [wayL] at h
  | false => decide
 | cons c l ih =>
  intro b h
  by_cases hc : c = 32
  ·have e : g0 (c :: l) = c :: g1 l := by simp only [g0]; rw [if_pos hc]
   rw [e, List.cons_append]
   unfold wayL at h ⊢
   rw [if_pos hc] at h ⊢
   cases b with
   | true => rw [if_pos rfl] at h; cases h
   | false =>
    rw [if_neg (by decide)] at h ⊢
    exact way_g1t l h
  ·have e : g0 (c :: l) = c :: g0 l := by simp only [g0]; rw [if_neg hc]
   rw [e, List.cons_append]
   unfold wayL at h ⊢
   rw [if_neg hc] at h ⊢
   exact ih false h
def b99 : ByteArray := ⟨#[32, 57, 57]⟩
theorem b99_list (s : ByteArray) : (bareB s ++ b99).data.toList = g0 s.data.toList ++ [32, 57, 57] := by
 rw [bareB_eq, ByteArray.data_append]
 simp [b99]
theorem bare_99 (s : ByteArray) (h : s ≠ bareB s) : bareB (bareB s ++ b99) = bareB s := by
 rw [bareB_eq (bareB s ++ b99), b99_list, bareB_eq s]
 have hne : g0 s.data.toList ≠ s.data.toList := by
  intro e
  apply h
  rw [bareB_eq, e]
 rw [g0_app [57, 57] _ hne]
theorem odd_99 (s : ByteArray) (h : oddW s = false) : oddW (bareB s ++ b99) = false := by
 have h1 := oddW_eq s
 have h2 := oddW_eq (bareB s ++ b99)
 rw [h] at h1
 rw [b99_list, way_g0 _ true h1] at h2
 cases ho : oddW (bareB s ++ b99) with
 | false => rfl
 | true => rw [ho] at h2; cases h2
theorem bare_len (s : ByteArray) : (bareB s).size ≤ s.size := by
 rw [bareB_eq]
 exact g0_len s.data.toList
theorem foldl_same {α β : Type} {f g : α → β → α} : ∀ (l : List β) (a : α), (∀ x ∈ l, ∀ a, f a x = g a x) → l.foldl f a = l.foldl g a := by
 intro l
 induction l with
 | nil => intro a _; rfl
 | cons x l ih =>
  intro a h
  rw [List.foldl_cons, List.foldl_cons, h x (List.mem_cons_self ..)]
  exact ih _ (fun y hy => h y (List.mem_cons_of_mem _ hy))
theorem flat_same {f g : Nat → List S57} : ∀ {l : List Nat}, (∀ x ∈ l, f x = g x) → l.flatMap f = l.flatMap g := by
 intro l
 induction l with
 | nil => intro _; rfl
 | cons x l ih =>
  intro h
  rw [List.flatMap_cons, List.flatMap_cons, h x (List.mem_cons_self ..), ih (fun y hy => h y (List.mem_cons_of_mem _ hy))]
theorem keyStep_ne (m : List S45) (ks : List ByteArray) (x : S57) (h : ks ≠ []) : keyStep m ks x ≠ [] := by
 unfold keyStep
 split
 ·exact h
 ·simp
theorem keyStep_keep (m : List S45) (ks : List ByteArray) (x : S57) (t : ByteArray) (h : t ∈ ks.drop 1) : t ∈ (keyStep m ks x).drop 1 := by
 unfold keyStep
 split
 ·exact h
 ·cases ks with
  | nil => simp at h
  | cons a ks => simp at h ⊢; exact .inl h
theorem keyStep_has (m : List S45) (ks : List ByteArray) (x : S57) (h : ks ≠ []) : partX m x ∈ (keyStep m ks x).drop 1 := by
 unfold keyStep
 split
 ·rename_i h1; exact (containsS_iff _ _).1 h1
 ·cases ks with
  | nil => exact absurd rfl h
  | cons a ks => simp
theorem fold_ne (m : List S45) : ∀ (ds : List S57) (ks : List ByteArray), ks ≠ [] → ds.foldl (keyStep m) ks ≠ [] := by
 intro ds
 induction ds with
 | nil => intro ks h; exact h
 | cons d ds ih => intro ks h; exact ih _ (keyStep_ne m ks d h)
theorem fold_keep (m : List S45) (t : ByteArray) : ∀ (ds : List S57) (ks : List ByteArray), t ∈ ks.drop 1 → t ∈ (ds.foldl (keyStep m) ks).drop 1 := by
 intro ds
 induction ds with
 | nil => intro ks h; exact h
 | cons d ds ih => intro ks h; exact ih _ (keyStep_keep m ks d t h)
theorem fold_has (m : List S45) (x : S57) : ∀ (ds : List S57) (ks : List ByteArray), ks ≠ [] → x ∈ ds → partX m x ∈ (ds.foldl (keyStep m) ks).drop 1 := by
 intro ds
 induction ds with
 | nil => intro ks _ h; simp at h
 | cons d ds ih =>
  intro ks h hx
  rcases List.mem_cons.1 hx with rfl | hx
  ·exact fold_keep m _ ds _ (keyStep_has m ks x h)
  ·exact ih _ (keyStep_ne m ks d h) hx
theorem pre_self : ∀ a : List Int, pre a a = true := by
 intro a
 induction a with
 | nil => rfl
 | cons x a ih => simp only [pre, if_true]; exact ih
theorem admG_self (a : S43) (i k : Nat) : admG a a i k = [] := by
 unfold admG agB
 rw [pre_self]
 simp
theorem admG_at (a b : S43) (i k k' : Nat) : (admG a b i k = [] ∧ admG a b i k' = []) ∨ ∃ q1 q2, admG a b i k = [⟨i, k, q1, q2⟩] ∧ admG a b i k' = [⟨i, k', q1, q2⟩] := by
 unfold admG
 by_cases c1 : a.f1 = 3
 ·rw [if_pos c1, if_pos c1]; exact .inl ⟨rfl, rfl⟩
 ·rw [if_neg c1, if_neg c1]
  by_cases c2 : b.f1 = 3
  ·rw [if_pos c2, if_pos c2]; exact .inl ⟨rfl, rfl⟩
  ·rw [if_neg c2, if_neg c2]
   by_cases c3 : agB a.f0 a.f1 a.f2 b.f0 b.f1 b.f2 = true
   ·rw [if_pos c3, if_pos c3]; exact .inl ⟨rfl, rfl⟩
   ·rw [if_neg c3, if_neg c3]; exact .inr ⟨_, _, rfl, rfl⟩
theorem partT_bare (a b b' : ByteArray) (k e1 c1 e2 c2 : Int) (h : bareB b' = bareB b) : partT a b' k e1 c1 e2 c2 = partT a b k e1 c1 e2 c2 := by
 unfold partT headT
 rw [h]
section
variable (m : List S45) (d : S45) (hm : 0 < m.length) (hd : d.f1 = (rd_T45 m ((m.length - 1 : Nat) : Int)).f1) (hb : bareB d.f0 = bareB (rd_T45 m ((m.length - 1 : Nat) : Int)).f0)
theorem rdM {j : Nat} (hj : j < m.length) : rd_T45 (m ++ [d]) (j : Int) = rd_T45 m (j : Int) := by
 unfold rd_T45
 rw [Int.toNat_natCast, List.getD_eq_getElem?_getD, List.getD_eq_getElem?_getD, List.getElem?_append_left hj]
theorem rdMn : rd_T45 (m ++ [d]) (m.length : Int) = d := by
 unfold rd_T45
 rw [Int.toNat_natCast, List.getD_eq_getElem?_getD]
 simp
theorem rowM {i : Nat} (hi : i < m.length) : refRow (m ++ [d]) i (i + 1) = refRow m i (i + 1) ++ admK (m ++ [d]) i m.length := by
 unfold refRow
 have e : List.range' (i + 1) ((m ++ [d]).length - (i + 1)) = List.range' (i + 1) (m.length - (i + 1)) ++ [m.length] := by
  rw [show (m ++ [d]).length - (i + 1) = (m.length - (i + 1)) + 1 by simp; omega, List.range'_concat]
  congr 2
  omega
 rw [e, List.flatMap_append]
 congr 1
 ·refine flat_same (fun k hk => ?_)
  rw [List.mem_range'_1] at hk
  rw [admK_G, admK_G, rdM m d hi, rdM m d (by omega)]
 ·simp
theorem allM : refAll (m ++ [d]) 0 = (List.range m.length).flatMap (fun i => refRow m i (i + 1) ++ admK (m ++ [d]) i m.length) := by
 unfold refAll
 have e : List.range' 0 ((m ++ [d]).length - 0) = List.range m.length ++ [m.length] := by
  rw [show (m ++ [d]).length - 0 = m.length + 1 by simp, ← List.range_eq_range', List.range_succ]
 rw [e, List.flatMap_append]
 have e2 : refRow (m ++ [d]) m.length (m.length + 1) = [] := by
  unfold refRow
  rw [range_end (by simp)]
  rfl
 simp only [List.flatMap_cons, List.flatMap_nil, List.append_nil, e2]
 refine flat_same (fun i hi => ?_)
 rw [List.mem_range] at hi
 exact rowM m d hi
theorem allm : refAll m 0 = (List.range m.length).flatMap (fun i => refRow m i (i + 1)) := by
 unfold refAll
 rw [show m.length - 0 = m.length by omega, ← List.range_eq_range']
include hm hd hb
theorem foldM (ks0 : List ByteArray) (h0 : ks0 ≠ []) : ∀ s, s ≤ m.length → ((List.range s).flatMap (fun i => refRow m i (i + 1) ++ admK (m ++ [d]) i m.length)).foldl (keyStep (m ++ [d])) ks0 = ((List.range s).flatMap (fun i => refRow m i (i + 1))).foldl (keyStep m) ks0 := by
 intro s
 induction s with
 | zero => intro _; simp only [List.range_zero, List.flatMap_nil, List.foldl_nil]
 | succ i ih =>
  intro hs
  have hi : i < m.length := by omega
  rw [List.range_succ, List.flatMap_append, List.flatMap_append, List.foldl_append, List.foldl_append, ih (by omega)]
  obtain ⟨K, hK⟩ : ∃ K, K = ((List.range i).flatMap (fun i => refRow m i (i + 1))).foldl (keyStep m) ks0 := ⟨_, rfl⟩
  have hKn : K ≠ [] := by rw [hK]; exact fold_ne m _ _ h0
  rw [← hK]
  simp only [List.flatMap_cons, List.flatMap_nil, List.append_nil, List.foldl_append]
  have e1 : (refRow m i (i + 1)).foldl (keyStep (m ++ [d])) K = (refRow m i (i + 1)).foldl (keyStep m) K := by
   refine foldl_same _ _ (fun x hx ks => ?_)
   obtain ⟨k, hk, hx⟩ := List.mem_flatMap.1 hx
   rw [List.mem_range'_1] at hk
   obtain ⟨a1, a2, _⟩ := admK_mem hx
   unfold keyStep partX
   rw [a1, a2, rdM m d hi, rdM m d (show k < m.length by omega)]
  rw [e1]
  by_cases hl : i = m.length - 1
  ·have : admK (m ++ [d]) i m.length = [] := by
    rw [admK_G, rdM m d hi, rdMn, hd, hl]
    exact admG_self _ _ _
   simp only [this, List.foldl_nil]
  ·rcases admG_at (rd_T45 m (i : Int)).f1 d.f1 i m.length (m.length - 1) with ⟨c1, _⟩ | ⟨q1, q2, c1, c2⟩
   ·have e0 : admK (m ++ [d]) i m.length = [] := by rw [admK_G, rdM m d hi, rdMn, c1]
    simp only [e0, List.foldl_nil]
   ·rw [admK_G, rdM m d hi, rdMn, c1]
    rw [hd] at c2
    have hx : (⟨i, (m.length - 1 : Nat), q1, q2⟩ : S57) ∈ refRow m i (i + 1) := by
     refine List.mem_flatMap.2 ⟨m.length - 1, List.mem_range'_1.2 ⟨by omega, by omega⟩, ?_⟩
     rw [admK_G, c2]
     exact List.mem_cons_self ..
    have hh := fold_has m _ _ K hKn hx
    have ep : partX (m ++ [d]) ⟨i, m.length, q1, q2⟩ = partX m ⟨i, (m.length - 1 : Nat), q1, q2⟩ := by
     unfold partX
     simp only
     rw [rdM m d hi, rdMn, hd]
     exact partT_bare _ _ _ _ _ _ _ _ hb
    simp only [List.foldl_cons, List.foldl_nil]
    obtain ⟨Q, hQ⟩ : ∃ Q, Q = (refRow m i (i + 1)).foldl (keyStep m) K := ⟨_, rfl⟩
    rw [← hQ] at hh ⊢
    unfold keyStep
    rw [ep, if_pos ((containsS_iff _ _).2 hh)]
theorem kRes_one (pass : Int) (hl : m.length ≤ 99) (ho : oddW d.f0 = false) : kRes (m ++ [d]) pass = kRes m pass := by
 have e1 : oddAny (m ++ [d]) = oddAny m := by
  have : ∀ l : List S45, oddAny (l ++ [d]) = oddAny l := by
   intro l
   induction l with
   | nil => show (oddW d.f0 || oddAny []) = _; rw [ho]; rfl
   | cons x l ih => rw [List.cons_append, oddAny_cons, oddAny_cons, ih]
  exact this m
 have e2 : keyList (m ++ [d]) pass (refAll (m ++ [d]) 0) = keyList m pass (refAll m 0) := by
  unfold keyList
  rw [allM, allm]
  exact foldM m d hm hd hb _ (by simp) m.length (Nat.le_refl _)
 unfold kRes
 rw [e1, e2, if_neg (by simp; omega), if_neg (show ¬ (m.length : Int) > 100 by omega)]
end
/-! ### The law -/
theorem two_none (a b : S45) (h : a.f1 = b.f1) : refAll [a, b] 0 = [] := by
 have e : refAll [a, b] 0 = (admK [a, b] 0 1 ++ []) ++ ([] ++ []) := rfl
 rw [e, admK_G]
 show (admG a.f1 b.f1 0 1 ++ []) ++ ([] ++ []) = []
 rw [h, admG_self]
 rfl
theorem two_ev (a b : S45) (h : a.f1 = b.f1) (ha : a.f1.f0.length ≤ 2000) : Ev (fun k => cupelref26_Differ.f k [a, b]) ([], 0) := by
 have hs : ∀ j, (rd_T45 [a, b] j).f1.f0.length < 4611686018427387904 := out_small (fun o ho => by
  simp only [List.mem_cons, List.not_mem_nil, or_false] at ho
  rcases ho with rfl | rfl
  ·exact ha
  ·rw [← h]; exact ha)
 have := refDiffer_ev [a, b] hs
 rw [two_none a b h] at this
 exact this
/-- What is asked of the law's outcomes. -/
structure AOk (l : List S45) (add : Int) : Prop where
 n : l.length ≤ 50
 small : ∀ o ∈ l, o.f1.f0.length ≤ 2000 ∧ o.f0.size ≤ 1000
 code : ∀ o ∈ l, -9223372036854775808 ≤ o.f1.f2 ∧ o.f1.f2 ≤ 9223372036854775807
 nums : ∀ o ∈ l, In64 o.f1.f0
theorem AOk.nums' {l : List S45} {add : Int} (h : AOk l add) (j : Int) : In64 (rd_T45 l j).f1.f0 := by
 unfold rd_T45
 rw [List.getD_eq_getElem?_getD]
 by_cases hj : j.toNat < l.length
 ·rw [List.getElem?_eq_getElem hj]; exact h.nums _ (List.getElem_mem hj)
 ·rw [List.getElem?_eq_none (by omega)]; intro v hv; simp [z45, z43] at hv
theorem other_ev {l : List S45} {add : Int} (h : AOk l add) (pass : Int) : Ev (fun k => groups_Key.f k (l.map (addO add)) pass) (kRes l pass) := by
 rw [← kRes_map l add pass h.nums']
 refine key_ev _ pass (fun o ho => ?_) (out_small (fun o ho => ?_))
 ·obtain ⟨o', ho', rfl⟩ := List.mem_map.1 ho
  exact ⟨Nat.le_trans (h.small o' ho').2 (by decide), h.code o' ho'⟩
 ·obtain ⟨o', ho', rfl⟩ := List.mem_map.1 ho
  show (List.map _ _).length ≤ 2000
  rw [List.length_map]
  exact (h.small o' ho').1
theorem more_ev {l : List S45} {add : Int} (h : AOk l add) (pass : Int) (hl : 0 < l.length) (d : S45) (hd : d.f1 = (rd_T45 (l.map (addO add)) ((l.length - 1 : Nat) : Int)).f1)
  (hf : d.f0 = bareB (rd_T45 (l.map (addO add)) ((l.length - 1 : Nat) : Int)).f0 ++ b99) (hne : (rd_T45 (l.map (addO add)) ((l.length - 1 : Nat) : Int)).f0 ≠ bareB (rd_T45 (l.map (addO add)) ((l.length - 1 : Nat) : Int)).f0) (hok : oddAny l = false) :
  Ev (fun k => groups_Key.f k (l.map (addO add) ++ [d]) pass) (kRes l pass) := by
 obtain ⟨m, hm⟩ : ∃ m, m = l.map (addO add) := ⟨_, rfl⟩
 have hml : m.length = l.length := by rw [hm, List.length_map]
 rw [← kRes_map l add pass h.nums', ← hm]
 rw [← hm, ← hml] at hd hf hne
 have hin : rd_T45 m ((m.length - 1 : Nat) : Int) ∈ m := rdT45_mem (by omega) (by omega)
 have hin2 := hin
 rw [hm] at hin2
 obtain ⟨o, ho, eo⟩ := List.mem_map.1 hin2
 rw [← hm] at eo
 have hfo : (rd_T45 m ((m.length - 1 : Nat) : Int)).f0 = o.f0 := by rw [← eo]; rfl
 have hodd : ∀ (l : List S45), oddAny l = false → ∀ o ∈ l, oddW o.f0 = false := by
  intro l
  induction l with
  | nil => intro _ o ho; simp at ho
  | cons x l ih =>
   intro hx o ho
   rw [oddAny_cons, Bool.or_eq_false_iff] at hx
   rcases List.mem_cons.1 ho with rfl | ho
   ·exact hx.1
   ·exact ih hx.2 o ho
 have hbd : bareB d.f0 = bareB (rd_T45 m ((m.length - 1 : Nat) : Int)).f0 := by rw [hf]; exact bare_99 _ hne
 have hod : oddW d.f0 = false := by rw [hf]; exact odd_99 _ (by rw [hfo]; exact hodd l hok o ho)
 have hn := h.n
 rw [← kRes_one m d (by omega) hd hbd pass (by omega) hod]
 have hb99 : b99.size = 3 := rfl
 refine key_ev _ pass (fun x hx => ?_) (out_small (fun x hx => ?_))
 ·rcases List.mem_append.1 hx with hx | hx
  ·rw [hm] at hx
   obtain ⟨o', ho', rfl⟩ := List.mem_map.1 hx
   exact ⟨Nat.le_trans (h.small o' ho').2 (by decide), h.code o' ho'⟩
  ·simp only [List.mem_singleton] at hx
   subst hx
   refine ⟨?_, ?_⟩
   ·have := bare_len o.f0
    have := (h.small o ho).2
    rw [hf, hfo, bd_add, hb99]; omega
   ·rw [hd, ← eo]; exact h.code o ho
 ·rcases List.mem_append.1 hx with hx | hx
  ·rw [hm] at hx
   obtain ⟨o', ho', rfl⟩ := List.mem_map.1 hx
   show (List.map _ _).length ≤ 2000
   rw [List.length_map]
   exact (h.small o' ho').1
  ·simp only [List.mem_singleton] at hx
   subst hx
   rw [hd, ← eo]
   show (List.map _ _).length ≤ 2000
   rw [List.length_map]
   exact (h.small o ho).1
theorem kRes_ok {l : List S45} {pass : Int} (h : (kRes l pass).2 = 0) : oddAny l = false := by
 unfold kRes at h
 split at h
 ·cases h
 ·split at h
  ·cases h
  ·rename_i h1
   cases ho : oddAny l with
   | false => rfl
   | true => exact absurd (Or.inl ho) h1
theorem kRes_bad {l : List S45} {pass : Int} (h : (kRes l pass).2 ≠ 0) : (kRes l pass).1 = ⟨#[]⟩ := by
 unfold kRes at h ⊢
 split
 ·rfl
 ·split
  ·rfl
  ·rename_i h0 h1
   rw [if_neg h0, if_neg h1] at h
   exact absurd rfl h
theorem alike_end {l : List S45} {add pass : Int} (h : AOk l add) (hok : (kRes l pass).2 = 0) : Ev (fun k => cupellaw35_GroupsAlike.l0 k l pass add (kRes l pass).1 (l.map (addO add)) (l.length : Int)) true := by
 have hn := h.n
 have hres : ∀ {m : List S45}, Ev (fun k => groups_Key.f k m pass) (kRes l pass) → Ev (fun k => (groups_Key.f k m pass).bind fun b => if b.2 = 0 then some ((kRes l pass).1.toList == b.1.toList) else none) true := by
  intro m hm
  refine ev_bind hm ?_
  simp only [if_pos hok, beq_self_eq_true]
  exact ev_const _
 by_cases h0 : (l.length : Int) > 0
 ·have hw : wrap64 ((l.length : Int) - 1) = ((l.length - 1 : Nat) : Int) := by rw [wrap64_small _ (by omega) (by omega)]; omega
  have hml : (l.map (addO add)).length = l.length := List.length_map ..
  obtain ⟨L, hL⟩ : ∃ L, L = rd_T45 (l.map (addO add)) ((l.length - 1 : Nat) : Int) := ⟨_, rfl⟩
  have hin : L ∈ l.map (addO add) := by rw [hL]; exact rdT45_mem (by omega) (by omega)
  obtain ⟨o, ho, eo⟩ := List.mem_map.1 hin
  have hsz : L.f0.size ≤ 1000 := by rw [← eo]; exact (h.small o ho).2
  have hlen : L.f1.f0.length ≤ 2000 := by
   rw [← eo]
   show (List.map _ _).length ≤ 2000
   rw [List.length_map]
   exact (h.small o ho).1
  refine ev_step (g := fun k => (cupelref35_Bare.f k L.f0).bind fun t => if L.f0.toList = t.toList then ((groups_Key.f k (l.map (addO add)) pass).bind fun b => if b.2 = 0 then some ((kRes l pass).1.toList == b.1.toList) else none) else (if t.size + 3 ≤ 9223372036854775807 then ((cupelref26_Differ.f k [⟨t ++ b99, L.f1⟩, L]).bind fun q => if q.2 = 0 then (if (q.1.length : Int) = 0 then (if (l.map (addO add)).length < 2513169434916 then ((groups_Key.f k (l.map (addO add) ++ [⟨t ++ b99, L.f1⟩]) pass).bind fun b => if b.2 = 0 then some ((kRes l pass).1.toList == b.1.toList) else none) else none) else none) else none) else none)) (fun k => ?_) (ev_bind (bare_ev L.f0 (by omega)) ?_)
  ·simp only [cupellaw35_GroupsAlike.l0]
   rw [if_neg (by omega), if_pos h0, hw, if_pos (by omega), if_pos (by omega), ← hL]
   rfl
  ·by_cases hb : L.f0 = bareB L.f0
   ·simp only [if_pos (toList_inj.2 hb)]
    exact hres (other_ev h pass)
   ·have hz := bare_len L.f0
    simp only [if_neg (fun e => hb (toList_inj.1 e)), if_pos (show (bareB L.f0).size + 3 ≤ 9223372036854775807 by omega)]
    refine ev_bind (two_ev ⟨bareB L.f0 ++ b99, L.f1⟩ L rfl hlen) ?_
    simp only [if_true, List.length_nil, if_pos (show ((0 : Nat) : Int) = 0 from rfl), if_pos (show (l.map (addO add)).length < 2513169434916 by omega)]
    exact hres (more_ev h pass (by omega) ⟨bareB L.f0 ++ b99, L.f1⟩ (by rw [← hL]) (by rw [← hL]) (by rw [← hL]; exact hb) (kRes_ok hok))
 ·refine ev_step (g := fun k => (groups_Key.f k (l.map (addO add)) pass).bind fun b => if b.2 = 0 then some ((kRes l pass).1.toList == b.1.toList) else none) (fun k => ?_) (hres (other_ev h pass))
  simp only [cupellaw35_GroupsAlike.l0]
  rw [if_neg (by omega), if_neg h0]
theorem alike_l1 {l : List S45} {add pass : Int} (h : AOk l add) (key : ByteArray) (out : List S45) (i : Nat) (hi : i < l.length) (ho : out.length ≤ 50)
  (next : Ev (fun k => cupellaw35_GroupsAlike.l0 k l pass add key (out ++ [addO add (rd_T45 l (i : Int))]) ((i + 1 : Nat) : Int)) true) :
  ∀ (n j : Nat), (rd_T45 l (i : Int)).f1.f0.length - j = n → j ≤ (rd_T45 l (i : Int)).f1.f0.length → Ev (fun k => cupellaw35_GroupsAlike.l1 k l pass add key out (i : Int) (j : Int) (rd_T45 l (i : Int)).f0 (((rd_T45 l (i : Int)).f1.f0.take j).map (fun v => wrap64 (v + add))) (rd_T45 l (i : Int)).f1.f1 (rd_T45 l (i : Int)).f1.f2) true := by
 have hn := h.n
 have hm : rd_T45 l (i : Int) ∈ l := rdT45_mem (by omega) (by omega)
 have hsm := (h.small _ hm).1
 have hwi : wrap64 ((i : Int) + 1) = ((i + 1 : Nat) : Int) := by rw [w64 (by omega) (by omega)]; rfl
 intro n
 induction n with
 | zero =>
  intro j hn' hj
  obtain rfl : j = (rd_T45 l (i : Int)).f1.f0.length := by omega
  rw [List.take_of_length_le (Nat.le_refl _)]
  refine ev_step (fun k => ?_) next
  simp only [cupellaw35_GroupsAlike.l1]
  rw [if_pos (by omega), if_pos (by omega), if_neg (by omega), if_pos (by omega), hwi]
  rfl
 | succ n ih =>
  intro j hn' hj
  have hlt : j < (rd_T45 l (i : Int)).f1.f0.length := by omega
  have hwj : wrap64 ((j : Int) + 1) = ((j + 1 : Nat) : Int) := by rw [w64 (by omega) (by omega)]; rfl
  refine ev_step (fun k => ?_) (ih (j + 1) (by omega) (by omega))
  simp only [cupellaw35_GroupsAlike.l1]
  have et : ((rd_T45 l (i : Int)).f1.f0.take (j + 1)).map (fun v => wrap64 (v + add)) = ((rd_T45 l (i : Int)).f1.f0.take j).map (fun v => wrap64 (v + add)) ++ [wrap64 (rd (rd_T45 l (i : Int)).f1.f0 (j : Int) + add)] := by
   rw [List.take_succ_eq_append_getElem hlt, List.map_append]
   simp [rd, hlt]
  rw [if_pos (by omega), if_pos (by omega), if_pos (by omega), if_pos (by omega), if_pos (by rw [List.length_map, List.length_take]; omega), hwj, et]
theorem alike_l0 {l : List S45} {add pass : Int} (h : AOk l add) (hok : (kRes l pass).2 = 0) : ∀ (n i : Nat), l.length - i = n → i ≤ l.length → Ev (fun k => cupellaw35_GroupsAlike.l0 k l pass add (kRes l pass).1 ((l.take i).map (addO add)) (i : Int)) true := by
 have hn := h.n
 intro n
 induction n with
 | zero =>
  intro i hn' hi
  obtain rfl : i = l.length := by omega
  rw [List.take_of_length_le (Nat.le_refl _)]
  exact alike_end h hok
 | succ n ih =>
  intro i hn' hi
  have hlt : i < l.length := by omega
  by_cases hb : ((rd_T45 l (i : Int)).f1.f0.length : Int) > 100
  ·refine ev_step (g := fun _ => some true) (fun k => ?_) (ev_const _)
   simp only [cupellaw35_GroupsAlike.l0]
   rw [if_pos (by omega), if_pos (by omega), if_pos hb]
  ·have hnx := ih (i + 1) (by omega) (by omega)
   have et : (l.take (i + 1)).map (addO add) = (l.take i).map (addO add) ++ [addO add (rd_T45 l (i : Int))] := by
    rw [List.take_succ_eq_append_getElem hlt, List.map_append]
    simp [rd_T45, hlt]
   rw [et] at hnx
   refine ev_step (fun k => ?_) (alike_l1 h _ _ i hlt (by rw [List.length_map, List.length_take]; omega) hnx _ 0 rfl (Nat.zero_le _))
   simp only [cupellaw35_GroupsAlike.l0]
   rw [if_pos (by omega), if_pos (by omega), if_neg hb]
   rfl
theorem alike_ev (l : List S45) (pass add : Int) (hc : ∀ o ∈ l, -9223372036854775808 ≤ o.f1.f2 ∧ o.f1.f2 ≤ 9223372036854775807) (hnum : ∀ o ∈ l, In64 o.f1.f0) : Ev (fun k => cupellaw35_GroupsAlike.f k l pass add) true := by
 have top : Ev (fun k => cupellaw35_GroupsAlike.j0 k l pass add true) true := by
  refine ev_step (g := fun _ => some true) (fun k => ?_) (ev_const _)
  simp only [cupellaw35_GroupsAlike.j0, if_true]
 unfold cupellaw35_GroupsAlike.f
 refine ev_bind shown_ev ?_
 simp only [if_true]
 by_cases h1 : (l.length : Int) > 50
 ·simp only [if_pos h1]; exact top
 ·simp only [if_neg h1]
  refine ev_bind (great_ev l) ?_
  cases hg : greatL l with
  | true => exact top
  | false =>
   have hsm := small_of hg
   have hA : AOk l add := ⟨by omega, hsm, hc, hnum⟩
   have hk := key_ev l pass (fun o ho => ⟨Nat.le_trans (hsm o ho).2 (by decide), hc o ho⟩) (out_small (fun o ho => (hsm o ho).1))
   refine ev_step (g := fun k => (groups_Key.f k l pass).bind fun b => if b.2 = 0 then cupellaw35_GroupsAlike.l0 k l pass add b.1 [] ((0 : Nat) : Int) else some (b.1.toList == [])) (fun k => ?_) (ev_bind hk ?_)
   ·simp only [cupellaw35_GroupsAlike.j0, Bool.false_eq_true, if_false]
    rfl
   ·by_cases hok : (kRes l pass).2 = 0
    ·simp only [if_pos hok]
     exact alike_l0 hA hok _ 0 rfl (Nat.zero_le _)
    ·simp only [if_neg hok, kRes_bad hok]
     rw [show ((⟨#[]⟩ : ByteArray).toList == ([] : List UInt8)) = true by rw [Lib.toList_data]; rfl]
     exact ev_const _
end Go.Proofs.YtndennmpnomjnaaDoor.A

/- The reference's Key is the program's. -/
import Derived.Test.YtndennmpnomjnaaDoorPe
import Derived.Test.YtndennmpnomjnaaDoorPc
set_option linter.all false
set_option linter.unusedVariables false
namespace Go.Proofs.YtndennmpnomjnaaDoor.A
open Go.RowKit Go.Lib Go.Proofs.YtndennmpnomjnaaDoorW.PrintWords Go.Proofs.YtndennmpnomjnaaDoorW.PrintMore
/-! ### Numbers -/
theorem u64_id {x : Int} (h0 : 0 ≤ x) (h1 : x < 18446744073709551616) : IntKind.u64.wrap x = x := by
 simp only [IntKind.wrap, IntKind.bits, IntKind.signed]
 simp
 omega
theorem u64_val (x : Int) : IntKind.u64.wrap x = x % 18446744073709551616 := by
 simp only [IntKind.wrap, IntKind.bits, IntKind.signed]
 simp
theorem ba_app (a b : List UInt8) : (⟨a.toArray⟩ ++ ⟨b.toArray⟩ : ByteArray) = ⟨(a ++ b).toArray⟩ := by
 apply ByteArray.ext
 rw [ByteArray.data_append]
 simp
def dpre (u : Nat) : List UInt8 := if u = 0 then [] else decDigits u
theorem dig_step (u : Nat) : decDigits u = dpre (u / 10) ++ [UInt8.ofNat (48 + u % 10)] := by
 unfold dpre
 by_cases h : u < 10
 ·rw [if_pos (by omega), decDigits_one h, Nat.mod_eq_of_lt h, List.nil_append]
 ·rw [if_neg (by omega)]
  conv => lhs; rw [decDigits]
  rw [dif_neg h]
theorem dec_digit (u : Nat) (hu : u < 18446744073709551616) : strOfNums [(IntKind.u64.wrap (48 + (Int.tmod (u : Int) 10))) % 256] = ⟨[UInt8.ofNat (48 + u % 10)].toArray⟩ ∧ IntKind.u64.wrap (Int.tdiv (u : Int) 10) = ((u / 10 : Nat) : Int) := by
 rw [Int.tmod_eq_emod_of_nonneg (by omega), Int.tdiv_eq_ediv_of_nonneg (by omega), u64_id (by omega) (by omega), u64_id (by omega) (by omega)]
 refine ⟨?_, by omega⟩
 rw [show (48 + (u : Int) % 10) % 256 = ((48 + u % 10 : Nat) : Int) by omega]
 rfl
theorem dec_loop (sg : List UInt8) (hsg : sg.length ≤ 10) : ∀ (n u : Nat) (l : List UInt8), u < 10 ^ n → u < 18446744073709551616 → l.length + n ≤ 100 → Ev (fun k => cupelref35_decimal.l0 k (u : Int) ⟨sg.toArray⟩ ⟨l.toArray⟩) ⟨(sg ++ (dpre u ++ l)).toArray⟩ := by
 intro n
 have sz : ∀ l : List UInt8, (⟨l.toArray⟩ : ByteArray).size = l.length := fun l => rfl
 have base : ∀ l : List UInt8, l.length ≤ 100 → Ev (fun k => cupelref35_decimal.l0 k ((0 : Nat) : Int) ⟨sg.toArray⟩ ⟨l.toArray⟩) ⟨(sg ++ (dpre 0 ++ l)).toArray⟩ := by
  intro l hl
  refine ev_step (g := fun _ => some ⟨(sg ++ (dpre 0 ++ l)).toArray⟩) (fun k => ?_) (ev_const _)
  simp only [cupelref35_decimal.l0]
  rw [if_neg (by omega), if_pos (by rw [sz, sz]; omega), ba_app]
  rfl
 induction n with
 | zero =>
  intro u l hu _ hl
  obtain rfl : u = 0 := by simpa using hu
  exact base l (by omega)
 | succ n ih =>
  intro u l hu hu2 hl
  by_cases h0 : u = 0
  ·subst h0; exact base l (by omega)
  ·obtain ⟨e1, e2⟩ := dec_digit u hu2
   refine ev_step (g := fun k => cupelref35_decimal.l0 k ((u / 10 : Nat) : Int) ⟨sg.toArray⟩ ⟨(UInt8.ofNat (48 + u % 10) :: l).toArray⟩) (fun k => ?_) ?_
   ·simp only [cupelref35_decimal.l0]
    rw [if_pos (by omega), Option.bind_some, e1, e2, if_pos (by rw [sz, sz]; simp; omega), ba_app]
    rfl
   ·have := ih (u / 10) (UInt8.ofNat (48 + u % 10) :: l) (by rw [Nat.pow_succ] at hu; omega) (by omega) (by simp; omega)
    rw [show dpre u ++ l = dpre (u / 10) ++ (UInt8.ofNat (48 + u % 10) :: l) by
     rw [show dpre u = decDigits u by unfold dpre; rw [if_neg h0], dig_step, List.append_assoc]; rfl]
    exact this
theorem dec_j0 (sg : List UInt8) (hsg : sg.length ≤ 10) (u : Nat) (hu : u < 18446744073709551616) : Ev (fun k => cupelref35_decimal.j0 k (u : Int) ⟨sg.toArray⟩) ⟨(sg ++ decDigits u).toArray⟩ := by
 obtain ⟨e1, e2⟩ := dec_digit u hu
 refine ev_step (g := fun k => cupelref35_decimal.l0 k ((u / 10 : Nat) : Int) ⟨sg.toArray⟩ ⟨[UInt8.ofNat (48 + u % 10)].toArray⟩) (fun k => ?_) ?_
 ·simp only [cupelref35_decimal.j0]
  rw [e1, e2]
 ·rw [dig_step]
  exact dec_loop sg hsg 20 (u / 10) _ (by omega) (by omega) (by simp)
theorem dec_ev (v : Int) (h0 : -9223372036854775808 ≤ v) (h1 : v ≤ 9223372036854775807) : Ev (fun k => cupelref35_decimal.f k v) (itoaB v) := by
 unfold cupelref35_decimal.f itoaB itoa
 by_cases c : v < 0
 ·simp only [if_pos c]
  have e : IntKind.u64.wrap (-(IntKind.u64.wrap v)) = ((v.natAbs : Nat) : Int) := by rw [u64_val v, u64_val]; omega
  simp only [e]
  exact dec_j0 [45] (by decide) v.natAbs (by omega)
 ·simp only [if_neg c]
  have e : IntKind.u64.wrap v = ((v.toNat : Nat) : Int) := by rw [u64_id (by omega) (by omega)]; omega
  simp only [e]
  exact dec_j0 [] (by decide) v.toNat (by omega)
/-! ### The text of a difference -/
theorem end_ev (o : List Int) (e c : Int) (h0 : -9223372036854775808 ≤ c) (h1 : c ≤ 9223372036854775807) : Ev (fun k => cupelref35_end.f k o e c) (endT e c) := by
 have hz := itoaB_size c h0 h1
 unfold cupelref35_end.f endT
 by_cases c1 : e = 1
 ·simp only [if_pos c1]; exact ev_const _
 ·simp only [if_neg c1]
  by_cases c2 : e = 2
  ·simp only [if_pos c2]
   refine ev_bind (dec_ev c h0 h1) ?_
   simp only [if_pos (show 5 + (itoaB c).size ≤ 9223372036854775807 by omega)]
   exact ev_const _
  ·simp only [if_neg c2]
   by_cases c3 : e = 3
   ·simp only [if_pos c3]
    refine ev_bind (dec_ev c h0 h1) ?_
    simp only [if_pos (show 10 + (itoaB c).size ≤ 9223372036854775807 by omega)]
    exact ev_const _
   ·simp only [if_neg c3]
    by_cases c4 : e = 4
    ·simp only [if_pos c4]; exact ev_const _
    ·simp only [if_neg c4]; exact ev_const _
theorem rdT45_mem {l : List S45} {i : Int} (h0 : 0 ≤ i) (h1 : i < l.length) : rd_T45 l i ∈ l := by
 unfold rd_T45
 rw [List.getD_eq_getElem?_getD, List.getElem?_eq_getElem (by omega)]
 exact List.getElem_mem _
/-- What is asked of one outcome. -/
def Tame (o : S45) : Prop := o.f0.size ≤ 1000 ∧ -9223372036854775808 ≤ o.f1.f2 ∧ o.f1.f2 ≤ 9223372036854775807
theorem part_ev (l : List S45) (x : S57) (hl : ∀ o ∈ l, Tame o) (h0 : 0 ≤ x.f0) (h1 : x.f0 < l.length) (h2 : 0 ≤ x.f1) (h3 : x.f1 < l.length) : Ev (fun k => cupelref35_part.f k l x.f0 x.f1 x.f2 x.f3) (partX l x) := by
 obtain ⟨a0, a1, a2⟩ := hl _ (rdT45_mem h0 h1)
 obtain ⟨b0, b1, b2⟩ := hl _ (rdT45_mem h2 h3)
 unfold cupelref35_part.f partX partT
 obtain ⟨a, ha⟩ : ∃ a, a = rd_T45 l x.f0 := ⟨_, rfl⟩
 obtain ⟨b, hb⟩ : ∃ b, b = rd_T45 l x.f1 := ⟨_, rfl⟩
 simp only [← ha, ← hb] at *
 have za := bareB_size a.f0
 have zb := bareB_size b.f0
 have ea := endT_size a.f1.f1 a.f1.f2 a1 a2
 have eb := endT_size b.f1.f1 b.f1.f2 b1 b2
 have z1 : (⟨#[44, 32]⟩ : ByteArray).size = 2 := rfl
 have z2 : (⟨#[58, 32]⟩ : ByteArray).size = 2 := rfl
 have z3 : (⟨#[101, 110, 100, 32]⟩ : ByteArray).size = 4 := rfl
 have z4 : (⟨#[99, 111, 100, 101, 32]⟩ : ByteArray).size = 5 := rfl
 have z5 : (⟨#[32, 47, 32]⟩ : ByteArray).size = 3 := rfl
 simp only [if_pos h0, if_pos h1, if_pos h2, if_pos h3]
 refine ev_bind (bare_ev a.f0 (by omega)) ?_
 simp only [if_pos (show (bareB a.f0).size + 2 ≤ 9223372036854775807 by omega)]
 refine ev_bind (bare_ev b.f0 (by omega)) ?_
 simp only [if_pos (show (bareB a.f0 ++ (⟨#[44, 32]⟩ : ByteArray)).size + (bareB b.f0).size ≤ 9223372036854775807 by simp only [bd_add, z1]; omega),
  if_pos (show ((bareB a.f0 ++ (⟨#[44, 32]⟩ : ByteArray)) ++ bareB b.f0).size + 2 ≤ 9223372036854775807 by simp only [bd_add, z1]; omega)]
 unfold headT
 obtain ⟨H, hH⟩ : ∃ H, H = ((bareB a.f0 ++ (⟨#[44, 32]⟩ : ByteArray)) ++ bareB b.f0) ++ (⟨#[58, 32]⟩ : ByteArray) := ⟨_, rfl⟩
 have hz : H.size ≤ 10000 := by rw [hH]; simp only [bd_add, z1, z2]; omega
 rw [← hH]
 by_cases c1 : x.f2 = 1
 ·simp only [if_pos c1, if_pos (show H.size + 3 ≤ 9223372036854775807 by omega)]; exact ev_const _
 ·simp only [if_neg c1]
  by_cases c2 : x.f2 = 2
  ·simp only [if_pos c2, if_pos (show H.size + 4 ≤ 9223372036854775807 by omega)]; exact ev_const _
  ·simp only [if_neg c2]
   have tail : ∀ (T : ByteArray), T.size ≤ 5 → Ev (fun k => (cupelref35_end.f k a.f1.f0 a.f1.f1 a.f1.f2).bind fun t235 => (if (H ++ T).size + t235.size ≤ 9223372036854775807 then (if ((H ++ T) ++ t235).size + 3 ≤ 9223372036854775807 then ((cupelref35_end.f k b.f1.f0 b.f1.f1 b.f1.f2).bind fun t236 => (if (((H ++ T) ++ t235) ++ (⟨#[32, 47, 32]⟩ : ByteArray)).size + t236.size ≤ 9223372036854775807 then (some ((((H ++ T) ++ t235) ++ (⟨#[32, 47, 32]⟩ : ByteArray)) ++ t236)) else (none))) else (none)) else (none))) ((((H ++ T) ++ endT a.f1.f1 a.f1.f2) ++ (⟨#[32, 47, 32]⟩ : ByteArray)) ++ endT b.f1.f1 b.f1.f2) := by
    intro T hT
    refine ev_bind (end_ev _ _ _ a1 a2) ?_
    simp only [if_pos (show (H ++ T).size + (endT a.f1.f1 a.f1.f2).size ≤ 9223372036854775807 by simp only [bd_add]; omega), if_pos (show ((H ++ T) ++ endT a.f1.f1 a.f1.f2).size + 3 ≤ 9223372036854775807 by simp only [bd_add]; omega)]
    refine ev_bind (end_ev _ _ _ b1 b2) ?_
    simp only [if_pos (show (((H ++ T) ++ endT a.f1.f1 a.f1.f2) ++ (⟨#[32, 47, 32]⟩ : ByteArray)).size + (endT b.f1.f1 b.f1.f2).size ≤ 9223372036854775807 by simp only [bd_add, z5]; omega)]
    exact ev_const _
   by_cases c3 : x.f2 = 3
   ·simp only [if_pos c3, if_pos (show H.size + 4 ≤ 9223372036854775807 by omega)]
    exact tail _ (by rw [z3]; omega)
   ·simp only [if_neg c3, if_pos (show H.size + 5 ≤ 9223372036854775807 by omega)]
    exact tail _ (by rw [z4]; omega)
/-! ### The key -/
theorem join_snoc (sep t : List UInt8) : ∀ (ks : List (List UInt8)), ks ≠ [] → Lib.join (ks ++ [t]) sep = Lib.join ks sep ++ sep ++ t := by
 intro ks h
 cases ks with
 | nil => exact absurd rfl h
 | cons x r =>
  rw [List.cons_append, join_cons, join_cons]
  simp [joinTail]
theorem keyB_snoc (ks : List ByteArray) (t : ByteArray) (h : ks ≠ []) : keyB (ks ++ [t]) = (keyB ks ++ ⟨#[59, 32]⟩) ++ t := by
 unfold keyB
 rw [List.map_append, List.map_cons, List.map_nil, join_snoc _ _ _ (by simpa using h)]
 apply ByteArray.ext
 simp [ByteArray.data_append]
theorem ds_drop {ds : List S57} {i : Nat} (h : i < ds.length) : ds.drop i = rd_T57 ds (i : Int) :: ds.drop (i + 1) := by
 rw [List.drop_eq_getElem_cons h]
 simp [rd_T57, h]
theorem has_t {X : List ByteArray} {t : ByteArray} (h : t ∈ X) : containsS X t = true := (containsS_iff X t).2 h
theorem has_f {X : List ByteArray} {t : ByteArray} (h : t ∉ X) : containsS X t = false := by
 cases e : containsS X t with
 | false => rfl
 | true => exact absurd ((containsS_iff X t).1 e) h
theorem seen_take {seen : List ByteArray} {j : Nat} (h : j < seen.length) (t : ByteArray) : containsS (seen.take (j + 1)) t = (containsS (seen.take j) t || ((rdOf ByteArray.empty seen (j : Int)).toList == t.toList)) := by
 have e : rdOf ByteArray.empty seen (j : Int) = seen[j] := by simp [rdOf, h]
 rw [e, List.take_succ_eq_append_getElem h]
 by_cases h1 : t ∈ seen.take j
 ·rw [has_t h1, has_t (List.mem_append.2 (.inl h1)), Bool.true_or]
 ·rw [has_f h1, Bool.false_or]
  by_cases h2 : seen[j] = t
  ·rw [has_t (List.mem_append.2 (.inr (by simp [h2]))), h2, beq_self_eq_true]
  ·rw [has_f, beq_eq_false_iff_ne.2 (fun e => h2 (toList_inj.1 e))]
   intro h3
   rcases List.mem_append.1 h3 with h3 | h3
   ·exact h1 h3
   ·exact h2 (show seen[j] = t from (by simpa using h3 : t = seen[j]).symm)
theorem key_known (l : List S45) (ds : List S57) (s : ByteArray) (seen : List ByteArray) (i : Nat) (t : ByteArray) (R : ByteArray × Int) (hi : i < 1000000) (hs : s.size ≤ 1000000000000) (hn : seen.length < 1000000) (ht : t.size ≤ 1000000)
  (hA : t ∈ seen → Ev (fun k => cupelref35_Key.l1 k l ds s seen ((i + 1 : Nat) : Int)) R)
  (hB : t ∉ seen → Ev (fun k => cupelref35_Key.l1 k l ds ((s ++ ⟨#[59, 32]⟩) ++ t) (seen ++ [t]) ((i + 1 : Nat) : Int)) R) :
  ∀ (n j : Nat) (kn : Bool), seen.length - j = n → j ≤ seen.length → kn = containsS (seen.take j) t → Ev (fun k => cupelref35_Key.l2 k l ds s seen (i : Int) t kn (j : Int)) R := by
 intro n
 have hwi : wrap64 ((i : Int) + 1) = ((i + 1 : Nat) : Int) := by rw [w64 (by omega) (by omega)]; rfl
 induction n with
 | zero =>
  intro j kn hn' hj hk
  obtain rfl : j = seen.length := by omega
  rw [List.take_of_length_le (Nat.le_refl _)] at hk
  by_cases h : t ∈ seen
  ·rw [has_t h] at hk
   subst hk
   refine ev_step (g := fun k => cupelref35_Key.l1 k l ds s seen ((i + 1 : Nat) : Int)) (fun k => ?_) (hA h)
   simp only [cupelref35_Key.l2]
   rw [if_neg (by omega), if_pos trivial, hwi]
  ·rw [has_f h] at hk
   subst hk
   refine ev_step (g := fun k => cupelref35_Key.l1 k l ds ((s ++ ⟨#[59, 32]⟩) ++ t) (seen ++ [t]) ((i + 1 : Nat) : Int)) (fun k => ?_) (hB h)
   have z1 : (⟨#[59, 32]⟩ : ByteArray).size = 2 := rfl
   simp only [cupelref35_Key.l2]
   rw [if_neg (by omega), if_neg (by decide), if_pos (by omega), if_pos (by omega), if_pos (by simp only [bd_add, z1]; omega), hwi]
 | succ n ih =>
  intro j kn hn' hj hk
  have hlt : j < seen.length := by omega
  have hw : wrap64 ((j : Int) + 1) = ((j + 1 : Nat) : Int) := by rw [w64 (by omega) (by omega)]; rfl
  have hst := seen_take hlt t
  rw [← hk] at hst
  refine ev_step (g := fun k => cupelref35_Key.l2 k l ds s seen (i : Int) t (containsS (seen.take (j + 1)) t) ((j + 1 : Nat) : Int)) (fun k => ?_) (ih (j + 1) _ (by omega) (by omega) rfl)
  rw [hst]
  cases kn with
  | true =>
   simp only [cupelref35_Key.l2]
   rw [if_pos (by omega), if_pos trivial, hw, Bool.true_or]
  | false =>
   simp only [cupelref35_Key.l2]
   rw [if_pos (by omega), if_neg (show ¬ false = true by decide), if_pos (by omega), hw, Bool.false_or]
theorem partX_size (l : List S45) (x : S57) (hl : ∀ o ∈ l, Tame o) (h0 : 0 ≤ x.f0) (h1 : x.f0 < l.length) (h2 : 0 ≤ x.f1) (h3 : x.f1 < l.length) : (partX l x).size ≤ 6000 := by
 obtain ⟨a0, a1, a2⟩ := hl _ (rdT45_mem h0 h1)
 obtain ⟨b0, b1, b2⟩ := hl _ (rdT45_mem h2 h3)
 exact partT_size _ _ _ _ _ _ _ a0 b0 a1 a2 b1 b2
theorem key_loop (l : List S45) (ds : List S57) (hl : ∀ o ∈ l, Tame o) (hd : ds.length ≤ 100000) (hx : ∀ x ∈ ds, 0 ≤ x.f0 ∧ x.f0 < l.length ∧ 0 ≤ x.f1 ∧ x.f1 < l.length) (p : ByteArray) :
  ∀ (n i : Nat) (seen : List ByteArray), ds.length - i = n → i ≤ ds.length → seen.length ≤ i → (keyB (p :: seen)).size ≤ 1000 + 7000 * i →
   Ev (fun k => cupelref35_Key.l1 k l ds (keyB (p :: seen)) seen (i : Int)) (keyB ((ds.drop i).foldl (keyStep l) (p :: seen)), 0) := by
 intro n
 induction n with
 | zero =>
  intro i seen hn hi hs hz
  obtain rfl : i = ds.length := by omega
  rw [List.drop_eq_nil_of_le (Nat.le_refl _)]
  refine ev_step (g := fun _ => some (keyB (p :: seen), 0)) (fun k => ?_) (ev_const _)
  simp only [cupelref35_Key.l1]
  rw [if_neg (by omega)]
 | succ n ih =>
  intro i seen hn hi hs hz
  have hlt : i < ds.length := by omega
  rw [ds_drop hlt, List.foldl_cons]
  have hm : rd_T57 ds (i : Int) ∈ ds := by
   unfold rd_T57
   rw [Int.toNat_natCast, List.getD_eq_getElem?_getD, List.getElem?_eq_getElem hlt]
   exact List.getElem_mem _
  obtain ⟨x, hxe⟩ : ∃ x, x = rd_T57 ds (i : Int) := ⟨_, rfl⟩
  rw [← hxe] at hm ⊢
  obtain ⟨x0, x1, x2, x3⟩ := hx x hm
  have hps := partX_size l x hl x0 x1 x2 x3
  have hpe := part_ev l x hl x0 x1 x2 x3
  refine ev_step (g := fun k => (cupelref35_part.f k l x.f0 x.f1 x.f2 x.f3).bind fun t245 => (cupelref35_Key.l2 k l ds (keyB (p :: seen)) seen (i : Int) t245 false ((0 : Nat) : Int))) (fun k => ?_) ?_
  ·simp only [cupelref35_Key.l1]
   rw [if_pos (by omega), if_pos (by omega), ← hxe]
   rfl
  ·refine ev_bind hpe (key_known l ds (keyB (p :: seen)) seen i (partX l x) _ (by omega) (by omega) (by omega) (by omega) (fun h => ?_) (fun h => ?_) _ 0 false rfl (Nat.zero_le _) (by rw [List.take_zero]; rfl))
   ·have e : keyStep l (p :: seen) x = p :: seen := by
     unfold keyStep
     rw [List.drop_succ_cons, List.drop_zero, if_pos ((containsS_iff _ _).2 h)]
    rw [e]
    exact ih (i + 1) seen (by omega) (by omega) (by omega) (by omega)
   ·have e : keyStep l (p :: seen) x = p :: (seen ++ [partX l x]) := by
     unfold keyStep
     rw [List.drop_succ_cons, List.drop_zero, if_neg (fun h' => h ((containsS_iff _ _).1 h'))]
     rfl
    have e2 : (keyB (p :: seen) ++ ⟨#[59, 32]⟩) ++ partX l x = keyB (p :: (seen ++ [partX l x])) := (keyB_snoc (p :: seen) (partX l x) (by simp)).symm
    have z1 : (⟨#[59, 32]⟩ : ByteArray).size = 2 := rfl
    rw [e, e2]
    refine ih (i + 1) (seen ++ [partX l x]) (by omega) (by omega) (by simp; omega) ?_
    rw [← e2]
    simp only [bd_add, z1]
    omega
theorem keyB_one (p : ByteArray) : keyB [p] = p := by
 unfold keyB
 rw [List.map_cons, List.map_nil, join_one]
theorem os_drop {l : List S45} {i : Nat} (h : i < l.length) : l.drop i = rd_T45 l (i : Int) :: l.drop (i + 1) := by
 rw [List.drop_eq_getElem_cons h]
 simp [rd_T45, h]
theorem keyWays (l : List S45) (pass : Int) (ds : List S57) (hl : ∀ o ∈ l, Tame o) (hn : l.length ≤ 1000) (hd : ds.length ≤ 100000) (hx : ∀ x ∈ ds, 0 ≤ x.f0 ∧ x.f0 < l.length ∧ 0 ≤ x.f1 ∧ x.f1 < l.length) (hp0 : -9223372036854775808 ≤ pass) (hp1 : pass ≤ 9223372036854775807) :
  ∀ (n i : Nat), l.length - i = n → i ≤ l.length → Ev (fun k => cupelref35_Key.l0 k l pass ds (i : Int)) (if oddAny (l.drop i) = true then (⟨#[]⟩, 2) else (keyB (keyList l pass ds), 0)) := by
 intro n
 induction n with
 | zero =>
  intro i hn' hi
  obtain rfl : i = l.length := by omega
  rw [List.drop_eq_nil_of_le (Nat.le_refl _), if_neg (by simp [oddAny])]
  have hz := itoaB_size pass hp0 hp1
  refine ev_step (g := fun k => (cupelref35_decimal.f k pass).bind fun t243 => (if 5 + t243.size ≤ 9223372036854775807 then (cupelref35_Key.l1 k l ds ((⟨#[112, 97, 115, 115, 32]⟩ : ByteArray) ++ t243) ([] : List ByteArray) ((0 : Nat) : Int)) else (none))) (fun k => ?_) (ev_bind (dec_ev pass hp0 hp1) ?_)
  ·simp only [cupelref35_Key.l0]
   rw [if_neg (by omega)]
   rfl
  ·simp only [if_pos (show 5 + (itoaB pass).size ≤ 9223372036854775807 by omega)]
   have z5 : (passT pass).size = 5 + (itoaB pass).size := by unfold passT; rw [bd_add]; rfl
   have := key_loop l ds hl hd hx (passT pass) _ 0 [] rfl (Nat.zero_le _) (Nat.zero_le _) (by rw [keyB_one]; omega)
   rw [keyB_one, List.drop_zero] at this
   exact this
 | succ n ih =>
  intro i hn' hi
  have hlt : i < l.length := by omega
  rw [os_drop hlt]
  have hm : rd_T45 l (i : Int) ∈ l := rdT45_mem (by omega) (by omega)
  obtain ⟨x, hxe⟩ : ∃ x, x = rd_T45 l (i : Int) := ⟨_, rfl⟩
  rw [← hxe] at hm ⊢
  have hw : wrap64 ((i : Int) + 1) = ((i + 1 : Nat) : Int) := by rw [w64 (by omega) (by omega)]; rfl
  refine ev_step (g := fun k => (cupelref35_way.f k x.f0).bind fun t242 => (if t242 = true then (cupelref35_Key.l0 k l pass ds ((i + 1 : Nat) : Int)) else (some ((⟨#[]⟩ : ByteArray), 2)))) (fun k => ?_) (ev_bind (way_ev x.f0 (by have := (hl x hm).1; omega)) ?_)
  ·simp only [cupelref35_Key.l0]
   rw [if_pos (by omega), if_pos (by omega), ← hxe, hw]
  ·have e : oddAny (x :: l.drop (i + 1)) = (oddW x.f0 || oddAny (l.drop (i + 1))) := rfl
   rw [e]
   cases ho : oddW x.f0 with
   | true =>
    simp only [Bool.not_true, Bool.false_eq_true, if_false, Bool.true_or, if_true]
    exact ev_const _
   | false =>
    simp only [Bool.not_false, if_true, Bool.false_or]
    exact ih (i + 1) (by omega) (by omega)
end Go.Proofs.YtndennmpnomjnaaDoor.A

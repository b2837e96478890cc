/- A slice of structs that the call itself made, handed to the library's slices.SortFunc: what the sort's contract asks of it, and that behind the sort it is again a slice of the call's own, with the sorted elements. For every kind of struct whose cells are told by its fields alone. -/
import Derived.Shelf.SlSortCmp.KitK
import Derived.Sort.OwnSorted
import Derived.Sort.LotA
import Derived.Test.YtndennmpnomjnaaDoorWAll
set_option linter.all false
set_option linter.unusedVariables false
set_option linter.unusedSectionVars false
namespace Go.Proofs.YtndennmpnomjnaaDoor.SortK
open Go.Sort Go.RowKit Go.Lib Go.Proofs.YtndennmpnomjnaaDoorW.PrintWords
variable {α : Type} [Inhabited α]
theorem flat_len (enc : α → List Value) (k : Nat) (hk : ∀ x, (enc x).length = k) (l : List α) : (l.flatMap enc).length = l.length * k := by
 induction l with
 | nil => simp
 | cons a l ih => rw [List.flatMap_cons, List.length_append, ih, hk, List.length_cons, Nat.add_mul, Nat.one_mul, Nat.add_comm]
theorem flat_at (enc : α → List Value) (k : Nat) (hk : ∀ x, (enc x).length = k) (l : List α) (t : Nat) (h : t < l.length * k) : (l.flatMap enc)[t]? = some (enc l[t / k]!)[t % k]! := by
 have k0 : 0 < k := by
  rcases Nat.eq_zero_or_pos k with h0 | h0
  ·subst h0; simp at h
  ·exact h0
 induction l generalizing t with
 | nil => simp at h
 | cons a l ih =>
  rw [List.flatMap_cons]
  by_cases ht : t < k
  ·rw [List.getElem?_append_left (by rw [hk]; exact ht), Nat.div_eq_of_lt ht, Nat.mod_eq_of_lt ht]
   have : t < (enc a).length := by rw [hk]; exact ht
   simp [List.getElem?_eq_getElem this, List.getElem!_eq_getElem?_getD]
  ·obtain ⟨u, rfl⟩ : ∃ u, t = u + k := ⟨t - k, by omega⟩
   rw [List.getElem?_append_right (by rw [hk]; omega), hk, Nat.add_sub_cancel, ih u (by rw [List.length_cons, Nat.add_mul] at h; omega)]
   rw [Nat.add_div_right _ k0, Nat.add_mod_right]
   simp [List.getElem!_eq_getElem?_getD]
theorem flatK_toList (enc : α → List Value) (k : Nat) (hk : ∀ x, (enc x).length = k) (d : Array α) : (flatK enc k d).toList = d.toList.flatMap enc := by
 apply List.ext_getElem?
 intro t
 by_cases h : t < d.size * k
 ·rw [flat_at enc k hk d.toList t (by simpa using h)]
  have h1 := get_flatK enc k d t h
  have h2 : t < (flatK enc k d).size := by rw [size_flatK]; exact h
  rw [Array.getElem?_toList, getElem?_pos _ t h2]
  rw [getElem!_pos _ t h2] at h1
  rw [h1]
  congr 2
  simp [List.getElem!_eq_getElem?_getD, Array.getElem!_eq_getD, Array.getD_eq_getD_getElem?]
 ·rw [List.getElem?_eq_none (l := (flatK enc k d).toList) (by simp; omega), List.getElem?_eq_none (by rw [flat_len enc k hk]; simpa using h)]
theorem reps_flat {R : α → List Value → Prop} (enc : α → List Value) (k : Nat) (k0 : 0 < k) (hk : ∀ x, (enc x).length = k) (hR : ∀ x c, R x c → c = enc x) {xs : List α} {inner : List Value} (h : Reps R k xs inner) : inner = xs.flatMap enc := by
 apply List.ext_getElem?
 intro t
 by_cases ht : t < xs.length * k
 ·rw [flat_at enc k hk xs t ht]
  have hj : t / k < xs.length := (Nat.div_lt_iff_lt_mul k0).2 ht
  have h2 := hR _ _ (h.2 (t / k) xs[t / k] (List.getElem?_eq_getElem hj))
  have hm : t % k < k := Nat.mod_lt _ k0
  have h3 : ((inner.drop (t / k * k)).take k)[t % k]? = inner[t]? := by
   rw [List.getElem?_take_of_lt hm, List.getElem?_drop]
   congr 1
   rw [Nat.mul_comm]; exact Nat.div_add_mod t k
  rw [← h3, h2]
  have : t % k < (enc xs[t / k]).length := by rw [hk]; exact hm
  simp [List.getElem!_eq_getElem?_getD, List.getElem?_eq_getElem hj, List.getElem?_eq_getElem this]
 ·rw [List.getElem?_eq_none (by rw [h.1]; omega), List.getElem?_eq_none (by rw [flat_len enc k hk]; omega)]
theorem flat_reps {R : α → List Value → Prop} (enc : α → List Value) (k : Nat) (k0 : 0 < k) (hk : ∀ x, (enc x).length = k) (hR : ∀ x, R x (enc x)) (xs : List α) : Reps R k xs (xs.flatMap enc) := by
 refine ⟨flat_len enc k hk xs, fun j p hj => ?_⟩
 have hj' := (List.getElem?_eq_some_iff.1 hj)
 obtain ⟨hl, rfl⟩ := hj'
 have e : ((xs.flatMap enc).drop (j * k)).take k = enc xs[j] := by
  apply List.ext_getElem?
  intro i
  by_cases hi : i < k
  ·rw [List.getElem?_take_of_lt hi, List.getElem?_drop]
   have hb : j * k + i < xs.length * k := by
    have := Nat.mul_le_mul_right k (show j + 1 ≤ xs.length from hl)
    rw [Nat.add_mul, Nat.one_mul] at this
    omega
   rw [flat_at enc k hk xs _ hb]
   have e1 : (j * k + i) / k = j := (blk_iff k j _ k0).1 ⟨by omega, by omega⟩
   have e2 : (j * k + i) % k = i := by rw [Nat.mod_eq_sub_div_mul, e1]; omega
   rw [e1, e2]
   have : i < (enc xs[j]).length := by rw [hk]; exact hi
   simp [List.getElem!_eq_getElem?_getD, List.getElem?_eq_getElem hl, List.getElem?_eq_getElem this]
  ·rw [List.getElem?_take_eq_none (by omega), List.getElem?_eq_none (by rw [hk]; omega)]
 rw [e]
 exact hR _
theorem holdsK_of_block (enc : α → List Value) (k : Nat) (hk : ∀ x, (enc x).length = k) {w : World} {g : Nat} {cur : Array Value} {e : TypeId} {xs : List α} (hb : w.heap[g]? = some (.cells cur e (0, 0))) (ht : cur.toList.take (xs.length * k) = xs.flatMap enc) : HoldsK enc k w g 0 xs.toArray := by
 intro j hj
 have hj' : j < xs.length * k := by simpa using hj
 refine ⟨?_, by simp [World.frozen?, hb]⟩
 have h1 : (cur.toList.take (xs.length * k))[j]? = (xs.flatMap enc)[j]? := by rw [ht]
 rw [List.getElem?_take_of_lt hj', flat_at enc k hk xs j hj'] at h1
 simp only [World.cell?, hb, Nat.zero_add]
 simp only [Option.isSome_none, Bool.false_eq_true, if_false]
 rw [← Array.getElem?_toList, h1, get_flatK enc k _ j (by simpa using hj')]
 simp
theorem heap_sortedK (enc : α → List Value) (k : Nat) {w : World} {g n : Nat} {os : Array Obj} {cur : Array Value} {e : TypeId} {fr : Nat × Nat} (d : Array α) (hb : w.heap[g]? = some (.cells cur e fr)) :
  (sortWorldK enc k w g 0 n d os).heap[g]? = some (.cells (putCells id 0 (flatK enc k d) cur) e fr) := by
 have hg : g < w.heap.size := (Array.getElem?_eq_some_iff.1 hb).1
 unfold sortWorldK putRowK
 rw [heap_grow_old _ _ (by simpa using hg)]
 simp [putRow, mapBlock, Sort.ahead, Array.getElem?_modify, hb, onCells]
theorem grownBy_sortedK (enc : α → List Value) (k : Nat) {w : World} {g n : Nat} {os : Array Obj} (d : Array α) : w.grownBy (sortWorldK enc k w g 0 n d os) (some g) := by
 unfold sortWorldK putRowK
 refine ⟨rfl, rfl, rfl, by simp, fun j hk hne => ?_⟩
 rw [heap_grow_old _ _ (by simpa using hk)]
 have : g ≠ j := fun e => hne (by rw [e])
 simp [putRow, mapBlock, Sort.ahead, Array.getElem?_modify, this]
theorem take_putCellsK (cur F : Array Value) (h : F.size ≤ cur.size) : (putCells id 0 F cur).toList.take F.size = F.toList := by
 apply List.ext_getElem?
 intro j
 by_cases hj : j < F.size
 ·rw [List.getElem?_take_of_lt hj, Array.getElem?_toList]
  simp [putCells, hj, show j < cur.size by omega]
 ·rw [List.getElem?_take_eq_none (by omega), List.getElem?_eq_none (by simp; omega)]
/-- Behind the sort the same slice owns the sorted elements. -/
theorem ownsRow_sortedK (enc : α → List Value) (k : Nat) (hk : ∀ x, (enc x).length = k) {w : World} {base g cap n : Nat} {e : TypeId} {os : Array Obj} {cur : Array Value} {xs ys : List α} (hl : ys.length = xs.length) (hbase : base ≤ g) (hb : w.heap[g]? = some (.cells cur e (0, 0)))
  (h1 : xs.length ≤ cap) (h2 : cap ≤ maxLen) (h3 : cur.size = cap * k) :
  (sortWorldK enc k w g 0 n ys.toArray os).ownsRow base e k (.slice (some ⟨g, 0, none⟩) ys.length cap) ys.length (ys.flatMap enc) := by
 refine ⟨flat_len enc k hk ys, .inr ⟨g, cap, _, rfl, hbase, heap_sortedK enc k _ hb, by omega, h2, by simp [putCells, h3], ?_⟩⟩
 have hs : (flatK enc k ys.toArray).size = ys.length * k := by simp
 have hle : (flatK enc k ys.toArray).size ≤ cur.size := by
  rw [hs, h3, hl]; exact Nat.mul_le_mul_right k h1
 have := take_putCellsK cur (flatK enc k ys.toArray) hle
 rw [hs] at this
 rw [this, flatK_toList enc k hk]
/-! How a world has grown: draws and new blocks alone. -/
def Grew (w w' : World) : Prop := ∃ q os, w' = grow (w.drewN q) os
theorem Grew.refl (w : World) : Grew w w := ⟨0, #[], by simp; rfl⟩
theorem Grew.drewN {w w' : World} (h : Grew w w') (n : Nat) : Grew w (w'.drewN n) := by
 obtain ⟨q, os, rfl⟩ := h
 exact ⟨q + n, os, by show grow ((w.drewN q).drewN n) os = _; rw [World.drewN_drewN]⟩
theorem Grew.drew {w w' : World} (h : Grew w w') : Grew w w'.drew := h.drewN 1
theorem Grew.alloc {w w' : World} (h : Grew w w') (o : Obj) : Grew w (w'.alloc o) := by
 obtain ⟨q, os, rfl⟩ := h
 exact ⟨q, os ++ #[o], by rw [alloc_eq_grow, grow_grow]⟩
theorem Grew.of_alloc {w w' w1 : World} (h : Grew w w') (e : ∃ o, w1 = w'.alloc o) : Grew w w1 := by
 obtain ⟨o, rfl⟩ := e
 exact h.alloc o
theorem Grew.trans {w w' w1 : World} (h : Grew w w') (h' : Grew w' w1) : Grew w w1 := by
 obtain ⟨q, os, rfl⟩ := h
 obtain ⟨q', os', rfl⟩ := h'
 exact ⟨q + q', os ++ os', by show grow (grow ((w.drewN q).drewN q') os) os' = _; rw [grow_grow, World.drewN_drewN]⟩
section
variable {P : Program} {ops : Array Oper} {rest : List Oper} {o : Oper} {a : Act} {Q : Exit → Act → World → Prop} {Kc : Act → World → Prop}
theorem box_event {W : World} (hgd : o.guard = none) {N : Tmp} (_hd : o.dst = some N) {cs : Array Value} {t : TypeId}
  (hrun : (execOp a.eval o).run P W = .ok (.value (.pointer (some ⟨W.heap.size, 0, none⟩))) (W.alloc (.cells cs t (0, 0))))
  (h : ∀ g, g = W.heap.size → ∀ w1, w1.heap[g]? = some (.cells cs t (0, 0)) → Below W.heap.size W w1 → (∃ o, w1 = W.alloc o) → wpList P ops Q rest (a.put o.dst (.pointer (some ⟨g, 0, none⟩))) w1) : wpList P ops Q (o :: rest) a W :=
 Kd.event_run hgd hrun (h _ rfl _ (blk_new W _) (below_alloc (Below.refl _ _) _) ⟨_, rfl⟩)
theorem R_lit_step {α : Type} (d : Kd α) {w0 W : World} (base e : Nat) (hw : Region.wanted o (yielded ops a.tmps) = true) {N : Tmp} (_hd : o.dst = some N) {xs : List α} {inner : List Value} {ok okp : Nat → Prop}
  (hrun : (execOp a.eval o).run P W = .ok (.value (.slice (some ⟨W.heap.size, 0, none⟩) xs.length xs.length)) (W.alloc (.cells inner.toArray e)))
  (hrep : Reps (d.M W base okp) d.sz xs inner) (hok : ∀ k, okp k → ok k) (hfresh : ok W.heap.size) (HB : Below base w0 W) (hbase : base ≤ W.heap.size) (hm : xs.length ≤ 9223372036854775807)
  (h : ∀ v1 w1, d.R e w1 base ok v1 xs → Below base w0 w1 → W.grownBy w1 none → (∃ b, v1.ownBlock = some b ∧ W.heap.size ≤ b) → (∃ o, w1 = W.alloc o) → Kc (a.put o.dst v1) w1) : if Region.wanted o (yielded ops a.tmps) = true then Oper.wp P o a W Kc Q else Kc (a.put o.dst undef) W := by
 refine event_step hw hrun (h _ _ ⟨fun k hk => ?_, inner, ?_, ?_⟩ (HB.alloc hbase _) (World.grownBy_alloc W _ none) ⟨W.heap.size, by simp [Value.ownBlock], Nat.le_refl _⟩ ⟨_, rfl⟩)
 ·have : W.heap.size = k := by simpa [Value.ownBlock] using hk
  subst this
  exact hfresh
 ·have h2 := World.ownsRow_lit (base := base) (e := e) (size := d.sz) W inner.toArray xs.length hbase (by simpa [maxLen] using hm) (by simpa using hrep.1)
  simpa using h2
 ·refine hrep.imp_ (fun p c hp => d.M_mono (fun k hk => ⟨hok k hk.1, fun he => ?_⟩) (Kd.M_below (d.M_bound hp) (below_alloc (Below.refl _ _) _)))
  have h3 : k = W.heap.size := by simpa [Value.ownBlock] using he
  have := hk.2.2.1
  omega
end
end Go.Proofs.YtndennmpnomjnaaDoor.SortK

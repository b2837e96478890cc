/- The map of groups.Groups beside the groups: it holds, of each key, the first place among the groups where the key stands; what an append, a store and a new key do to it. -/
import Derived.Test.YtndennmpnomjnaaDoorAx0
import Derived.Maps.Own
import Derived.Maps.OwnOps
import Derived.Maps.OwnSet
import Derived.Maps.Views
import Derived.StringKeys
set_option linter.all false
set_option linter.unusedVariables false
namespace Go.Proofs.YtndennmpnomjnaaDoor.A
open Go.RowKit Go.Maps Go.Proofs.YtndennmpnomjnaaDoorW.PrintWords
/-- The first place of a key; behind the last one where there is none. -/
def kfind (ks : List ByteArray) (s : ByteArray) : Nat := ks.findIdx (fun k => decide (k = s))
theorem lawK : Keyed Tryd.prog 9 := string_keyed Tryd.underlying9
/-- The map at block B holds the places of the keys ks. -/
def MapIn (w : World) (B : Nat) (ks : List ByteArray) : Prop :=
 ∃ D : DataW Unit, w.ownsMap Tryd.prog 9 (plainElem Tryd.prog 3) B ks.length D ∧ (∀ s : ByteArray, Maps.has D (.string s.data.toList) = decide (kfind ks s < ks.length)) ∧
  (∀ s : ByteArray, kfind ks s < ks.length → D.atKey (.string s.data.toList) (.lit (.int .i64 0)) = .lit (.int .i64 (kfind ks s : Nat)))
theorem MapIn.made (w : World) : MapIn (w.alloc (.map #[] 0)) w.heap.size [] :=
 ⟨.map [], World.ownsMap_made w Tryd.prog 9 _, fun s => by simp [kfind, Maps.has], fun s h => by simp [kfind] at h⟩
theorem MapIn.kept {w w' : World} {B : Nat} {ks : List ByteArray} {row : Option Nat} (h : MapIn w B ks) (hg : w.grownBy w' row) (hne : some B ≠ row) : MapIn w' B ks := by
 obtain ⟨D, h1, h2⟩ := h
 exact ⟨D, h1.kept hg hne, h2⟩
theorem MapIn.alloc {w : World} {B : Nat} {ks : List ByteArray} (h : MapIn w B ks) (o : Obj) : MapIn (w.alloc o) B ks := h.kept (World.grownBy_alloc w o none) (by simp)
theorem MapIn.block {w : World} {B : Nat} {ks : List ByteArray} (h : MapIn w B ks) : ∃ es c, w.heap[B]? = some (.map es c) := by
 obtain ⟨D, h1, h2⟩ := h
 obtain ⟨es, c, hb, _⟩ := h1
 exact ⟨es, c, hb⟩
theorem MapIn.ne {w : World} {B : Nat} {ks : List ByteArray} (h : MapIn w B ks) {g : Nat} {e : TypeId} {f : Nat × Nat} (hc : ∃ cells, w.heap[g]? = some (.cells cells e f)) : g ≠ B := by
 rintro rfl
 obtain ⟨es, c, hb⟩ := h.block
 obtain ⟨cells, hc⟩ := hc
 rw [hb] at hc
 cases hc
theorem MapIn.kept2 {w w' : World} {B : Nat} {ks : List ByteArray} {v : Value} {e : TypeId} {f : Nat × Nat} (h : MapIn w B ks) (hg : w.grownBy w' v.ownBlock) (hty : ∀ k, v.ownBlock = some k → ∃ cells, w.heap[k]? = some (.cells cells e f)) : MapIn w' B ks :=
 h.kept hg (fun e => h.ne (hty B e.symm) rfl)
theorem kfind_snoc (ks : List ByteArray) (k s : ByteArray) (hk : ¬ kfind ks k < ks.length) : kfind (ks ++ [k]) s = if kfind ks s < ks.length then kfind ks s else if k = s then ks.length else ks.length + 1 := by
 unfold kfind at *
 rw [List.findIdx_append]
 by_cases h : List.findIdx (fun k => decide (k = s)) ks < ks.length
 ·rw [if_pos h, if_pos h]
 ·rw [if_neg h, if_neg h]
  by_cases e : k = s
  ·simp [e, List.findIdx_cons]
  ·simp [e, List.findIdx_cons, Nat.add_comm]
theorem kfind_le (ks : List ByteArray) (s : ByteArray) : kfind ks s ≤ ks.length := List.findIdx_le_length
theorem lit_ne {s k : ByteArray} (h : s ≠ k) : (Lit.string s.data.toList) ≠ .string k.data.toList := by
 intro e
 injection e with e
 apply h
 cases s; cases k
 simp at e
 simpa using e
/-- A new key. -/
theorem MapIn.put {w w' : World} {B : Nat} {ks : List ByteArray} {k : ByteArray} {D : DataW Unit} (hk : ¬ kfind ks k < ks.length)
  (hown : w.ownsMap Tryd.prog 9 (plainElem Tryd.prog 3) B ks.length D) (h1 : ∀ s : ByteArray, Maps.has D (.string s.data.toList) = decide (kfind ks s < ks.length)) (h2 : ∀ s : ByteArray, kfind ks s < ks.length → D.atKey (.string s.data.toList) (.lit (.int .i64 0)) = .lit (.int .i64 (kfind ks s : Nat)))
  (hw : w'.ownsMap Tryd.prog 9 (plainElem Tryd.prog 3) B (ks.length + 1) (D.put (.string k.data.toList) (.lit (.int .i64 (ks.length : Nat))))) : MapIn w' B (ks ++ [k]) := by
 have hm := hown.isMap
 refine ⟨_, by rw [List.length_append]; exact hw, fun s => ?_, fun s hs => ?_⟩
 ·by_cases e : s = k
  ·subst e
   rw [Maps.has_put_same hm (by trivial), kfind_snoc _ _ _ hk, if_neg hk, if_pos rfl]
   simp
  ·rw [Maps.has_put_other (lit_ne e), h1 s, kfind_snoc _ _ _ hk]
   have := kfind_le ks s
   by_cases h : kfind ks s < ks.length
   ·rw [if_pos h]; simp [h]; omega
   ·rw [if_neg h, if_neg (fun e' => e e'.symm)]; simp [h]
 ·by_cases e : s = k
  ·subst e
   rw [Maps.atKey_put_same hm (by trivial), kfind_snoc _ _ _ hk, if_neg hk, if_pos rfl]
  ·rw [Maps.atKey_put_other (lit_ne e)]
   rw [kfind_snoc _ _ _ hk] at hs ⊢
   by_cases h : kfind ks s < ks.length
   ·rw [if_pos h]; exact h2 s h
   ·rw [if_neg h, if_neg (fun e' => e e'.symm)] at hs
    simp at hs
/-- The groups beside a map that turns. -/
theorem S_map {α : Type} {d : Kd α} {e base B : Nat} {w w' : World} {v : Value} {xs : List α} {ks : List ByteArray} (h : Kd.S d e w base (fun _ => True) v xs) (hm : MapIn w B ks) (hg : w.grownBy w' (some B)) : Kd.S d e w' base (fun _ => True) v xs := by
 obtain ⟨es, c, hb⟩ := hm.block
 refine Kd.S_mono (Kd.S_move (Kd.S_bound h) (fun k hk => ?_)) (fun _ _ => trivial)
 obtain ⟨_, _, hlt, q, _, cells, hc⟩ := hk
 refine hg.block k hlt (fun e => ?_)
 cases e
 rw [hb] at hc
 cases hc
/-- The first place of a key among the groups. -/
def gfind (gs : List S35) (s : ByteArray) : Int := (kfind (gs.map (·.f0)) s : Nat)
theorem keys_set (gs : List S35) (i : Int) (m : List Int) (hi : i.toNat < gs.length) : (gs.set i.toNat ⟨(rd_T35 gs i).f0, m⟩).map (·.f0) = gs.map (·.f0) := by
 unfold rd_T35
 rw [List.map_set]
 apply List.ext_getElem
 ·simp
 ·intro j h1 h2
  rw [List.getElem_set]
  split
  ·rename_i e; subst e; simp [hi]
  ·rfl
end Go.Proofs.YtndennmpnomjnaaDoor.A

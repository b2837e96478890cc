/- groups.Key: plain twin and contract. -/
import Derived.Test.YtndennmpnomjnaaDoorPt
import Derived.Test.YtndennmpnomjnaaDoorDf
import Derived.Deep.RegionHeld3
set_option linter.all false
set_option linter.unusedVariables false
set_option maxRecDepth 100000
namespace Go.Proofs.YtndennmpnomjnaaDoor.A
open Go.RowKit Go.Proofs.YtndennmpnomjnaaDoorW.PrintWords Go.Proofs.YtndennmpnomjnaaDoorW.PrintLast Go.Proofs.YtndennmpnomjnaaDoorW.PrintMore
set_option maxHeartbeats 8000000
/-- The text of one difference. -/
def partX (l : List S45) (x : S57) : ByteArray := partT (rd_T45 l x.f0).f0 (rd_T45 l x.f1).f0 x.f2 (rd_T45 l x.f0).f1.f1 (rd_T45 l x.f0).f1.f2 (rd_T45 l x.f1).f1.f1 (rd_T45 l x.f1).f1.f2
def passT (pass : Int) : ByteArray := ⟨#[112, 97, 115, 115, 32]⟩ ++ itoaB pass
/-- The texts so far, and one more if it is new. -/
def keyStep (l : List S45) (ks : List ByteArray) (x : S57) : List ByteArray := if Lib.containsS (ks.drop 1) (partX l x) = true then ks else ks ++ [partX l x]
def keyList (l : List S45) (pass : Int) (ds : List S57) : List ByteArray := ds.foldl (keyStep l) [passT pass]
def keyB (ks : List ByteArray) : ByteArray := ⟨(Lib.join (ks.map (·.data.toList)) [59, 32]).toArray⟩
/-- What is asked of outcomes and their differences. -/
def KOk (l : List S45) (ds : List S57) : Prop :=
 DOk ds ∧ ds.length ≤ 100000 ∧ (∀ o ∈ l, o.f0.size ≤ 1010 ∧ -9223372036854775808 ≤ o.f1.f2 ∧ o.f1.f2 ≤ 9223372036854775807) ∧ (∀ x ∈ ds, 0 ≤ x.f0 ∧ x.f0 < l.length ∧ 0 ≤ x.f1 ∧ x.f1 < l.length ∧ (x.f2 = 1 ∨ x.f2 = 2 ∨ x.f2 = 3 ∨ x.f2 = 4))
instance (l : List S45) (ds : List S57) : Decidable (KOk l ds) := by unfold KOk DOk; infer_instance
def groups_Key.f (k : Nat) (l0 : List S45) (pass : Int) : Option (ByteArray × Int) :=
 (observe_Differ.f k l0).bind fun r => if KOk l0 r.1 then (if r.2 = 0 then (if oddAny l0 = true ∨ pass < -1 ∨ pass > 9 then some (⟨#[]⟩, 2) else some (keyB (keyList l0 pass (sortD r.1)), 0)) else some (⟨#[]⟩, r.2)) else none
theorem groups_Key.mono : ∀ a0 a1 k, LeO (groups_Key.f k a0 a1) (groups_Key.f (k + 1) a0 a1) := by
 intro a0 a1 k
 unfold groups_Key.f
 exact LeO.bind (observe_Differ.mono _ _) (fun _ => LeO.refl _)
theorem partT_size (a b : ByteArray) (k e1 c1 e2 c2 : Int) (ha : a.size ≤ 1010) (hb : b.size ≤ 1010) (h10 : -9223372036854775808 ≤ c1) (h11 : c1 ≤ 9223372036854775807) (h20 : -9223372036854775808 ≤ c2) (h21 : c2 ≤ 9223372036854775807) : (partT a b k e1 c1 e2 c2).size ≤ 6000 := by
 have h1 := bareB_size a
 have h2 := bareB_size b
 have hh : (headT a b).size ≤ 4048 := by
  unfold headT
  rw [bd_add, bd_add, bd_add]
  show _ + 2 + _ + 2 ≤ _
  omega
 have he1 := endT_size e1 c1 h10 h11
 have he2 := endT_size e2 c2 h20 h21
 unfold partT
 split
 ·rw [bd_add]; show _ + 3 ≤ _; omega
 split
 ·rw [bd_add]; show _ + 4 ≤ _; omega
 ·rw [bd_add, bd_add, bd_add, bd_add]
  split
  ·show _ + 4 + _ + 3 + _ ≤ _; omega
  ·show _ + 5 + _ + 3 + _ ≤ _; omega
theorem strs_plain {w : World} {A : Option Addr} {l : List ByteArray} (h : Kd.C Kd.string w A l.length l) (hp : 0 < l.length) : ∃ b off, A = some ⟨b, off, none⟩ ∧ ∀ j, j < l.length → w.cell? ⟨b, off + j, none⟩ = some (.string (l.getD j ByteArray.empty)) := by
 obtain ⟨ad, e, h0⟩ := Kd.at_string h 0 (by omega) (by omega)
 obtain ⟨b, off, z⟩ := ad
 cases z with
 | some z =>
  simp [World.cell?, Addr.add] at h0
  split at h0 <;> cases h0
 | none =>
  refine ⟨b, off, e, fun j hj => ?_⟩
  obtain ⟨ad, e', h1⟩ := Kd.at_string h (j : Int) (by omega) (by omega)
  obtain rfl : (⟨b, off, none⟩ : Addr) = ad := by rw [e] at e'; exact Option.some.inj e'
  by_cases hz : j = 0
  ·subst hz; simpa [Addr.add, rdOf] using h1
  ·simpa [Addr.add, rdOf, hz] using h1
/-- All texts are short. -/
def Short (ks : List ByteArray) : Prop := ∀ s ∈ ks, s.size ≤ 6000
theorem Short.step {l : List S45} {ks : List ByteArray} {x : S57} (h : Short ks) (hx : (partX l x).size ≤ 6000) : Short (keyStep l ks x) := by
 unfold keyStep
 split
 ·exact h
 ·intro s hs
  rcases List.mem_append.1 hs with hs | hs
  ·exact h s hs
  ·simp at hs; rw [hs]; exact hx
/-- A row of one string made by a literal. -/
theorem R_one (W : World) (base : Nat) (hb : base ≤ W.heap.size) (s : ByteArray) : Kd.R Kd.string 9 (W.alloc (.cells #[.string s] 9)) base (fun _ => True) (.slice (some ⟨W.heap.size, 0, none⟩) 1 1) [s] := by
 refine ⟨fun _ _ => trivial, [.string s], ?_, ?_⟩
 ·refine ⟨rfl, .inr ⟨W.heap.size, 1, #[.string s], rfl, hb, Array.getElem?_push_size, Nat.le_refl _, by decide, rfl, rfl⟩⟩
 ·refine ⟨rfl, fun j p hj => ?_⟩
  cases j with
  | zero => simp at hj; subst hj; exact rfl
  | succ j => simp at hj
theorem sortD_mem (l : List S57) (x : S57) : x ∈ sortD l ↔ x ∈ l := by unfold sortD; exact List.mem_mergeSort
theorem sortD_len (l : List S57) : (sortD l).length = l.length := by simp [sortD]
theorem groups_Key.calls (k : Nat) (A0 : Option Addr) (c0 : Nat) (l0 : List S45) (a1 : Int) (r1 : ByteArray) (r2 : Int) (w : World) (hr0 : Kd.C k45 w A0 l0.length l0) (hc0 : l0.length ≤ c0) (h : groups_Key.f k l0 a1 = some (r1, r2)) (hE : Env w := by exact Env.below HEnv_.out (by repeat (first | (with_reducible first | exact HB.out | apply below_alloc | apply pw_below_drewN | apply below_drew1 | refine below_set ?_ (Aside0.out (by assumption))) | exact HB.out)) HEnv_.out.big) :
  Calls Tryd.prog 10 #[.slice A0 l0.length c0, .int .i64 a1] w fun e w' => e = .returned (.tuple #[.string r1, .int .i64 r2]) ∧ Below w.heap.size w w' := by
 unfold groups_Key.f at h
 obtain ⟨⟨ds, er⟩, hd, h⟩ := Option.bind_eq_some_iff.mp h
 simp only at h
 by_cases hk : KOk l0 ds
 ·rw [if_pos hk] at h
  obtain ⟨hdok, hdl, hwl, hdx⟩ := hk
  have HD := Aside0.mk (observe_Differ.calls k A0 c0 l0 ds er w hr0 hc0 hd hdok)
  have HR0 := Aside0.mk hr0
  have HE := Aside0.mk hE
  have HWL := Aside0.mk hwl
  have HDX := Aside0.mk hdx
  have HCF := Aside0.mk (fun (w' : World) (hb : Below w.heap.size w w') => containsFunc_calls A0 c0 l0 w' (Kd.C_below hr0 hb) (fun o ho => Nat.le_trans (hwl o ho).1 (by decide)) (hE.below hb hE.big))
  clear hd hr0 hdok
  by_cases he : er = 0
  ·subst he
   rw [if_pos rfl] at h
   by_cases ho : oddAny l0 = true ∨ a1 < -1 ∨ a1 > 9
   ·rw [if_pos ho] at h
    simp only [Option.some.injEq, Prod.mk.injEq] at h
    obtain ⟨rfl, rfl⟩ := h
    by_cases o1 : oddAny l0 = true
    ·rw [o1] at HCF
     go_enter Tryd.func10, Tryd.ntmps10
     go_wp2_with (first | (go_at_call 19; refine HD.out.mono ?_; rintro e w2 ⟨v0, rfl, hR, hb⟩; (have HBp := Aside0.mk hb); clear hb hR) | (go_at_call 20; refine (HCF.out _ (by first | ((repeat (first | (with_reducible exact HBp.out) | (with_reducible exact Below.refl _ _) | (with_reducible apply below_alloc) | (with_reducible apply pw_below_drewN) | (with_reducible apply below_drew1))); done) | exact HBp.out)).mono ?_; rintro e w3 ⟨rfl, hb⟩; (have HB3 := Aside0.mk (below_step HBp.out hb)); clear hb))
     go_ret2
     exact ⟨rfl, HB3.out⟩
    ·have o1' : oddAny l0 = false := by simpa using o1
     rw [o1'] at HCF
     by_cases o2 : a1 < -1
     ·have d2 := decide_eq_true o2
      go_enter Tryd.func10, Tryd.ntmps10
      go_wp2_with (first | (go_at_call 19; refine HD.out.mono ?_; rintro e w2 ⟨v0, rfl, hR, hb⟩; (have HBp := Aside0.mk hb); clear hb hR) | (go_at_call 20; refine (HCF.out _ (by first | ((repeat (first | (with_reducible exact HBp.out) | (with_reducible exact Below.refl _ _) | (with_reducible apply below_alloc) | (with_reducible apply pw_below_drewN) | (with_reducible apply below_drew1))); done) | exact HBp.out)).mono ?_; rintro e w3 ⟨rfl, hb⟩; (have HB3 := Aside0.mk (below_step HBp.out hb)); clear hb))
      go_ret2
      exact ⟨rfl, HB3.out⟩
     ·have o3 : 9 < a1 := by
       rcases ho with h1 | h1 | h1
       ·exact absurd h1 o1
       ·exact absurd h1 o2
       ·exact h1
      have d2 := decide_eq_false o2
      have d3 := decide_eq_true o3
      go_enter Tryd.func10, Tryd.ntmps10
      go_wp2_with (first | (go_at_call 19; refine HD.out.mono ?_; rintro e w2 ⟨v0, rfl, hR, hb⟩; (have HBp := Aside0.mk hb); clear hb hR) | (go_at_call 20; refine (HCF.out _ (by first | ((repeat (first | (with_reducible exact HBp.out) | (with_reducible exact Below.refl _ _) | (with_reducible apply below_alloc) | (with_reducible apply pw_below_drewN) | (with_reducible apply below_drew1))); done) | exact HBp.out)).mono ?_; rintro e w3 ⟨rfl, hb⟩; (have HB3 := Aside0.mk (below_step HBp.out hb)); clear hb))
      go_ret2
      exact ⟨rfl, HB3.out⟩
   ·rw [if_neg ho] at h
    simp only [Option.some.injEq, Prod.mk.injEq] at h
    obtain ⟨rfl, rfl⟩ := h
    have o1 : oddAny l0 = false := by
     cases hq : oddAny l0 with
     | true => exact absurd (Or.inl hq) ho
     | false => rfl
    have o2 : ¬ a1 < -1 := fun h1 => ho (Or.inr (Or.inl h1))
    have o3 : ¬ 9 < a1 := fun h1 => ho (Or.inr (Or.inr h1))
    rw [o1] at HCF
    have d2 := decide_eq_false o2
    have d3 := decide_eq_false o3
    have HIT := Aside0.mk (fun (w' : World) (hb : Below w.heap.size w w') => itoa_calls a1 (by omega) (by omega) w' (hE.below hb hE.big))
    have hits := itoaB_size a1 (by omega) (by omega)
    obtain ⟨IT, hIT⟩ : ∃ s, s = itoaB a1 := ⟨_, rfl⟩
    rw [← hIT] at hits
    simp only [← hIT] at HIT
    have z1 : (9223372036854775807 < 5 + IT.size) = False := eq_false (by omega)
    have hpt : passT a1 = ⟨#[112, 97, 115, 115, 32]⟩ ++ IT := by rw [hIT]; rfl
    have HPT := Aside0.mk hpt
    have HITS := Aside0.mk hits
    obtain ⟨dl, hdl'⟩ : ∃ d, d = sortD ds := ⟨_, rfl⟩
    have hdlen : dl.length ≤ 100000 := by rw [hdl', sortD_len]; exact hdl
    replace HDX : Aside0 (∀ x ∈ dl, 0 ≤ x.f0 ∧ x.f0 < l0.length ∧ 0 ≤ x.f1 ∧ x.f1 < l0.length ∧ (x.f2 = 1 ∨ x.f2 = 2 ∨ x.f2 = 3 ∨ x.f2 = 4)) := ⟨fun x hx => HDX.out x (by rw [hdl'] at hx; exact (sortD_mem _ _).1 hx)⟩
    rw [← hdl'] at HD ⊢
    clear ho o1 o2 o3 hits hIT hpt hdl hdl' hwl hdx hE hc0
    go_enter Tryd.func10, Tryd.ntmps10
    go_wp2_with (first | (go_at_call 19; refine HD.out.mono ?_; rintro e w2 ⟨v0, rfl, hR, hb⟩; (obtain ⟨Ad, cd, rfl⟩ := Kd.R_slice hR); (have HBp := Aside0.mk hb); (have HRD := Aside0.mk hR); clear hb hR) | (go_at_call 20; refine (HCF.out _ (by first | ((repeat (first | (with_reducible exact HBp.out) | (with_reducible exact Below.refl _ _) | (with_reducible apply below_alloc) | (with_reducible apply pw_below_drewN) | (with_reducible apply below_drew1))); done) | exact HBp.out)).mono ?_; rintro e w3 ⟨rfl, hb⟩; (have HB3 := Aside0.mk (show Below w.heap.size w w3 from below_step HBp.out hb)); (have HRD3 := Aside0.mk (Kd.R_below HRD.out hb)); clear hb HRD HBp) | (go_at_call 24; refine (HIT.out _ (by first | exact HB3.out | exact (by repeat (first | exact HB3.out | apply below_alloc | apply pw_below_drewN | apply below_drew1)))).mono ?_; rintro e w4 ⟨rfl, hb⟩; (have HB4 := Aside0.mk (show Below w.heap.size w w4 from below_step HB3.out hb)); (have HRD4 := Aside0.mk (Kd.R_below HRD3.out hb)); clear hb HRD3 HB3))
    have HRC := Aside0.mk (Kd.R_reads' HRD4.out).2.2
    have HDL := Aside0.mk hdlen
    clear HRD4 hdlen
    go_loopg [9, 38] dl.length (fun kx v9 v38 wr => ∃ (i : Int) (ks : List ByteArray), v38 = .int .i64 i ∧ 0 ≤ i ∧ i ≤ dl.length ∧ dl.length - i.toNat ≤ kx ∧ Aside0 (ks = (dl.take i.toNat).foldl (keyStep l0) [passT a1]) ∧ Aside0 (Kd.R Kd.string 9 wr w4.heap.size (fun _ => True) v9 ks) ∧ Aside0 (Below w4.heap.size w4 wr) ∧ Aside0 (1 ≤ ks.length ∧ ks.length ≤ i.toNat + 1 ∧ Short ks))
    case atStart => exact ⟨0, [passT a1], rfl, by omega, by omega, by omega, ⟨rfl⟩, ⟨by rw [HPT.out]; exact R_one w4 _ (Nat.le_refl _) _⟩, ⟨below_alloc (Below.refl _ _) _⟩, ⟨by simp, by simp, fun s hs => by simp at hs; rw [hs, HPT.out, bd_add]; have := HITS.out; show 5 + _ ≤ 6000; omega⟩⟩
    case round =>
     obtain ⟨i, ks, rfl, hi0, hi1, hkx, HKS, HRK, HB, HSH⟩ := hrel
     by_cases hlt : i < (dl.length : Int)
     ·obtain ⟨ad, rfl, hx0, hx1, hx2, hx3⟩ := at_T57 HRC.out i hi0 hlt
      replace hx0 := (HB.out.cell (World.block_lt_of_cell? w4 _ hx0)).trans hx0
      replace hx1 := (HB.out.cell (World.block_lt_of_cell? w4 _ hx1)).trans hx1
      replace hx2 := (HB.out.cell (World.block_lt_of_cell? w4 _ hx2)).trans hx2
      replace hx3 := (HB.out.cell (World.block_lt_of_cell? w4 _ hx3)).trans hx3
      have hmem : rd_T57 dl i ∈ dl := by
       unfold rd_T57
       rw [List.getD_eq_getElem?_getD, List.getElem?_eq_getElem (show i.toNat < dl.length by omega)]
       exact List.getElem_mem _
      obtain ⟨x, hxd⟩ : ∃ x, x = rd_T57 dl i := ⟨_, rfl⟩
      rw [← hxd] at hx0 hx1 hx2 hx3 hmem
      have HXD := Aside0.mk hxd
      clear hxd
      obtain ⟨ha0, ha1, hb0, hb1, hkd⟩ := HDX.out x hmem
      have HBw := Aside0.mk (show Below w.heap.size w wr from below_step HB4.out HB.out)
      obtain ⟨al, A1, k1, eA, ya0, ya1, ya2, ya3, _, _⟩ := at_T45 HR0.out x.f0 ha0 ha1
      subst eA
      obtain ⟨al2, A2, k2, eB, yb0, yb1, yb2, yb3, _, _⟩ := at_T45 HR0.out x.f1 hb0 hb1
      obtain rfl : al = al2 := Option.some.inj eB
      clear eB
      have HMEM := Aside0.mk hmem
      obtain ⟨Wp, hWp⟩ : ∃ Wp, Wp = wr.alloc (.cells #[.int .i64 x.f0, .int .i64 x.f1, .int .i64 x.f2, .int .i64 x.f3] 57) := ⟨_, rfl⟩
      have hszp : Wp.heap.size = wr.heap.size + 1 := by rw [hWp]; exact Array.size_push ..
      have hbp : Wp.heap[wr.heap.size]? = some (.cells #[.int .i64 x.f0, .int .i64 x.f1, .int .i64 x.f2, .int .i64 x.f3] 57 (0, 0)) := by rw [hWp]; exact Array.getElem?_push_size
      obtain ⟨W2, hW2⟩ : ∃ W2, W2 = Wp.alloc (.cells #[.pointer none, .slice none 0 0] 61) := ⟨_, rfl⟩
      have hB2 : Below wr.heap.size wr W2 := by rw [hW2, hWp]; exact below_alloc (below_alloc (Below.refl _ _) _) _
      have hbd : IsBd (wr.heap.size + 1) ByteArray.empty W2 := by rw [hW2, ← hszp]; exact IsBd.fresh Wp
      have hsz2 : wr.heap.size + 1 ≤ W2.heap.size := by rw [hW2, ← hszp]; simp
      have hb2 : W2.heap[wr.heap.size]? = some (.cells #[.int .i64 x.f0, .int .i64 x.f1, .int .i64 x.f2, .int .i64 x.f3] 57 (0, 0)) := by rw [hW2]; exact blk_alloc hbp _
      have lift : ∀ (a : Addr) (v : Value), w.cell? a = some v → ∀ w', Below (wr.heap.size + 1) W2 w' → w'.cell? a = some v := fun a v hc w' hb => by
       have h1 := (HBw.out.cell (World.block_lt_of_cell? w _ hc)).trans hc
       have h2 := (hB2.cell (World.block_lt_of_cell? wr _ h1)).trans h1
       exact (hb.cell (Nat.lt_succ_of_lt (World.block_lt_of_cell? wr _ h1))).trans h2
      have hkp : ∀ w', Below (wr.heap.size + 1) W2 w' → w'.cell? ⟨wr.heap.size, 0, none⟩ = some (.int .i64 x.f0) ∧ w'.cell? ⟨wr.heap.size, 1, none⟩ = some (.int .i64 x.f1) ∧ w'.cell? ⟨wr.heap.size, 2, none⟩ = some (.int .i64 x.f2) ∧
        w'.cell? (al.add (x.f0.toNat * 4)) = some (.string (rd_T45 l0 x.f0).f0) ∧ w'.cell? ⟨(al.add (x.f0.toNat * 4)).block, (al.add (x.f0.toNat * 4)).off + 1, none⟩ = some (.slice A1 (rd_T45 l0 x.f0).f1.f0.length k1) ∧ w'.cell? ⟨(al.add (x.f0.toNat * 4)).block, (al.add (x.f0.toNat * 4)).off + 2, none⟩ = some (.int .i64 (rd_T45 l0 x.f0).f1.f1) ∧ w'.cell? ⟨(al.add (x.f0.toNat * 4)).block, (al.add (x.f0.toNat * 4)).off + 3, none⟩ = some (.int .i64 (rd_T45 l0 x.f0).f1.f2) ∧
        w'.cell? (al.add (x.f1.toNat * 4)) = some (.string (rd_T45 l0 x.f1).f0) ∧ w'.cell? ⟨(al.add (x.f1.toNat * 4)).block, (al.add (x.f1.toNat * 4)).off + 1, none⟩ = some (.slice A2 (rd_T45 l0 x.f1).f1.f0.length k2) ∧ w'.cell? ⟨(al.add (x.f1.toNat * 4)).block, (al.add (x.f1.toNat * 4)).off + 2, none⟩ = some (.int .i64 (rd_T45 l0 x.f1).f1.f1) ∧ w'.cell? ⟨(al.add (x.f1.toNat * 4)).block, (al.add (x.f1.toNat * 4)).off + 3, none⟩ = some (.int .i64 (rd_T45 l0 x.f1).f1.f2) := fun w' hb => by
       have y1 := (hb.block wr.heap.size (Nat.lt_succ_self _)).trans hb2
       exact ⟨(blk_cell y1 0).trans rfl, (blk_cell y1 1).trans rfl, (blk_cell y1 2).trans rfl, lift _ _ ya0 _ hb, lift _ _ ya1 _ hb, lift _ _ ya2 _ hb, lift _ _ ya3 _ hb, lift _ _ yb0 _ hb, lift _ _ yb1 _ hb, lift _ _ yb2 _ hb, lift _ _ yb3 _ hb⟩
      have memA : rd_T45 l0 x.f0 ∈ l0 := by
       unfold rd_T45
       rw [List.getD_eq_getElem?_getD, List.getElem?_eq_getElem (show x.f0.toNat < l0.length by omega)]
       exact List.getElem_mem _
      have memB : rd_T45 l0 x.f1 ∈ l0 := by
       unfold rd_T45
       rw [List.getD_eq_getElem?_getD, List.getElem?_eq_getElem (show x.f1.toNat < l0.length by omega)]
       exact List.getElem_mem _
      have wA := HWL.out _ memA
      have wB := HWL.out _ memB
      have hEr : Env W2 := (HE.out.below HBw.out HE.out.big).below hB2 (Nat.le_trans HE.out.big HBw.out.size)
      have h6r : 6 ≤ wr.heap.size + 1 := Nat.le_succ_of_le (Nat.le_trans HE.out.big HBw.out.size)
      have hpc : ∀ w', Below W2.heap.size W2 w' → Calls Tryd.prog 25 #[.pointer (some ⟨wr.heap.size + 1, 0, none⟩), .agg #[.string (rd_T45 l0 x.f0).f0, .slice A1 (rd_T45 l0 x.f0).f1.f0.length k1, .int .i64 (rd_T45 l0 x.f0).f1.f1, .int .i64 (rd_T45 l0 x.f0).f1.f2], .agg #[.string (rd_T45 l0 x.f1).f0, .slice A2 (rd_T45 l0 x.f1).f1.f0.length k2, .int .i64 (rd_T45 l0 x.f1).f1.f1, .int .i64 (rd_T45 l0 x.f1).f1.f2], .int .i64 x.f2] w' fun r w5 =>
        r = .returned (.tuple #[]) ∧ IsBd (wr.heap.size + 1) (ByteArray.empty ++ partT (rd_T45 l0 x.f0).f0 (rd_T45 l0 x.f1).f0 x.f2 (rd_T45 l0 x.f0).f1.f1 (rd_T45 l0 x.f0).f1.f2 (rd_T45 l0 x.f1).f1.f1 (rd_T45 l0 x.f1).f1.f2) w5 ∧ Below (wr.heap.size + 1) W2 w5 := fun w' hb =>
       (part_calls (wr.heap.size + 1) ByteArray.empty (rd_T45 l0 x.f0).f0 (rd_T45 l0 x.f1).f0 A1 A2 (rd_T45 l0 x.f0).f1.f0.length k1 (rd_T45 l0 x.f1).f1.f0.length k2 x.f2 (rd_T45 l0 x.f0).f1.f1 (rd_T45 l0 x.f0).f1.f2 (rd_T45 l0 x.f1).f1.f1 (rd_T45 l0 x.f1).f1.f2 w' (hbd.below hb) (hEr.below hb hEr.big) (Nat.le_trans hsz2 hb.size) h6r (by decide) (by omega) (by omega) hkd wA.2.1 wA.2.2 wB.2.1 wB.2.2).mono (fun r w5 h => ⟨h.1, h.2.1, (hb.mono hsz2).trans h.2.2.1⟩)
      have hpx := partT_size (rd_T45 l0 x.f0).f0 (rd_T45 l0 x.f1).f0 x.f2 (rd_T45 l0 x.f0).f1.f1 (rd_T45 l0 x.f0).f1.f2 (rd_T45 l0 x.f1).f1.f1 (rd_T45 l0 x.f1).f1.f2 wA.1 wB.1 wA.2.1 wA.2.2 wB.2.1 wB.2.2
      obtain ⟨tx, htx⟩ : ∃ t, t = partX l0 x := ⟨_, rfl⟩
      have htx' : ByteArray.empty ++ partT (rd_T45 l0 x.f0).f0 (rd_T45 l0 x.f1).f0 x.f2 (rd_T45 l0 x.f0).f1.f1 (rd_T45 l0 x.f0).f1.f2 (rd_T45 l0 x.f1).f1.f1 (rd_T45 l0 x.f1).f1.f2 = tx := by rw [htx, ByteArray.empty_append]; rfl
      simp only [htx'] at hpc
      have HPC := Aside0.mk hpc
      clear hpc
      replace hpx : tx.size ≤ 6000 := by rw [htx]; exact hpx
      -- the row of texts
      obtain ⟨Ak, ck, ek, hck, hkr⟩ := Kd.R_reads HRK.out
      subst ek
      obtain ⟨gk_, ok_, rfl, hkc⟩ := strs_plain hkr (by have := HSH.out.1; omega)
      have hst : ∀ w', IsBd (wr.heap.size + 1) tx w' → Below (wr.heap.size + 1) W2 w' → Calls Tryd.prog 26 #[.pointer (some ⟨wr.heap.size + 1, 0, none⟩)] w' fun e w6 => e = .returned (.string tx) ∧ IsBd (wr.heap.size + 1) tx w6 ∧ Below (wr.heap.size + 1) W2 w6 := fun w' h1 h2 =>
       (str_calls (wr.heap.size + 1) tx w' h1 (Nat.le_trans hsz2 h2.size)).mono (fun e w6 h => ⟨h.1, h.2.1, h2.trans h.2.2.1⟩)
      have hct : ∀ w', Below (wr.heap.size + 1) W2 w' → Calls Tryd.prog 22 #[.slice (some ⟨gk_, ok_ + 1, none⟩) (ks.length - 1) (ck - 1), .string tx] w' fun e w6 => e = .returned (.bool (Lib.containsS (ks.drop 1) tx)) ∧ w6 = w' := fun w' h1 => by
       have hlen : (ks.drop 1).length = ks.length - 1 := by simp
       have h := Tryd.slices_Contains_string gk_ (ok_ + 1) (ks.length - 1) (ck - 1) (ks.drop 1) tx w' (by omega) (by have := hkr.2.1; omega) (fun j hj => by
        have hc := hkc (j + 1) (by omega)
        have e1 : ok_ + 1 + j = ok_ + (j + 1) := by omega
        rw [e1]
        have c1 := (hB2.cell (World.block_lt_of_cell? wr _ hc)).trans hc
        have c2 := (h1.cell (Nat.lt_succ_of_lt (World.block_lt_of_cell? wr _ hc))).trans c1
        rw [c2]
        simp [List.getD_eq_getElem?_getD])
       rw [List.take_of_length_le (by omega)] at h
       exact h
      have HST := Aside0.mk hst
      have HCT := Aside0.mk hct
      have HKP := Aside0.mk hkp
      have HSZ2 := Aside0.mk hsz2
      have HRK0 := HRK
      have HB2 := Aside0.mk hB2
      have HXI := Aside0.mk (And.intro htx hpx)
      obtain ⟨u0, u1, u2, ua0, ua1, ua2, ua3, ub0, ub1, ub2, ub3⟩ := hkp W2 (Below.refl _ _)
      obtain ⟨nk, hnk⟩ : ∃ n : Nat, ks.length = n + 1 := ⟨ks.length - 1, by have := HSH.out.1; omega⟩
      obtain ⟨mk, hmk⟩ : ∃ n : Nat, ck = n + 1 := ⟨ck - 1, by omega⟩
      subst hmk
      have hnm : nk ≤ mk := by omega
      have q1 := eq_true ha0
      have q2 := eq_true ha1
      have q3 := eq_true hb0
      have q4 := eq_true hb1
      have HNK := Aside0.mk hnk
      rw [hnk] at HCT
      simp only [Nat.add_sub_cancel] at HCT
      have hnk2 : Aside0 (nk ≤ mk) := ⟨hnm⟩
      clear lift hst hct hkp hB2 hbd hsz2 hb2 hbp memA memB wA wB hEr h6r hpx htx htx' hkc hkr hck hkd hmem ya0 ya1 ya2 ya3 yb0 yb1 yb2 yb3 hnm ha0 ha1 hb0 hb1
      rw [hnk] at HRK HRK0 ⊢
      clear hnk
      have hi0' := eq_true hi0
      go_wp2_with fail
      rw [← hWp, ← hW2]
      clear hWp hW2 hszp
      go_region_held3 (fun w' => w'.cell? ⟨wr.heap.size, 0, none⟩ = some (.int .i64 x.f0) ∧ w'.cell? ⟨wr.heap.size, 1, none⟩ = some (.int .i64 x.f1) ∧ w'.cell? ⟨wr.heap.size, 2, none⟩ = some (.int .i64 x.f2) ∧
        w'.cell? (al.add (x.f0.toNat * 4)) = some (.string (rd_T45 l0 x.f0).f0) ∧ w'.cell? ⟨(al.add (x.f0.toNat * 4)).block, (al.add (x.f0.toNat * 4)).off + 1, none⟩ = some (.slice A1 (rd_T45 l0 x.f0).f1.f0.length k1) ∧ w'.cell? ⟨(al.add (x.f0.toNat * 4)).block, (al.add (x.f0.toNat * 4)).off + 2, none⟩ = some (.int .i64 (rd_T45 l0 x.f0).f1.f1) ∧ w'.cell? ⟨(al.add (x.f0.toNat * 4)).block, (al.add (x.f0.toNat * 4)).off + 3, none⟩ = some (.int .i64 (rd_T45 l0 x.f0).f1.f2) ∧
        w'.cell? (al.add (x.f1.toNat * 4)) = some (.string (rd_T45 l0 x.f1).f0) ∧ w'.cell? ⟨(al.add (x.f1.toNat * 4)).block, (al.add (x.f1.toNat * 4)).off + 1, none⟩ = some (.slice A2 (rd_T45 l0 x.f1).f1.f0.length k2) ∧ w'.cell? ⟨(al.add (x.f1.toNat * 4)).block, (al.add (x.f1.toNat * 4)).off + 2, none⟩ = some (.int .i64 (rd_T45 l0 x.f1).f1.f1) ∧ w'.cell? ⟨(al.add (x.f1.toNat * 4)).block, (al.add (x.f1.toNat * 4)).off + 3, none⟩ = some (.int .i64 (rd_T45 l0 x.f1).f1.f2))
       (first | exact ⟨u0, u1, u2, ua0, ua1, ua2, ua3, ub0, ub1, ub2, ub3⟩ | exact HKP.out _ HW5.out.2) (first | (go_at_call 25; (with_reducible refine (HPC.out _ ?bel).mono ?_); (case bel => first | exact below_drew1 (Below.refl _ _) | exact Below.refl _ _); rintro e w5 ⟨rfl, hw5⟩; (have HW5 := Aside0.mk hw5); clear hw5))
      have f1 : (1 : Int) ≤ (nk : Int) + 1 := by omega
      have f2 : (nk : Int) + 1 ≤ (mk : Int) + 1 := by have := hnk2.out; omega
      have f3 : nk ≤ mk := hnk2.out
      go_wp2_with fail
      have hdrop : Lib.containsS (ks.drop 1) tx = Lib.containsS (ks.drop 1) (partX l0 x) := by rw [HXI.out.1]
      have HST5 := Aside0.mk (fun (w' : World) (hb : Below w5.heap.size w5 w') => HST.out w' (HW5.out.1.below hb) (HW5.out.2.trans (hb.mono (Nat.le_trans (by have := HW5.out.2.size; have := HSZ2.out; omega) (Nat.le_refl _)))))
      have hnext : (dl.take (i + 1).toNat).foldl (keyStep l0) [passT a1] = keyStep l0 ks x := by
       rw [show (i + 1).toNat = i.toNat + 1 by omega, List.take_add_one, List.getElem?_eq_getElem (show i.toNat < dl.length by omega), List.foldl_append, ← HKS.out]
       simp [HXD.out, rd_T57, List.getElem?_eq_getElem (show i.toNat < dl.length by omega)]
      have hks : keyStep l0 ks x = if Lib.containsS (ks.drop 1) tx = true then ks else ks ++ [tx] := by
       unfold keyStep
       rw [HXI.out.1]
      have HNX := Aside0.mk (hnext.trans hks)
      have hw1 : IntKind.i64.wrap (i + 1) = i + 1 := by rw [IntKind.wrap_i64]; have := HDL.out; omega
      clear hdrop hnext hks
      rcases mk with _ | mk
      ·obtain rfl : nk = 0 := Nat.le_zero.1 hnk2.out
       have hdr : ks.drop 1 = [] := List.drop_eq_nil_of_le (by rw [HNK.out]; exact Nat.le_refl _)
       have hcf : Lib.containsS (ks.drop 1) tx = false := by rw [hdr]; rfl
       rw [hcf] at HNX
       have HCE := Aside0.mk (fun (a : Option Addr) (w' : World) => Tryd.slices_Contains_string_empty a 0 tx w')
       clear hdr hcf
       go_region_held3 (fun _ => True) (exact trivial) (first | (go_at_call 26; (with_reducible refine (HST5.out _ ?bel).mono ?_); (case bel => first | exact Below.refl _ _ | exact below_drew1 (Below.refl _ _)); rintro e w6 ⟨rfl, h6a, h6b⟩; (have HW6 := Aside0.mk (And.intro h6a h6b)); clear h6a h6b) | (go_at_call 22; (with_reducible refine (HCE.out _ _).mono ?_); rintro e w7 ⟨rfl, rfl⟩))
       go_wp2_with (first | (go_at_call 26; (with_reducible refine (HST.out _ ?h1 ?h2).mono ?_); (case h1 => exact HW6.out.1); (case h2 => exact HW6.out.2); rintro e w8 ⟨rfl, h8a, h8b⟩; (have HB8 := Aside0.mk (show Below wr.heap.size wr w8 from HB2.out.trans (h8b.mono (Nat.le_succ _)))); clear h8a h8b) | ((with_reducible refine gate_builtin (b := .append) (xs := #[.tmp 60, .tmp 62]) rfl ?_); at_builtin; refine Kd.R_append Kd.string (w0 := w4) w4.heap.size rfl (.tmp 60) (.tmp 62) 29 9 (.string ⟨#[]⟩) 16 rfl Tryd.underlying29 info9 rfl (by decide) (by omega) (.slice (some ⟨gk_, ok_, none⟩) (0 + 1) (0 + 1)) ks tx [.string tx] (fun _ => True) (fun _ => False) rfl rfl ?aP (fun _ hk => hk.elim) ?aF ?aO ?aB ?aS ?aL ?_; (case aP => exact rfl); (case aF => exact (fun _ _ => trivial)); (case aO => exact Kd.R_below HRK0.out HB8.out); (case aB => exact below_step HB.out HB8.out); (case aS => exact Nat.le_trans HB.out.size HB8.out.size); (case aL => have h1_ := HSH.out.2.1; have h2_ := HDL.out; omega); intro v9_ w9 ho hb hg hat; (have HO9 := Aside0.mk ho); (have HB9 := Aside0.mk hb); clear ho hb hg hat))
       go_roundg (dl.length - (i + 1).toNat)
       case measure => omega
       case rel => exact ⟨i + 1, ks ++ [tx], rfl, by omega, by omega, Nat.le_refl _, ⟨by rw [HNX.out]; simp⟩, HO9, HB9, ⟨by rw [List.length_append]; simp, by rw [List.length_append]; have h1_ := HSH.out.2.1; simp; omega, fun s hs => by
        rcases List.mem_append.1 hs with hs | hs
        ·exact HSH.out.2.2 s hs
        ·simp at hs; rw [hs]; exact HXI.out.2⟩⟩
      ·obtain ⟨q, hq⟩ : ∃ q, q = Lib.containsS (ks.drop 1) tx := ⟨_, rfl⟩
       rw [← hq] at HCT HNX
       clear hq
       cases q with
       | true =>
        go_region_held3 (fun _ => True) (exact trivial) (first | (go_at_call 26; (with_reducible refine (HST5.out _ ?bel).mono ?_); (case bel => first | exact Below.refl _ _ | exact below_drew1 (Below.refl _ _)); rintro e w6 ⟨rfl, h6a, h6b⟩; (have HW6 := Aside0.mk (And.intro h6a h6b)); clear h6a h6b) | (go_at_call 22; (with_reducible refine (HCT.out _ ?bel).mono ?_); (case bel => exact HW6.out.2); rintro e w7 ⟨rfl, rfl⟩))
        go_wp2
        have HB6 := Aside0.mk (show Below wr.heap.size wr _ from HB2.out.trans (HW6.out.2.mono (Nat.le_succ _)))
        go_roundg (dl.length - (i + 1).toNat)
        case measure => omega
        case rel => exact ⟨i + 1, ks, rfl, by omega, by omega, Nat.le_refl _, ⟨by rw [HNX.out]; simp⟩, ⟨Kd.R_below HRK0.out HB6.out⟩, ⟨below_step HB.out HB6.out⟩, ⟨HSH.out.1, by have := HSH.out.2.1; omega, HSH.out.2.2⟩⟩
       | false =>
        go_region_held3 (fun _ => True) (exact trivial) (first | (go_at_call 26; (with_reducible refine (HST5.out _ ?bel).mono ?_); (case bel => first | exact Below.refl _ _ | exact below_drew1 (Below.refl _ _)); rintro e w6 ⟨rfl, h6a, h6b⟩; (have HW6 := Aside0.mk (And.intro h6a h6b)); clear h6a h6b) | (go_at_call 22; (with_reducible refine (HCT.out _ ?bel).mono ?_); (case bel => exact HW6.out.2); rintro e w7 ⟨rfl, rfl⟩))
        go_wp2_with (first | (go_at_call 26; (with_reducible refine (HST.out _ ?h1 ?h2).mono ?_); (case h1 => exact HW6.out.1); (case h2 => exact HW6.out.2); rintro e w8 ⟨rfl, h8a, h8b⟩; (have HB8 := Aside0.mk (show Below wr.heap.size wr w8 from HB2.out.trans (h8b.mono (Nat.le_succ _)))); clear h8a h8b) | ((with_reducible refine gate_builtin (b := .append) (xs := #[.tmp 60, .tmp 62]) rfl ?_); at_builtin; refine Kd.R_append Kd.string (w0 := w4) w4.heap.size rfl (.tmp 60) (.tmp 62) 29 9 (.string ⟨#[]⟩) 16 rfl Tryd.underlying29 info9 rfl (by decide) (by omega) (.slice (some ⟨gk_, ok_, none⟩) (nk + 1) (mk + 1 + 1)) ks tx [.string tx] (fun _ => True) (fun _ => False) rfl rfl ?aP (fun _ hk => hk.elim) ?aF ?aO ?aB ?aS ?aL ?_; (case aP => exact rfl); (case aF => exact (fun _ _ => trivial)); (case aO => exact Kd.R_below HRK0.out HB8.out); (case aB => exact below_step HB.out HB8.out); (case aS => exact Nat.le_trans HB.out.size HB8.out.size); (case aL => have h1_ := HSH.out.2.1; have h2_ := HDL.out; omega); intro v9_ w9 ho hb hg hat; (have HO9 := Aside0.mk ho); (have HB9 := Aside0.mk hb); clear ho hb hg hat))
        go_roundg (dl.length - (i + 1).toNat)
        case measure => omega
        case rel => exact ⟨i + 1, ks ++ [tx], rfl, by omega, by omega, Nat.le_refl _, ⟨by rw [HNX.out]; simp⟩, HO9, HB9, ⟨by rw [List.length_append]; simp, by rw [List.length_append]; have h1_ := HSH.out.2.1; simp; omega, fun s hs => by
         rcases List.mem_append.1 hs with hs | hs
         ·exact HSH.out.2.2 s hs
         ·simp at hs; rw [hs]; exact HXI.out.2⟩⟩
     ·obtain rfl : i = (dl.length : Int) := by omega
      have hks : ks = keyList l0 a1 dl := by
       have h1_ := HKS.out
       rw [Int.toNat_natCast, List.take_of_length_le (Nat.le_refl _)] at h1_
       exact h1_
      obtain ⟨Ak, ck, ek, hck, hkr⟩ := Kd.R_reads HRK.out
      subst ek
      obtain ⟨gk_, ok_, rfl, hkc⟩ := strs_plain hkr (by have := HSH.out.1; omega)
      have hlk : ks.length ≤ 100001 := by have h1_ := HSH.out.2.1; have h2_ := HDL.out; omega
      have hjl : (Lib.join (ks.map (·.data.toList)) [59, 32]).length ≤ 140737488355328 := by
       have h1_ := join_le ks [59, 32] 6000 HSH.out.2.2
       have h2_ := Nat.mul_le_mul_right 6002 hlk
       simp only [List.length_cons, List.length_nil] at h1_
       omega
      have HJ := Aside0.mk (Tryd.strings_Join gk_ ok_ ck ks ⟨#[59, 32]⟩ wr (fun j s hj => by
       obtain ⟨hl_, e_⟩ := List.getElem?_eq_some_iff.1 hj
       rw [hkc j hl_, List.getD_eq_getElem?_getD, List.getElem?_eq_getElem hl_, e_]
       rfl) (World.block_lt_of_cell? wr _ (hkc 0 (by have := HSH.out.1; omega))) (by omega) hck hjl)
      have HKE := Aside0.mk hks
      clear hkc hkr hjl hks hlk hck
      go_wp2_with (go_at_call 27; (with_reducible refine HJ.out.mono ?_); rintro e w9 ⟨rfl, hb⟩)
      go_ret2
      refine ⟨?_, below_step (below_step HB4.out HB.out) hb⟩
      rw [← HKE.out]
      rfl
  ·rw [if_neg he] at h
   simp only [Option.some.injEq, Prod.mk.injEq] at h
   obtain ⟨rfl, rfl⟩ := h
   have he2 : (er != 0) = true := by simpa using he
   go_enter Tryd.func10, Tryd.ntmps10
   go_wp2_with (go_at_call 19; refine HD.out.mono ?_; rintro e w2 ⟨v0, rfl, hR, hb⟩)
   go_ret2
   exact ⟨rfl, hb⟩
 ·rw [if_neg hk] at h; cases h
end Go.Proofs.YtndennmpnomjnaaDoor.A

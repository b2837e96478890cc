/- The machine of layer 23 in memory: one plain machine, what the blocks hold, and how single stores turn it. -/
import Derived.Test.YtekhnkpjeofdpaaDoorAx1
import Derived.Test.YtekhnkpjeofdpaaDoorTgtTab
set_option linter.unusedVariables false
set_option maxRecDepth 100000
namespace Go.Proofs.YtekhnkpjeofdpaaDoor.A
open Go.RowKit Go.Proofs.YtekhnkpjeofdpaaDoorW.PrintWords Go.Proofs.YtekhnkpjeofdpaaDoorW.PrintLast Go.Proofs.YtekhnkpjeofdpaaDoorW.PrintMore
structure Mac where
  code : List Int
  mem : List Int
  regs : List Int
  at_ : Int
  depth : Int
  steps : Int
  kept : List Int
  out : List Int
  end_ : Int
  why : Int
def mcells (m : Mac) (vc vm vK vO : Value) : Array Value := (vc :: vm :: (m.regs.map (Value.int .i64) ++ [.int .i64 m.at_, .int .i64 m.depth, .int .i64 m.steps, vK, vO, .int .i64 m.end_, .int .i64 m.why])).toArray
/-- what a machine may turn (own), and what its code does not lie in (far) -/
structure Rg where
  own : Nat → Prop
  far : Nat → Prop
instance : CoeFun Rg (fun _ => Nat → Prop) := ⟨Rg.own⟩
instance : Coe Rg (Nat → Prop) := ⟨Rg.own⟩
structure IsMx (T : Nat) (P : Rg) (w : World) (g : Nat) (m : Mac) (Ac : Option Addr) (cc bm : Nat) (vK vO : Value) : Prop where
  blk : w.heap[g]? = some (.cells (mcells m (.slice Ac m.code.length cc) (.slice (some ⟨bm, 0, none⟩) 20000 20000) vK vO) T (0, 0))
  pg : P g
  pb : P bm
  ne : g ≠ bm
  regs : m.regs.length = 10
  mem : m.mem.length = 20000
  mblk : w.heap[bm]? = some (.cells (m.mem.map (Value.int .i64)).toArray 2 (0, 0))
  kept : Kd.R (Kd.int .i64) 3 w 0 (fun k => P k ∧ k ≠ g ∧ k ≠ bm) vK m.kept
  out : Kd.R (Kd.int .i64) 2 w 0 (fun k => P k ∧ k ≠ g ∧ k ≠ bm) vO m.out
  code : Kd.C (Kd.int .u64) w Ac m.code.length m.code
  ccap : m.code.length ≤ cc
  csep : 0 < m.code.length → ∀ ad, Ac = some ad → ¬ P ad.block
  cfar : 0 < m.code.length → ∀ ad, Ac = some ad → ¬ P.far ad.block
/-- what a call of the machine's may turn: blocks of P, and new ones -/
structure Chg (P : Nat → Prop) (w w' : World) : Prop where
  os : w'.os = w.os
  tape : w'.tape = w.tape
  output : w'.output = w.output
  size : w.heap.size ≤ w'.heap.size
  block : ∀ k, k < w.heap.size → ¬ P k → w'.heap[k]? = w.heap[k]?
section
variable {P : Nat → Prop} {w w' w1 : World}
theorem Chg.refl (P : Nat → Prop) (w : World) : Chg P w w := ⟨rfl, rfl, rfl, Nat.le_refl _, fun _ _ _ => rfl⟩
theorem Chg.trans {P : Nat → Prop} {w w1 w' : World} (h : Chg P w w1) (k : Chg P w1 w') : Chg P w w' :=
  ⟨k.os.trans h.os, k.tape.trans h.tape, k.output.trans h.output, Nat.le_trans h.size k.size, fun i hi hn => (k.block i (Nat.lt_of_lt_of_le hi h.size) hn).trans (h.block i hi hn)⟩
theorem Chg.of_below (h : Below w.heap.size w w') : Chg P w w' := ⟨h.os, h.tape, h.output, h.size, fun k hk _ => h.block k hk⟩
theorem Chg.alloc (h : Chg P w w1) (o : Obj) : Chg P w (w1.alloc o) := h.trans (.of_below (below_alloc (Below.refl _ _) o))
theorem Chg.drew (h : Chg P w w1) : Chg P w w1.drew := h.trans (.of_below (below_drew1 (Below.refl _ _)))
theorem Chg.drewN (h : Chg P w w1) (n : Nat) : Chg P w (w1.drewN n) := h.trans (.of_below (pw_below_drewN (Below.refl _ _) n))
theorem Chg.setCell (h : Chg P w w1) {a : Addr} (hp : P a.block) (v : Value) : Chg P w (w1.setCell a v) :=
  h.trans ⟨rfl, rfl, rfl, by simp, fun k hk hn => Below.heap_setCell w1 a v k (fun e => hn (e ▸ hp))⟩
theorem Chg.grown (h : Chg P w w1) {row : Option Nat} (hg : w1.grownBy w' row) (hr : ∀ k, row = some k → P k) : Chg P w w' :=
  h.trans ⟨hg.os, hg.tape, hg.output, hg.size, fun k hk hn => hg.block k hk (fun e => hn (hr k e.symm))⟩
theorem Chg.below (h : Chg P w w') {B : Nat} (hB : B ≤ w.heap.size) (hn : ∀ k, k < B → ¬ P k) : Below B w w' := ⟨h.os, h.tape, h.output, h.size, fun k hk => h.block k (Nat.lt_of_lt_of_le hk hB) (hn k hk)⟩
theorem Chg.blk (h : Chg P w w') {g : Nat} {o : Obj} (hg : w.heap[g]? = some o) (hn : ¬ P g) : w'.heap[g]? = some o := (h.block g (blk_lt hg) hn).trans hg
theorem Chg.tab (h : Chg P w w') (hT : Tab w) (h0 : ¬ P 0) (h1 : ¬ P 1) : Tab w' := by
  obtain ⟨⟨a, ha⟩, b, hb⟩ := hT
  exact ⟨⟨a, h.blk ha h0⟩, b, h.blk hb h1⟩
end
section
variable {T : Nat} {P : Rg} {w w' : World} {g : Nat} {m : Mac} {Ac : Option Addr} {cc bm : Nat} {vK vO : Value}
theorem C_keep {A : Option Addr} {xs : List Int} (h : Kd.C (Kd.int .u64) w A xs.length xs) (hb : 0 < xs.length → ∀ ad, A = some ad → ad.block < w.heap.size → w'.heap[ad.block]? = w.heap[ad.block]?) : Kd.C (Kd.int .u64) w' A xs.length xs := by
  refine ⟨h.1, h.2.1, fun hn => ?_⟩
  obtain ⟨ad, e, hc⟩ := h.2.2 hn
  refine ⟨ad, e, fun j p hj => ?_⟩
  obtain ⟨c, hs, hr, hcell⟩ := hc j p hj
  refine ⟨c, hs, hr, fun i u hu => ?_⟩
  have h1 := hcell i u hu
  have hblk : (ad.add (j * (Kd.int .u64).sz + i)).block = ad.block := by unfold Addr.add; split <;> rfl
  have hlt : ad.block < w.heap.size := by
    have : (w.heap[(ad.add (j * (Kd.int .u64).sz + i)).block]?).isSome = true := by
      unfold World.cell? at h1
      split at h1 <;> simp_all
    rw [hblk] at this
    exact (Array.getElem?_eq_some_iff.1 (Option.isSome_iff_exists.1 this).choose_spec).1
  rw [World.cell?_of_block (w := w) (by rw [hblk]; exact hb hn ad e hlt)]
  exact h1
theorem IsMx.below (h : IsMx T P w g m Ac cc bm vK vO) (hb : Below w.heap.size w w') : IsMx T P w' g m Ac cc bm vK vO :=
  { h with blk := blk_below h.blk hb, mblk := blk_below h.mblk hb, kept := Kd.R_below h.kept hb, out := Kd.R_below h.out hb, code := Kd.C_below h.code hb }
theorem IsMx.alloc (h : IsMx T P w g m Ac cc bm vK vO) (o : Obj) : IsMx T P (w.alloc o) g m Ac cc bm vK vO := h.below (below_alloc (Below.refl _ _) o)
theorem IsMx.drew (h : IsMx T P w g m Ac cc bm vK vO) : IsMx T P w.drew g m Ac cc bm vK vO := h.below (below_drew1 (Below.refl _ _))
theorem IsMx.drewN (h : IsMx T P w g m Ac cc bm vK vO) (n : Nat) : IsMx T P (w.drewN n) g m Ac cc bm vK vO := h.below (pw_below_drewN (Below.refl _ _) n)
theorem R_int_step {e : Nat} {ok : Nat → Prop} {v : Value} {xs : List Int} (h : Kd.R (Kd.int .i64) e w 0 ok v xs) (hm : ∀ k, ok k → k < w.heap.size → w'.heap[k]? = w.heap[k]?) : Kd.R (Kd.int .i64) e w' 0 ok v xs := Kd.R_step h (fun k hk hl => hm k hk hl)
/-- a cell of the machine's own block has been written -/
theorem IsMx.setg (h : IsMx T P w g m Ac cc bm vK vO) (j : Nat) (v : Value) (m' : Mac) (vK' vO' : Value)
    (hm : (mcells m (.slice Ac m.code.length cc) (.slice (some ⟨bm, 0, none⟩) 20000 20000) vK vO).setIfInBounds j v = mcells m' (.slice Ac m'.code.length cc) (.slice (some ⟨bm, 0, none⟩) 20000 20000) vK' vO')
    (hc : m'.code = m.code) (hme : m'.mem = m.mem) (hr : m'.regs.length = 10)
    (hK : Kd.R (Kd.int .i64) 3 w 0 (fun k => P k ∧ k ≠ g ∧ k ≠ bm) vK' m'.kept) (hO : Kd.R (Kd.int .i64) 2 w 0 (fun k => P k ∧ k ≠ g ∧ k ≠ bm) vO' m'.out) :
    IsMx T P (w.setCell ⟨g, j, none⟩ v) g m' Ac cc bm vK' vO' where
  blk := blk_put h.blk j v hm
  pg := h.pg
  pb := h.pb
  ne := h.ne
  regs := hr
  mem := hme ▸ h.mem
  mblk := by rw [hme]; exact blk_far h.mblk (fun e => h.ne e.symm) _
  kept := R_int_step hK (fun k hk _ => Below.heap_setCell w ⟨g, j, none⟩ v k hk.2.1)
  out := R_int_step hO (fun k hk _ => Below.heap_setCell w ⟨g, j, none⟩ v k hk.2.1)
  code := by
    rw [hc]
    exact C_keep h.code (fun hn ad e _ => Below.heap_setCell w ⟨g, j, none⟩ v ad.block (fun e2 => h.csep hn ad e (by rw [e2]; exact h.pg)))
  ccap := hc ▸ h.ccap
  csep := by rw [hc]; exact h.csep
  cfar := by rw [hc]; exact h.cfar
/-- a word of the machine's memory has been written -/
theorem IsMx.setMem (h : IsMx T P w g m Ac cc bm vK vO) (j : Nat) (x : Int) : IsMx T P (w.setCell ⟨bm, j, none⟩ (.int .i64 x)) g { m with mem := m.mem.set j x } Ac cc bm vK vO where
  blk := blk_far h.blk h.ne _
  pg := h.pg
  pb := h.pb
  ne := h.ne
  regs := h.regs
  mem := by simp [h.mem]
  mblk := blk_put h.mblk j _ (by simp [List.map_set])
  kept := R_int_step h.kept (fun k hk _ => Below.heap_setCell w ⟨bm, j, none⟩ _ k hk.2.2)
  out := R_int_step h.out (fun k hk _ => Below.heap_setCell w ⟨bm, j, none⟩ _ k hk.2.2)
  code := C_keep h.code (fun hn ad e _ => Below.heap_setCell w ⟨bm, j, none⟩ _ ad.block (fun e2 => h.csep hn ad e (by rw [e2]; exact h.pb)))
  ccap := h.ccap
  csep := h.csep
  cfar := h.cfar
theorem list10 {l : List Int} (h : l.length = 10) : ∃ r0 r1 r2 r3 r4 r5 r6 r7 r8 r9, l = [r0, r1, r2, r3, r4, r5, r6, r7, r8, r9] := by
  match l, h with
  | [r0, r1, r2, r3, r4, r5, r6, r7, r8, r9], _ => exact ⟨_, _, _, _, _, _, _, _, _, _, rfl⟩
def reg (m : Mac) (a : Nat) : Int := m.regs.getD a 0
theorem mc_reg (m : Mac) (vc vm vK vO : Value) (h : m.regs.length = 10) (a : Nat) (ha : a < 10) : (mcells m vc vm vK vO)[2 + a]? = some (.int .i64 (reg m a)) := by
  obtain ⟨code, mem, regs, at_, depth, steps, kept, out, end_, why⟩ := m
  obtain ⟨r0, r1, r2, r3, r4, r5, r6, r7, r8, r9, rfl⟩ := list10 h
  match a, ha with
  | 0, _ => rfl
  | 1, _ => rfl
  | 2, _ => rfl
  | 3, _ => rfl
  | 4, _ => rfl
  | 5, _ => rfl
  | 6, _ => rfl
  | 7, _ => rfl
  | 8, _ => rfl
  | 9, _ => rfl
theorem mc_at (m : Mac) (vc vm vK vO : Value) (h : m.regs.length = 10) : (mcells m vc vm vK vO)[0]? = some vc ∧ (mcells m vc vm vK vO)[1]? = some vm ∧ (mcells m vc vm vK vO)[12]? = some (.int .i64 m.at_) ∧ (mcells m vc vm vK vO)[13]? = some (.int .i64 m.depth) ∧ (mcells m vc vm vK vO)[14]? = some (.int .i64 m.steps) ∧ (mcells m vc vm vK vO)[15]? = some vK ∧ (mcells m vc vm vK vO)[16]? = some vO ∧ (mcells m vc vm vK vO)[17]? = some (.int .i64 m.end_) ∧ (mcells m vc vm vK vO)[18]? = some (.int .i64 m.why) := by
  obtain ⟨code, mem, regs, at_, depth, steps, kept, out, end_, why⟩ := m
  obtain ⟨r0, r1, r2, r3, r4, r5, r6, r7, r8, r9, rfl⟩ := list10 h
  exact ⟨rfl, rfl, rfl, rfl, rfl, rfl, rfl, rfl, rfl⟩
theorem IsMx.creg (h : IsMx T P w g m Ac cc bm vK vO) (a : Nat) (ha : a < 10) : w.cell? ⟨g, 2 + a, none⟩ = some (.int .i64 (reg m a)) := (blk_cell h.blk _).trans (mc_reg _ _ _ _ _ h.regs a ha)
theorem IsMx.c0 (h : IsMx T P w g m Ac cc bm vK vO) : w.cell? ⟨g, 0, none⟩ = some (.slice Ac m.code.length cc) := (blk_cell h.blk _).trans (mc_at _ _ _ _ _ h.regs).1
theorem IsMx.c1 (h : IsMx T P w g m Ac cc bm vK vO) : w.cell? ⟨g, 1, none⟩ = some (.slice (some ⟨bm, 0, none⟩) 20000 20000) := (blk_cell h.blk _).trans (mc_at _ _ _ _ _ h.regs).2.1
theorem IsMx.c12 (h : IsMx T P w g m Ac cc bm vK vO) : w.cell? ⟨g, 12, none⟩ = some (.int .i64 m.at_) := (blk_cell h.blk _).trans (mc_at _ _ _ _ _ h.regs).2.2.1
theorem IsMx.c13 (h : IsMx T P w g m Ac cc bm vK vO) : w.cell? ⟨g, 13, none⟩ = some (.int .i64 m.depth) := (blk_cell h.blk _).trans (mc_at _ _ _ _ _ h.regs).2.2.2.1
theorem IsMx.c14 (h : IsMx T P w g m Ac cc bm vK vO) : w.cell? ⟨g, 14, none⟩ = some (.int .i64 m.steps) := (blk_cell h.blk _).trans (mc_at _ _ _ _ _ h.regs).2.2.2.2.1
theorem IsMx.c15 (h : IsMx T P w g m Ac cc bm vK vO) : w.cell? ⟨g, 15, none⟩ = some vK := (blk_cell h.blk _).trans (mc_at _ _ _ _ _ h.regs).2.2.2.2.2.1
theorem IsMx.c16 (h : IsMx T P w g m Ac cc bm vK vO) : w.cell? ⟨g, 16, none⟩ = some vO := (blk_cell h.blk _).trans (mc_at _ _ _ _ _ h.regs).2.2.2.2.2.2.1
theorem IsMx.c17 (h : IsMx T P w g m Ac cc bm vK vO) : w.cell? ⟨g, 17, none⟩ = some (.int .i64 m.end_) := (blk_cell h.blk _).trans (mc_at _ _ _ _ _ h.regs).2.2.2.2.2.2.2.1
theorem IsMx.c18 (h : IsMx T P w g m Ac cc bm vK vO) : w.cell? ⟨g, 18, none⟩ = some (.int .i64 m.why) := (blk_cell h.blk _).trans (mc_at _ _ _ _ _ h.regs).2.2.2.2.2.2.2.2
theorem IsMx.fz (h : IsMx T P w g m Ac cc bm vK vO) (j : Nat) : w.frozen? ⟨g, j, none⟩ = false := blk_frozen h.blk j
theorem IsMx.cm (h : IsMx T P w g m Ac cc bm vK vO) (j : Nat) (hj : j < 20000) : w.cell? ⟨bm, j, none⟩ = some (.int .i64 (m.mem.getD j 0)) := by
  refine (blk_cell h.mblk j).trans ?_
  have := h.mem
  simp [List.getElem?_map, List.getD_eq_getElem?_getD, List.getElem?_eq_getElem (show j < m.mem.length by omega)]
theorem IsMx.fm (h : IsMx T P w g m Ac cc bm vK vO) (j : Nat) : w.frozen? ⟨bm, j, none⟩ = false := blk_frozen h.mblk j
theorem IsMx.setReg (h : IsMx T P w g m Ac cc bm vK vO) (d : Nat) (hd : d < 10) (x : Int) : IsMx T P (w.setCell ⟨g, 2 + d, none⟩ (.int .i64 x)) g { m with regs := m.regs.set d x } Ac cc bm vK vO := by
  refine h.setg _ _ _ _ _ ?_ rfl rfl (by simp [h.regs]) h.kept h.out
  have hr := h.regs
  obtain ⟨code, mem, regs, at_, depth, steps, kept, out, end_, why⟩ := m
  obtain ⟨r0, r1, r2, r3, r4, r5, r6, r7, r8, r9, rfl⟩ := list10 hr
  match d, hd with
  | 0, _ => rfl
  | 1, _ => rfl
  | 2, _ => rfl
  | 3, _ => rfl
  | 4, _ => rfl
  | 5, _ => rfl
  | 6, _ => rfl
  | 7, _ => rfl
  | 8, _ => rfl
  | 9, _ => rfl
theorem IsMx.set12 (h : IsMx T P w g m Ac cc bm vK vO) (x : Int) : IsMx T P (w.setCell ⟨g, 12, none⟩ (.int .i64 x)) g { m with at_ := x } Ac cc bm vK vO := by
  refine h.setg _ _ _ _ _ ?_ rfl rfl h.regs h.kept h.out
  have hr := h.regs
  obtain ⟨code, mem, regs, at_, depth, steps, kept, out, end_, why⟩ := m
  obtain ⟨r0, r1, r2, r3, r4, r5, r6, r7, r8, r9, rfl⟩ := list10 hr
  rfl
theorem IsMx.set13 (h : IsMx T P w g m Ac cc bm vK vO) (x : Int) : IsMx T P (w.setCell ⟨g, 13, none⟩ (.int .i64 x)) g { m with depth := x } Ac cc bm vK vO := by
  refine h.setg _ _ _ _ _ ?_ rfl rfl h.regs h.kept h.out
  have hr := h.regs
  obtain ⟨code, mem, regs, at_, depth, steps, kept, out, end_, why⟩ := m
  obtain ⟨r0, r1, r2, r3, r4, r5, r6, r7, r8, r9, rfl⟩ := list10 hr
  rfl
theorem IsMx.set14 (h : IsMx T P w g m Ac cc bm vK vO) (x : Int) : IsMx T P (w.setCell ⟨g, 14, none⟩ (.int .i64 x)) g { m with steps := x } Ac cc bm vK vO := by
  refine h.setg _ _ _ _ _ ?_ rfl rfl h.regs h.kept h.out
  have hr := h.regs
  obtain ⟨code, mem, regs, at_, depth, steps, kept, out, end_, why⟩ := m
  obtain ⟨r0, r1, r2, r3, r4, r5, r6, r7, r8, r9, rfl⟩ := list10 hr
  rfl
theorem IsMx.set15 (h : IsMx T P w g m Ac cc bm vK vO) (v : Value) (l : List Int) (hK : Kd.R (Kd.int .i64) 3 w 0 (fun k => P k ∧ k ≠ g ∧ k ≠ bm) v l) : IsMx T P (w.setCell ⟨g, 15, none⟩ v) g { m with kept := l } Ac cc bm v vO := by
  refine h.setg _ _ _ _ _ ?_ rfl rfl h.regs hK h.out
  have hr := h.regs
  obtain ⟨code, mem, regs, at_, depth, steps, kept, out, end_, why⟩ := m
  obtain ⟨r0, r1, r2, r3, r4, r5, r6, r7, r8, r9, rfl⟩ := list10 hr
  rfl
theorem IsMx.set17 (h : IsMx T P w g m Ac cc bm vK vO) (x : Int) : IsMx T P (w.setCell ⟨g, 17, none⟩ (.int .i64 x)) g { m with end_ := x } Ac cc bm vK vO := by
  refine h.setg _ _ _ _ _ ?_ rfl rfl h.regs h.kept h.out
  have hr := h.regs
  obtain ⟨code, mem, regs, at_, depth, steps, kept, out, end_, why⟩ := m
  obtain ⟨r0, r1, r2, r3, r4, r5, r6, r7, r8, r9, rfl⟩ := list10 hr
  rfl
theorem IsMx.set18 (h : IsMx T P w g m Ac cc bm vK vO) (x : Int) : IsMx T P (w.setCell ⟨g, 18, none⟩ (.int .i64 x)) g { m with why := x } Ac cc bm vK vO := by
  refine h.setg _ _ _ _ _ ?_ rfl rfl h.regs h.kept h.out
  have hr := h.regs
  obtain ⟨code, mem, regs, at_, depth, steps, kept, out, end_, why⟩ := m
  obtain ⟨r0, r1, r2, r3, r4, r5, r6, r7, r8, r9, rfl⟩ := list10 hr
  rfl
theorem R_block {e : Nat} {ok : Nat → Prop} {v : Value} {xs : List Int} (h : Kd.R (Kd.int .i64) e w 0 ok v xs) {k : Nat} (hk : v.ownBlock = some k) : ∃ cells, w.heap[k]? = some (.cells cells e (0, 0)) := by
  obtain ⟨_, inner, ho, _⟩ := h
  exact own_typed ho k hk
theorem IsMx.apart (h : IsMx T P w g m Ac cc bm vK vO) {k : Nat} (hk : vK.ownBlock = some k) : vO.ownBlock ≠ some k := by
  intro ho
  obtain ⟨c1, e1⟩ := R_block h.kept hk
  obtain ⟨c2, e2⟩ := R_block h.out ho
  rw [e1] at e2
  injection e2 with e3
  injection e3 with _ e4
  exact absurd e4 (by decide)
theorem IsMx.rowO (h : IsMx T P w g m Ac cc bm vK vO) : some g ≠ vO.ownBlock ∧ some bm ≠ vO.ownBlock := ⟨fun e => (h.out.1 g e.symm).2.1 rfl, fun e => (h.out.1 bm e.symm).2.2 rfl⟩
theorem IsMx.rowK (h : IsMx T P w g m Ac cc bm vK vO) : some g ≠ vK.ownBlock ∧ some bm ≠ vK.ownBlock := ⟨fun e => (h.kept.1 g e.symm).2.1 rfl, fun e => (h.kept.1 bm e.symm).2.2 rfl⟩
theorem R_other {e : Nat} {ok : Nat → Prop} {v : Value} {xs : List Int} {row : Option Nat} (h : Kd.R (Kd.int .i64) e w 0 ok v xs) (hg : w.grownBy w' row) (hn : ∀ k, v.ownBlock = some k → some k ≠ row) : Kd.R (Kd.int .i64) e w' 0 ok v xs := by
  have h2 : Kd.R (Kd.int .i64) e w 0 (fun k => v.ownBlock = some k ∧ ok k) v xs := by
    obtain ⟨h0, inner, ho, hr⟩ := h
    exact ⟨fun k hk => ⟨hk, h0 k hk⟩, inner, ho, hr.imp_ (fun _ _ hp => hp)⟩
  exact Kd.R_mono (R_int_step h2 (fun k hk hl => hg.block k hl (hn k hk.1))) (fun k hk => hk.2)
theorem C_grown {A : Option Addr} {xs : List Int} {row : Option Nat} (h : Kd.C (Kd.int .u64) w A xs.length xs) (hg : w.grownBy w' row) (hn : 0 < xs.length → ∀ ad, A = some ad → some ad.block ≠ row) : Kd.C (Kd.int .u64) w' A xs.length xs :=
  C_keep h (fun hp ad e hl => hg.block _ hl (hn hp ad e))
/-- out has grown and has been put in its place -/
theorem IsMx.putOut (h : IsMx T P w g m Ac cc bm vK vO) (hg : w.grownBy w' vO.ownBlock) (v1 : Value) (l : List Int) (ho : Kd.R (Kd.int .i64) 2 w' 0 (fun k => P k ∧ k ≠ g ∧ k ≠ bm) v1 l) : IsMx T P (w'.setCell ⟨g, 16, none⟩ v1) g { m with out := l } Ac cc bm vK v1 := by
  have hblk := blk_grown h.blk hg h.rowO.1
  have hcode : Kd.C (Kd.int .u64) w' Ac m.code.length m.code := C_grown h.code hg (fun hn ad e e2 => h.csep hn ad e (h.out.1 _ e2.symm).1)
  have hkept := R_other h.kept hg (fun k hk e => h.apart hk e.symm)
  refine { blk := blk_put hblk 16 v1 ?_, pg := h.pg, pb := h.pb, ne := h.ne, regs := h.regs, mem := h.mem, mblk := blk_far (blk_grown h.mblk hg h.rowO.2) (fun e => h.ne e.symm) _, kept := R_int_step hkept (fun k hk _ => Below.heap_setCell w' ⟨g, 16, none⟩ v1 k hk.2.1), out := R_int_step ho (fun k hk _ => Below.heap_setCell w' ⟨g, 16, none⟩ v1 k hk.2.1), code := C_keep hcode (fun hn ad e _ => Below.heap_setCell w' ⟨g, 16, none⟩ v1 ad.block (fun e2 => h.csep hn ad e (by rw [e2]; exact h.pg))), ccap := h.ccap, csep := h.csep, cfar := h.cfar }
  have hr := h.regs
  obtain ⟨code, mem, regs, at_, depth, steps, kept, out, end_, why⟩ := m
  obtain ⟨r0, r1, r2, r3, r4, r5, r6, r7, r8, r9, rfl⟩ := list10 hr
  rfl
/-- kept has grown and has been put in its place -/
theorem IsMx.putKept (h : IsMx T P w g m Ac cc bm vK vO) (hg : w.grownBy w' vK.ownBlock) (v1 : Value) (l : List Int) (ho : Kd.R (Kd.int .i64) 3 w' 0 (fun k => P k ∧ k ≠ g ∧ k ≠ bm) v1 l) : IsMx T P (w'.setCell ⟨g, 15, none⟩ v1) g { m with kept := l } Ac cc bm v1 vO := by
  have hblk := blk_grown h.blk hg h.rowK.1
  have hcode : Kd.C (Kd.int .u64) w' Ac m.code.length m.code := C_grown h.code hg (fun hn ad e e2 => h.csep hn ad e (h.kept.1 _ e2.symm).1)
  have hout := R_other h.out hg (fun k hk e => h.apart e.symm hk)
  refine { blk := blk_put hblk 15 v1 ?_, pg := h.pg, pb := h.pb, ne := h.ne, regs := h.regs, mem := h.mem, mblk := blk_far (blk_grown h.mblk hg h.rowK.2) (fun e => h.ne e.symm) _, out := R_int_step hout (fun k hk _ => Below.heap_setCell w' ⟨g, 15, none⟩ v1 k hk.2.1), kept := R_int_step ho (fun k hk _ => Below.heap_setCell w' ⟨g, 15, none⟩ v1 k hk.2.1), code := C_keep hcode (fun hn ad e _ => Below.heap_setCell w' ⟨g, 15, none⟩ v1 ad.block (fun e2 => h.csep hn ad e (by rw [e2]; exact h.pg))), ccap := h.ccap, csep := h.csep, cfar := h.cfar }
  have hr := h.regs
  obtain ⟨code, mem, regs, at_, depth, steps, kept, out, end_, why⟩ := m
  obtain ⟨r0, r1, r2, r3, r4, r5, r6, r7, r8, r9, rfl⟩ := list10 hr
  rfl
end
def IsM (T : Nat) (P : Rg) (w : World) (g : Nat) (m : Mac) : Prop := ∃ Ac cc bm vK vO, IsMx T P w g m Ac cc bm vK vO
end Go.Proofs.YtekhnkpjeofdpaaDoor.A

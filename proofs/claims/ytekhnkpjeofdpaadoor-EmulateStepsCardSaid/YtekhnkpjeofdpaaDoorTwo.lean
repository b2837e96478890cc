/- Two machines beside each other (emulate's and the reference's): their blocks are apart; a step of one leaves the other as it was. -/
import Derived.Test.YtekhnkpjeofdpaaDoorRStep
import Derived.Test.YtekhnkpjeofdpaaDoorGoes
set_option linter.unusedVariables false
set_option maxRecDepth 100000
namespace Go.Proofs.YtekhnkpjeofdpaaDoor.A
open Go.RowKit Go.Proofs.YtekhnkpjeofdpaaDoorW.PrintWords Go.Proofs.YtekhnkpjeofdpaaDoorW.PrintLast Go.Proofs.YtekhnkpjeofdpaaDoorW.PrintMore
section
variable {T : Nat} {P : Rg} {w w' : World} {g : Nat} {m : Mac} {Ac : Option Addr} {cc bm : Nat} {vK vO : Value}
theorem R_turn {e : Nat} {ok ok' : Nat → Prop} {v : Value} {xs : List Int} (h : Kd.R (Kd.int .i64) e w 0 ok v xs) (hk : ∀ k, ok k → k < w.heap.size → ok' k) : Kd.R (Kd.int .i64) e w 0 ok' v xs := by
  have hl := Kd.R_lt h
  obtain ⟨h0, inner, ho, hr⟩ := h
  exact ⟨fun k hk2 => hk k (h0 k hk2) (hl k hk2), inner, ho, hr.imp_ (fun _ _ hp => hp)⟩
theorem IsMx.codelt (h : IsMx T P w g m Ac cc bm vK vO) (hp : 0 < m.code.length) (ad : Addr) (e : Ac = some ad) : ad.block < w.heap.size := by
  subst e; exact Kd.C_lt h.code hp (by simp [Kd.int, Kd.scalar])
theorem IsMx.turn (h : IsMx T P w g m Ac cc bm vK vO) (Q : Rg) (hO : ∀ k, P k → k < w.heap.size → Q k) (hQ : ∀ k, k < w.heap.size → Q k ∨ Q.far k → P k ∨ P.far k) : IsMx T Q w g m Ac cc bm vK vO :=
  { h with
    pg := hO g h.pg (blk_lt h.blk)
    pb := hO bm h.pb (blk_lt h.mblk)
    kept := R_turn h.kept (fun k hk hl => ⟨hO k hk.1 hl, hk.2⟩)
    out := R_turn h.out (fun k hk hl => ⟨hO k hk.1 hl, hk.2⟩)
    csep := fun hp ad e hq => (hQ ad.block (h.codelt hp ad e) (.inl hq)).elim (h.csep hp ad e) (h.cfar hp ad e)
    cfar := fun hp ad e hq => (hQ ad.block (h.codelt hp ad e) (.inr hq)).elim (h.csep hp ad e) (h.cfar hp ad e) }
theorem IsM.turn (h : IsM T P w g m) (Q : Rg) (hO : ∀ k, P k → k < w.heap.size → Q k) (hQ : ∀ k, k < w.heap.size → Q k ∨ Q.far k → P k ∨ P.far k) : IsM T Q w g m := by
  obtain ⟨a, b, c, d, e, h⟩ := h
  exact ⟨a, b, c, d, e, h.turn Q hO hQ⟩
theorem IsM.frame {R : Nat → Prop} (h : IsM T P w g m) (hc : Chg R w w') (hO : ∀ k, P k → k < w.heap.size → ¬ R k) (hF : ∀ k, k < w.heap.size → R k → P.far k) : IsM T ⟨fun k => P k ∧ k < w.heap.size, fun k => P.far k ∨ w.heap.size ≤ k⟩ w' g m := by
  obtain ⟨Ac, cc, bm, vK, vO, h⟩ := h
  have h2 := h.turn ⟨fun k => P k ∧ k < w.heap.size, P.far⟩ (fun k hk hl => ⟨hk, hl⟩) (fun k hl hq => hq.elim (fun x => .inl x.1) .inr)
  refine ⟨Ac, cc, bm, vK, vO, ?_⟩
  exact
    { h2 with
      blk := (hc.block g (blk_lt h.blk) (hO g h.pg (blk_lt h.blk))).trans h.blk
      mblk := (hc.block bm (blk_lt h.mblk) (hO bm h.pb (blk_lt h.mblk))).trans h.mblk
      kept := R_int_step h2.kept (fun k hk hl => hc.block k hl (hO k hk.1.1 hl))
      out := R_int_step h2.out (fun k hk hl => hc.block k hl (hO k hk.1.1 hl))
      code := C_keep h.code (fun hn ad e hl => hc.block ad.block hl (fun hr => h.cfar hn ad e (hF _ hl hr)))
      csep := h2.csep
      cfar := fun hp ad e hq => hq.elim (h.cfar hp ad e) (fun hle => Nat.not_le.2 (h.codelt hp ad e) hle) }
theorem IsM.below (h : IsM T P w g m) (hb : Below w.heap.size w w') : IsM T P w' g m := by
  obtain ⟨a, b, c, d, e, h⟩ := h
  exact ⟨a, b, c, d, e, h.below hb⟩
end
/-- both machines, in blocks from B on -/
def Two (B : Nat) (w : World) (g1 g2 : Nat) (m1 m2 : Mac) : Prop :=
  ∃ O1 O2 : Nat → Prop, IsM 57 ⟨O1, O2⟩ w g1 m1 ∧ IsM 46 ⟨O2, O1⟩ w g2 m2 ∧ (∀ k, O1 k → B ≤ k ∧ k < w.heap.size) ∧ (∀ k, O2 k → B ≤ k ∧ k < w.heap.size) ∧ (∀ k, O1 k → ¬ O2 k)
section
variable {B : Nat} {w w' : World} {g1 g2 : Nat} {m1 m2 : Mac}
theorem Two.below (h : Two B w g1 g2 m1 m2) (hb : Below w.heap.size w w') : Two B w' g1 g2 m1 m2 := by
  obtain ⟨O1, O2, h1, h2, h3, h4, h5⟩ := h
  exact ⟨O1, O2, h1.below hb, h2.below hb, fun k hk => ⟨(h3 k hk).1, Nat.lt_of_lt_of_le (h3 k hk).2 hb.size⟩, fun k hk => ⟨(h4 k hk).1, Nat.lt_of_lt_of_le (h4 k hk).2 hb.size⟩, h5⟩
theorem Two.one (h : Two B w g1 g2 m1 m2) : ∃ P, IsM 57 P w g1 m1 := by obtain ⟨O1, O2, h1, _⟩ := h; exact ⟨_, h1⟩
theorem Two.two (h : Two B w g1 g2 m1 m2) : ∃ P, IsM 46 P w g2 m2 := by obtain ⟨O1, O2, _, h2, _⟩ := h; exact ⟨_, h2⟩
theorem two_step1 (k : Nat) (h : Two B w g1 g2 m1 m2) (hB : B ≤ w.heap.size) (hT : Tab w) (m' : Mac) (he : m1.end_ = 0) (hm : stepF k m1 = some m') :
    Calls Tryd.prog 13 #[.pointer (some ⟨g1, 0, none⟩)] w fun e w' => e = .returned (.tuple #[.bool (m'.end_ == 0), .int .i64 0]) ∧ Two B w' g1 g2 m' m2 ∧ Below B w w' := by
  obtain ⟨O1, O2, h1, h2, h3, h4, h5⟩ := h
  have h1' := h1.turn ⟨fun k => O1 k ∨ w.heap.size ≤ k, O2⟩ (fun k hk _ => .inl hk) (fun k hl hq => by
    rcases hq with (hq | hq) | hq
    · exact .inl hq
    · exact absurd hq (Nat.not_le.2 hl)
    · exact .inr hq)
  refine (stepx_calls k h1' hT (fun k hk => .inr hk) m' he hm).mono fun e w' ⟨he, hi, hc⟩ => ⟨he, ?_, ?_⟩
  · refine ⟨fun k => (O1 k ∨ w.heap.size ≤ k) ∧ k < w'.heap.size, O2, ?_, ?_, ?_, ?_, ?_⟩
    · exact hi.turn _ (fun k hk hl => ⟨hk, hl⟩) (fun k hl hq => hq.elim (fun x => .inl x.1) .inr)
    · have h2' := h2.frame hc (fun k hk hl hr => by
        rcases hr with hr | hr
        · exact h5 k hr hk
        · exact absurd hr (Nat.not_le.2 hl)) (fun k hl hr => by
        rcases hr with hr | hr
        · exact hr
        · exact absurd hr (Nat.not_le.2 hl))
      exact h2'.turn _ (fun k hk hl => hk.1) (fun k hl hq => by
        rcases hq with hq | hq
        · exact .inl ⟨hq, (h4 k hq).2⟩
        · exact .inr hq.1)
    · exact fun k hk => ⟨hk.1.elim (fun x => (h3 k x).1) (fun x => Nat.le_trans hB x), hk.2⟩
    · exact fun k hk => ⟨(h4 k hk).1, Nat.lt_of_lt_of_le (h4 k hk).2 hc.size⟩
    · exact fun k hk hx => hk.1.elim (fun x => h5 k x hx) (fun x => absurd x (Nat.not_le.2 (h4 k hx).2))
  · exact Chg.below hc hB (fun k hk hp => hp.elim (fun x => absurd (h3 k x).1 (Nat.not_le.2 hk)) (fun x => absurd (Nat.le_trans hB x) (Nat.not_le.2 hk)))
theorem two_step2 (k : Nat) (h : Two B w g1 g2 m1 m2) (hB : B ≤ w.heap.size) (m' : Mac) (hcl : m2.code.length ≤ 20000) (hdep : m2.depth = (m2.kept.length : Int)) (hm : stepF (k + 21) m2 = some m') :
    Calls Tryd.prog 17 #[.pointer (some ⟨g2, 0, none⟩)] w fun e w' => e = .returned (.tuple #[]) ∧ Two B w' g1 g2 m1 m' ∧ Below B w w' := by
  obtain ⟨O1, O2, h1, h2, h3, h4, h5⟩ := h
  have h2' := h2.turn ⟨fun k => O2 k ∨ w.heap.size ≤ k, O1⟩ (fun k hk _ => .inl hk) (fun k hl hq => by
    rcases hq with (hq | hq) | hq
    · exact .inl hq
    · exact absurd hq (Nat.not_le.2 hl)
    · exact .inr hq)
  refine (rstep_calls k h2' (fun k hk => .inr hk) m' hcl hdep hm).mono fun e w' ⟨he, hi, hc⟩ => ⟨he, ?_, ?_⟩
  · refine ⟨O1, fun k => (O2 k ∨ w.heap.size ≤ k) ∧ k < w'.heap.size, ?_, ?_, ?_, ?_, ?_⟩
    · have h1' := h1.frame hc (fun k hk hl hr => by
        rcases hr with hr | hr
        · exact h5 k hk hr
        · exact absurd hr (Nat.not_le.2 hl)) (fun k hl hr => by
        rcases hr with hr | hr
        · exact hr
        · exact absurd hr (Nat.not_le.2 hl))
      exact h1'.turn _ (fun k hk hl => hk.1) (fun k hl hq => by
        rcases hq with hq | hq
        · exact .inl ⟨hq, (h3 k hq).2⟩
        · exact .inr hq.1)
    · exact hi.turn _ (fun k hk hl => ⟨hk, hl⟩) (fun k hl hq => hq.elim (fun x => .inl x.1) .inr)
    · exact fun k hk => ⟨(h3 k hk).1, Nat.lt_of_lt_of_le (h3 k hk).2 hc.size⟩
    · exact fun k hk => ⟨hk.1.elim (fun x => (h4 k x).1) (fun x => Nat.le_trans hB x), hk.2⟩
    · exact fun k hk hx => hx.1.elim (fun x => h5 k hk x) (fun x => absurd x (Nat.not_le.2 (h3 k hk).2))
  · exact Chg.below hc hB (fun k hk hp => hp.elim (fun x => absurd (h4 k x).1 (Nat.not_le.2 hk)) (fun x => absurd (Nat.le_trans hB x) (Nat.not_le.2 hk)))
end
/-- Step of a machine that has ended -/
theorem step_ended {P : Rg} {w : World} {g : Nat} {m : Mac} (h : IsM 57 P w g m) (he : m.end_ ≠ 0) :
    Calls Tryd.prog 13 #[.pointer (some ⟨g, 0, none⟩)] w fun e w' => e = .returned (.tuple #[.bool false, .int .i64 9]) ∧ w' = w := by
  have HI := Aside0.mk h
  have b0 : (m.end_ != 0) = true := bne_iff_ne.mpr he
  obtain ⟨Ac, cc, bm, vK, vO, hx⟩ := h
  have c17 := hx.c17
  clear hx he
  go_enter Tryd.func13, Tryd.ntmps13
  go_wp2_with (go_at_call 26; refine (none_calls (P := P) (g := g) (m := m) HI.out).mono ?_; rintro e w2 ⟨rfl, hw⟩; obtain rfl : w = w2 := hw.symm)
  go_ret2
  exact ⟨rfl, rfl⟩
end Go.Proofs.YtekhnkpjeofdpaaDoor.A

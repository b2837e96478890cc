/- groups.part: plain twin and contract. -/
import Derived.Test.YtndennmpnomjnaaDoorOd
import Derived.Deep.RegionHeld3
set_option linter.all false
set_option linter.unusedVariables false
set_option maxRecDepth 100000
namespace Go.Proofs.YtndennmpnomjnaaDoor.A
open Go.RowKit Go.Proofs.YtndennmpnomjnaaDoorW.PrintWords Go.Proofs.YtndennmpnomjnaaDoorW.PrintLast Go.Proofs.YtndennmpnomjnaaDoorW.PrintMore
set_option maxHeartbeats 8000000
/-- How a difference's text begins. -/
def headT (a b : ByteArray) : ByteArray := ((bareB a ++ ⟨#[44, 32]⟩) ++ bareB b) ++ ⟨#[58, 32]⟩
/-- The text of a difference. -/
def partT (a b : ByteArray) (kind e1 c1 e2 c2 : Int) : ByteArray :=
 if kind = 1 then headT a b ++ ⟨#[111, 117, 116]⟩ else if kind = 2 then headT a b ++ ⟨#[109, 111, 114, 101]⟩
 else (((headT a b ++ (if kind = 3 then ⟨#[101, 110, 100, 32]⟩ else ⟨#[99, 111, 100, 101, 32]⟩)) ++ endT e1 c1) ++ ⟨#[32, 47, 32]⟩) ++ endT e2 c2
theorem headT_size (a b : ByteArray) (ha : a.size ≤ 1000000) (hb : b.size ≤ 1000000) : (headT a b).size ≤ 5000000 := by
 have h1 := bareB_size a
 have h2 := bareB_size b
 unfold headT
 rw [bd_add, bd_add, bd_add]
 show _ + 2 + _ + 2 ≤ _
 omega
theorem endT_size (e c : Int) (h0 : -9223372036854775808 ≤ c) (h1 : c ≤ 9223372036854775807) : (endT e c).size ≤ 60 := by
 have := itoaB_size c h0 h1
 unfold endT
 split
 ·show 4 ≤ 60; omega
 split
 ·rw [bd_add]; show 5 + _ ≤ 60; omega
 split
 ·rw [bd_add]; show 10 + _ ≤ 60; omega
 split
 ·show 3 ≤ 60; omega
 ·show 5 ≤ 60; omega
theorem part_calls (b : Nat) (acc : ByteArray) (s1 s2 : ByteArray) (A1 A2 : Option Addr) (n1 k1 n2 k2 : Nat) (kind e1 c1 e2 c2 : Int) (w : World) (h : IsBd b acc w) (hE : Env w) (hBw : b ≤ w.heap.size) (h6 : 6 ≤ b) (hlen : acc.size ≤ 100000) (hs1 : s1.size ≤ 1000000) (hs2 : s2.size ≤ 1000000)
  (hk : kind = 1 ∨ kind = 2 ∨ kind = 3 ∨ kind = 4) (hc10 : -9223372036854775808 ≤ c1) (hc11 : c1 ≤ 9223372036854775807) (hc20 : -9223372036854775808 ≤ c2) (hc21 : c2 ≤ 9223372036854775807) :
  Calls Tryd.prog 25 #[.pointer (some ⟨b, 0, none⟩), .agg #[.string s1, .slice A1 n1 k1, .int .i64 e1, .int .i64 c1], .agg #[.string s2, .slice A2 n2 k2, .int .i64 e2, .int .i64 c2], .int .i64 kind] w fun r w' =>
   r = .returned (.tuple #[]) ∧ Wrote b (acc ++ partT s1 s2 kind e1 c1 e2 c2) w w' := by
 have hbl : b < w.heap.size := by rcases h with h | h <;> exact h.lt
 obtain ⟨W0, hW0⟩ : ∃ W0, W0 = (w.alloc (.cells #[.string s1, .slice A1 n1 k1, .int .i64 e1, .int .i64 c1] 45)).alloc (.cells #[.string s2, .slice A2 n2 k2, .int .i64 e2, .int .i64 c2] 45) := ⟨_, rfl⟩
 have hB0 : Below w.heap.size w W0 := by rw [hW0]; exact below_alloc (below_alloc (Below.refl _ _) _) _
 have h0 : Wrote b acc w W0 := Wrote.grow h hB0 hBw
 have hE0 : Env W0 := hE.below hB0 hE.big
 have hx1 : W0.heap[w.heap.size]? = some (.cells #[.string s1, .slice A1 n1 k1, .int .i64 e1, .int .i64 c1] 45 (0, 0)) := by rw [hW0]; exact blk_alloc (show (w.heap.push _)[w.heap.size]? = _ from Array.getElem?_push_size) _
 have hx2 : W0.heap[w.heap.size + 1]? = some (.cells #[.string s2, .slice A2 n2 k2, .int .i64 e2, .int .i64 c2] 45 (0, 0)) := by
  rw [hW0]
  have e : w.heap.size + 1 = (w.alloc (.cells #[.string s1, .slice A1 n1 k1, .int .i64 e1, .int .i64 c1] 45)).heap.size := (Array.size_push ..).symm
  rw [e]
  exact Array.getElem?_push_size
 have hcell : ∀ w', Lib.OthersKept 5 (some b) W0 w' → w'.cell? ⟨w.heap.size, 0, none⟩ = some (.string s1) ∧ w'.cell? ⟨w.heap.size, 1, none⟩ = some (.slice A1 n1 k1) ∧ w'.cell? ⟨w.heap.size, 2, none⟩ = some (.int .i64 e1) ∧ w'.cell? ⟨w.heap.size, 3, none⟩ = some (.int .i64 c1) ∧
   w'.cell? ⟨w.heap.size + 1, 0, none⟩ = some (.string s2) ∧ w'.cell? ⟨w.heap.size + 1, 1, none⟩ = some (.slice A2 n2 k2) ∧ w'.cell? ⟨w.heap.size + 1, 2, none⟩ = some (.int .i64 e2) ∧ w'.cell? ⟨w.heap.size + 1, 3, none⟩ = some (.int .i64 c2) := fun w' hk => by
  have y1 := hk _ _ hx1 (fun e => by have := Option.some.inj e; omega) (fun c fz e => by cases e)
  have y2 := hk _ _ hx2 (fun e => by have := Option.some.inj e; omega) (fun c fz e => by cases e)
  exact ⟨(blk_cell y1 0).trans rfl, (blk_cell y1 1).trans rfl, (blk_cell y1 2).trans rfl, (blk_cell y1 3).trans rfl, (blk_cell y2 0).trans rfl, (blk_cell y2 1).trans rfl, (blk_cell y2 2).trans rfl, (blk_cell y2 3).trans rfl⟩
 have hsz := headT_size s1 s2 hs1 hs2
 have hb1 := bareB_size s1
 have hb2 := bareB_size s2
 have he1 := endT_size e1 c1 hc10 hc11
 have he2 := endT_size e2 c2 hc20 hc21
 -- the calls
 have HA := Aside0.mk (fun (w' : World) (hb : Below W0.heap.size W0 w') => bare_calls s1 w' hs1 (hE0.below hb hE0.big))
 have HB := Aside0.mk (fun (w' : World) (hb : Below W0.heap.size W0 w') => bare_calls s2 w' hs2 (hE0.below hb hE0.big))
 have HW := Aside0.mk (fun (w' : World) (hb : Below W0.heap.size W0 w') => write_calls b acc (headT s1 s2) W0 w' (Wrote.grow h0.1 hb (Nat.le_trans hBw hB0.size)) (by omega) (Nat.le_trans hBw hB0.size))
 have HWW := Aside0.mk (fun (x s : ByteArray) (w' : World) (hw : Wrote b x W0 w') (hx : x.size + s.size ≤ 140737488355328) => write_calls b x s W0 w' hw hx (Nat.le_trans hBw hB0.size))
 have hen : ∀ (x : ByteArray) (A : Option Addr) (n c : Nat) (e code : Int) (w' : World), Wrote b x W0 w' → x.size ≤ 1000000000 → -9223372036854775808 ≤ code → code ≤ 9223372036854775807 → Calls Tryd.prog 47 #[.pointer (some ⟨b, 0, none⟩), .agg #[.slice A n c, .int .i64 e, .int .i64 code]] w' fun r w2 => r = .returned (.tuple #[]) ∧ Wrote b (x ++ endT e code) W0 w2 := fun x A n c e code w' hw hx hc0 hc1 =>
  (end_calls b x A n c e code w' hw.1 (hE0.below hw.2.1 h6) (Nat.le_trans (Nat.le_trans hBw hB0.size) hw.2.1.size) hx hc0 hc1).mono (fun r w2 h => And.intro h.1 (hw.trans h.2))
 have HEN := Aside0.mk hen
 clear hen
 have HCELL := Aside0.mk hcell
 have HKEEP := Aside0.mk (fun (w' : World) (hb : Below W0.heap.size W0 w') => And.intro (hcell w' (kept_below hb)).1 (hcell w' (kept_below hb)).2.2.2.2.1)
 have H0 := Aside0.mk h0
 have HC1 := Aside0.mk (And.intro hc10 hc11)
 have HC2 := Aside0.mk (And.intro hc20 hc21)
 obtain ⟨RA, hRA⟩ : ∃ R, R = bareB s1 := ⟨_, rfl⟩
 obtain ⟨RB, hRB⟩ : ∃ R, R = bareB s2 := ⟨_, rfl⟩
 have hH : headT s1 s2 = ((RA ++ ⟨#[44, 32]⟩) ++ RB) ++ ⟨#[58, 32]⟩ := by rw [hRA, hRB]; rfl
 rw [← hRA] at hb1
 rw [← hRB] at hb2
 rw [hH] at HW
 simp only [← hRA] at HA
 simp only [← hRB] at HB
 have z1 : (9223372036854775807 < RA.size + 2) = False := eq_false (by omega)
 have z2 : (9223372036854775807 < RA.size + 2 + RB.size) = False := eq_false (by omega)
 have z3 : (9223372036854775807 < RA.size + 2 + RB.size + 2) = False := eq_false (by omega)
 obtain ⟨p0, p1, p2, p3, q0, q1, q2, q3⟩ := hcell W0 (Lib.OthersKept.refl _ _ _)
 have HACC := Aside0.mk (And.intro hlen (And.intro hsz (And.intro he1 he2)))
 have HHD := Aside0.mk hH
 clear h0 hcell hsz hb1 hb2 he1 he2 hc10 hc11 hc20 hc21 hRA hRB hH hx1 hx2 hE0 hE hlen hs1 hs2 h6 h hbl
 rcases hk with rfl | rfl | rfl | rfl
 ·rw [show partT s1 s2 1 e1 c1 e2 c2 = headT s1 s2 ++ ⟨#[111, 117, 116]⟩ from rfl]
  go_enter Tryd.func25, Tryd.ntmps25
  go_wp2_with fail
  rw [← hW0]
  clear hW0
  go_region_held3 (fun w' => w'.cell? ⟨w.heap.size, 0, none⟩ = some (.string s1) ∧ w'.cell? ⟨w.heap.size + 1, 0, none⟩ = some (.string s2)) (first | exact ⟨p0, q0⟩ | (refine ⟨?_, ?_⟩; (have h_ := HCELL.out _ HW3.out.2.2; exact h_.1); (have h_ := HCELL.out _ HW3.out.2.2; exact h_.2.2.2.2.1)) | (refine HKEEP.out _ ?_; exact (by first | ((repeat (first | (with_reducible exact HBb.out) | (with_reducible exact HBa.out) | (with_reducible exact Below.refl _ _) | (with_reducible apply below_alloc) | (with_reducible apply pw_below_drewN) | (with_reducible apply below_drew1))); done) | exact HBb.out | exact HBa.out))) (first | (go_at_call 46; (with_reducible refine (HA.out _ ?bel).mono ?_); (case bel => exact (by first | ((repeat (first | (with_reducible exact HBb.out) | (with_reducible exact HBa.out) | (with_reducible exact Below.refl _ _) | (with_reducible apply below_alloc) | (with_reducible apply pw_below_drewN) | (with_reducible apply below_drew1))); done) | exact HBb.out | exact HBa.out)); rintro e w2 ⟨rfl, hb2⟩; have HBa := Aside0.mk (show Below W0.heap.size W0 w2 from below_step (by first | ((repeat (first | (with_reducible exact HBb.out) | (with_reducible exact HBa.out) | (with_reducible exact Below.refl _ _) | (with_reducible apply below_alloc) | (with_reducible apply pw_below_drewN) | (with_reducible apply below_drew1))); done) | exact HBb.out | exact HBa.out) hb2); clear hb2) | (go_at_call 46; (with_reducible refine (HB.out _ ?bel).mono ?_); (case bel => exact (by first | ((repeat (first | (with_reducible exact HBb.out) | (with_reducible exact HBa.out) | (with_reducible exact Below.refl _ _) | (with_reducible apply below_alloc) | (with_reducible apply pw_below_drewN) | (with_reducible apply below_drew1))); done) | exact HBb.out | exact HBa.out)); rintro e w2 ⟨rfl, hb2⟩; have HBb := Aside0.mk (show Below W0.heap.size W0 w2 from below_step (by first | ((repeat (first | (with_reducible exact HBb.out) | (with_reducible exact HBa.out) | (with_reducible exact Below.refl _ _) | (with_reducible apply below_alloc) | (with_reducible apply pw_below_drewN) | (with_reducible apply below_drew1))); done) | exact HBb.out | exact HBa.out) hb2); clear hb2) | (go_at_call 45; (with_reducible refine (HW.out _ ?bel).mono ?_); (case bel => exact (by first | ((repeat (first | (with_reducible exact HBb.out) | (with_reducible exact HBa.out) | (with_reducible exact Below.refl _ _) | (with_reducible apply below_alloc) | (with_reducible apply pw_below_drewN) | (with_reducible apply below_drew1))); done) | exact HBb.out | exact HBa.out)); rintro e w3 ⟨m, rfl, hwr⟩; have HW3 := Aside0.mk hwr; clear hwr))
  all_goals (
   have hw3 := HW3.out
   rw [← HHD.out] at hw3
   have HX := Aside0.mk (HWW.out _ ⟨#[111, 117, 116]⟩ _ hw3 (by have h_ := HACC.out; rw [bd_add]; show _ + _ + 3 ≤ _; omega))
   clear hw3
   go_wp2_with (go_at_call 45; refine HX.out.mono ?_; rintro e w4 ⟨m4, rfl, hw4⟩)
   (try simp only [Exit.inBlock, Exit.then]); refine bodyPost_ret (results_none rfl _ _ _) rfl ?_
   refine ⟨rfl, H0.out.trans ?_⟩
   rw [← ByteArray.append_assoc]
   exact hw4)
 ·rw [show partT s1 s2 2 e1 c1 e2 c2 = headT s1 s2 ++ ⟨#[109, 111, 114, 101]⟩ from rfl]
  go_enter Tryd.func25, Tryd.ntmps25
  go_wp2_with fail
  rw [← hW0]
  clear hW0
  go_region_held3 (fun w' => w'.cell? ⟨w.heap.size, 0, none⟩ = some (.string s1) ∧ w'.cell? ⟨w.heap.size + 1, 0, none⟩ = some (.string s2)) (first | exact ⟨p0, q0⟩ | (refine ⟨?_, ?_⟩; (have h_ := HCELL.out _ HW3.out.2.2; exact h_.1); (have h_ := HCELL.out _ HW3.out.2.2; exact h_.2.2.2.2.1)) | (refine HKEEP.out _ ?_; exact (by first | ((repeat (first | (with_reducible exact HBb.out) | (with_reducible exact HBa.out) | (with_reducible exact Below.refl _ _) | (with_reducible apply below_alloc) | (with_reducible apply pw_below_drewN) | (with_reducible apply below_drew1))); done) | exact HBb.out | exact HBa.out))) (first | (go_at_call 46; (with_reducible refine (HA.out _ ?bel).mono ?_); (case bel => exact (by first | ((repeat (first | (with_reducible exact HBb.out) | (with_reducible exact HBa.out) | (with_reducible exact Below.refl _ _) | (with_reducible apply below_alloc) | (with_reducible apply pw_below_drewN) | (with_reducible apply below_drew1))); done) | exact HBb.out | exact HBa.out)); rintro e w2 ⟨rfl, hb2⟩; have HBa := Aside0.mk (show Below W0.heap.size W0 w2 from below_step (by first | ((repeat (first | (with_reducible exact HBb.out) | (with_reducible exact HBa.out) | (with_reducible exact Below.refl _ _) | (with_reducible apply below_alloc) | (with_reducible apply pw_below_drewN) | (with_reducible apply below_drew1))); done) | exact HBb.out | exact HBa.out) hb2); clear hb2) | (go_at_call 46; (with_reducible refine (HB.out _ ?bel).mono ?_); (case bel => exact (by first | ((repeat (first | (with_reducible exact HBb.out) | (with_reducible exact HBa.out) | (with_reducible exact Below.refl _ _) | (with_reducible apply below_alloc) | (with_reducible apply pw_below_drewN) | (with_reducible apply below_drew1))); done) | exact HBb.out | exact HBa.out)); rintro e w2 ⟨rfl, hb2⟩; have HBb := Aside0.mk (show Below W0.heap.size W0 w2 from below_step (by first | ((repeat (first | (with_reducible exact HBb.out) | (with_reducible exact HBa.out) | (with_reducible exact Below.refl _ _) | (with_reducible apply below_alloc) | (with_reducible apply pw_below_drewN) | (with_reducible apply below_drew1))); done) | exact HBb.out | exact HBa.out) hb2); clear hb2) | (go_at_call 45; (with_reducible refine (HW.out _ ?bel).mono ?_); (case bel => exact (by first | ((repeat (first | (with_reducible exact HBb.out) | (with_reducible exact HBa.out) | (with_reducible exact Below.refl _ _) | (with_reducible apply below_alloc) | (with_reducible apply pw_below_drewN) | (with_reducible apply below_drew1))); done) | exact HBb.out | exact HBa.out)); rintro e w3 ⟨m, rfl, hwr⟩; have HW3 := Aside0.mk hwr; clear hwr))
  all_goals (
   have hw3 := HW3.out
   rw [← HHD.out] at hw3
   have HX := Aside0.mk (HWW.out _ ⟨#[109, 111, 114, 101]⟩ _ hw3 (by have h_ := HACC.out; rw [bd_add]; show _ + _ + 4 ≤ _; omega))
   clear hw3
   go_wp2_with (go_at_call 45; refine HX.out.mono ?_; rintro e w4 ⟨m4, rfl, hw4⟩)
   (try simp only [Exit.inBlock, Exit.then]); refine bodyPost_ret (results_none rfl _ _ _) rfl ?_
   refine ⟨rfl, H0.out.trans ?_⟩
   rw [← ByteArray.append_assoc]
   exact hw4)
 ·rw [show partT s1 s2 3 e1 c1 e2 c2 = (((headT s1 s2 ++ ⟨#[101, 110, 100, 32]⟩) ++ endT e1 c1) ++ ⟨#[32, 47, 32]⟩) ++ endT e2 c2 from rfl]
  go_enter Tryd.func25, Tryd.ntmps25
  go_wp2_with fail
  rw [← hW0]
  clear hW0
  go_region_held3 (fun w' => w'.cell? ⟨w.heap.size, 0, none⟩ = some (.string s1) ∧ w'.cell? ⟨w.heap.size + 1, 0, none⟩ = some (.string s2)) (first | exact ⟨p0, q0⟩ | (refine ⟨?_, ?_⟩; (have h_ := HCELL.out _ HW3.out.2.2; exact h_.1); (have h_ := HCELL.out _ HW3.out.2.2; exact h_.2.2.2.2.1)) | (refine HKEEP.out _ ?_; exact (by first | ((repeat (first | (with_reducible exact HBb.out) | (with_reducible exact HBa.out) | (with_reducible exact Below.refl _ _) | (with_reducible apply below_alloc) | (with_reducible apply pw_below_drewN) | (with_reducible apply below_drew1))); done) | exact HBb.out | exact HBa.out))) (first | (go_at_call 46; (with_reducible refine (HA.out _ ?bel).mono ?_); (case bel => exact (by first | ((repeat (first | (with_reducible exact HBb.out) | (with_reducible exact HBa.out) | (with_reducible exact Below.refl _ _) | (with_reducible apply below_alloc) | (with_reducible apply pw_below_drewN) | (with_reducible apply below_drew1))); done) | exact HBb.out | exact HBa.out)); rintro e w2 ⟨rfl, hb2⟩; have HBa := Aside0.mk (show Below W0.heap.size W0 w2 from below_step (by first | ((repeat (first | (with_reducible exact HBb.out) | (with_reducible exact HBa.out) | (with_reducible exact Below.refl _ _) | (with_reducible apply below_alloc) | (with_reducible apply pw_below_drewN) | (with_reducible apply below_drew1))); done) | exact HBb.out | exact HBa.out) hb2); clear hb2) | (go_at_call 46; (with_reducible refine (HB.out _ ?bel).mono ?_); (case bel => exact (by first | ((repeat (first | (with_reducible exact HBb.out) | (with_reducible exact HBa.out) | (with_reducible exact Below.refl _ _) | (with_reducible apply below_alloc) | (with_reducible apply pw_below_drewN) | (with_reducible apply below_drew1))); done) | exact HBb.out | exact HBa.out)); rintro e w2 ⟨rfl, hb2⟩; have HBb := Aside0.mk (show Below W0.heap.size W0 w2 from below_step (by first | ((repeat (first | (with_reducible exact HBb.out) | (with_reducible exact HBa.out) | (with_reducible exact Below.refl _ _) | (with_reducible apply below_alloc) | (with_reducible apply pw_below_drewN) | (with_reducible apply below_drew1))); done) | exact HBb.out | exact HBa.out) hb2); clear hb2) | (go_at_call 45; (with_reducible refine (HW.out _ ?bel).mono ?_); (case bel => exact (by first | ((repeat (first | (with_reducible exact HBb.out) | (with_reducible exact HBa.out) | (with_reducible exact Below.refl _ _) | (with_reducible apply below_alloc) | (with_reducible apply pw_below_drewN) | (with_reducible apply below_drew1))); done) | exact HBb.out | exact HBa.out)); rintro e w3 ⟨m, rfl, hwr⟩; have HW3 := Aside0.mk hwr; clear hwr))
  all_goals (
   have hw3 := HW3.out
   rw [← HHD.out] at hw3
   have HX := Aside0.mk (HWW.out _ ⟨#[101, 110, 100, 32]⟩ _ hw3 (by have h_ := HACC.out; rw [bd_add]; show _ + _ + 4 ≤ _; omega))
   clear hw3
   go_wp2_with (first | (go_at_call 45; (with_reducible refine HX.out.mono ?_); rintro e w4 ⟨m4, rfl, hw4⟩; (have HW4 := Aside0.mk hw4); clear hw4; (obtain ⟨x40, x41, x42, x43, y40, y41, y42, y43⟩ := HCELL.out _ HW4.out.2.2)) | (go_at_call 47; (with_reducible refine (HEN.out _ A1 n1 k1 e1 c1 _ HW4.out ?sz ?ca ?cb).mono ?_); (case sz => have h_ := HACC.out; rw [bd_add, bd_add]; show _ + _ + 4 ≤ _; omega); (case ca => exact HC1.out.1); (case cb => exact HC1.out.2); rintro e w5 ⟨rfl, hw5⟩; (have HW5 := Aside0.mk hw5); clear hw5) | (go_at_call 45; (with_reducible refine (HWW.out _ ⟨#[32, 47, 32]⟩ _ HW5.out ?sz).mono ?_); (case sz => have h_ := HACC.out; rw [bd_add, bd_add, bd_add]; show _ + _ + 4 + _ + 3 ≤ _; omega); rintro e w6 ⟨m6, rfl, hw6⟩; (have HW6 := Aside0.mk hw6); clear hw6; (obtain ⟨x60, x61, x62, x63, y60, y61, y62, y63⟩ := HCELL.out _ HW6.out.2.2)) | (go_at_call 47; (with_reducible refine (HEN.out _ A2 n2 k2 e2 c2 _ HW6.out ?sz ?ca ?cb).mono ?_); (case sz => have h_ := HACC.out; rw [bd_add, bd_add, bd_add, bd_add]; show _ + _ + 4 + _ + 3 ≤ _; omega); (case ca => exact HC2.out.1); (case cb => exact HC2.out.2); rintro e w7 ⟨rfl, hw7⟩; (have HW7 := Aside0.mk hw7); clear hw7))
   go_end0
   refine ⟨rfl, H0.out.trans ?_⟩
   have hw7 := HW7.out
   simp only [ByteArray.append_assoc] at hw7 ⊢
   exact hw7)
 ·rw [show partT s1 s2 4 e1 c1 e2 c2 = (((headT s1 s2 ++ ⟨#[99, 111, 100, 101, 32]⟩) ++ endT e1 c1) ++ ⟨#[32, 47, 32]⟩) ++ endT e2 c2 from rfl]
  go_enter Tryd.func25, Tryd.ntmps25
  go_wp2_with fail
  rw [← hW0]
  clear hW0
  go_region_held3 (fun w' => w'.cell? ⟨w.heap.size, 0, none⟩ = some (.string s1) ∧ w'.cell? ⟨w.heap.size + 1, 0, none⟩ = some (.string s2)) (first | exact ⟨p0, q0⟩ | (refine ⟨?_, ?_⟩; (have h_ := HCELL.out _ HW3.out.2.2; exact h_.1); (have h_ := HCELL.out _ HW3.out.2.2; exact h_.2.2.2.2.1)) | (refine HKEEP.out _ ?_; exact (by first | ((repeat (first | (with_reducible exact HBb.out) | (with_reducible exact HBa.out) | (with_reducible exact Below.refl _ _) | (with_reducible apply below_alloc) | (with_reducible apply pw_below_drewN) | (with_reducible apply below_drew1))); done) | exact HBb.out | exact HBa.out))) (first | (go_at_call 46; (with_reducible refine (HA.out _ ?bel).mono ?_); (case bel => exact (by first | ((repeat (first | (with_reducible exact HBb.out) | (with_reducible exact HBa.out) | (with_reducible exact Below.refl _ _) | (with_reducible apply below_alloc) | (with_reducible apply pw_below_drewN) | (with_reducible apply below_drew1))); done) | exact HBb.out | exact HBa.out)); rintro e w2 ⟨rfl, hb2⟩; have HBa := Aside0.mk (show Below W0.heap.size W0 w2 from below_step (by first | ((repeat (first | (with_reducible exact HBb.out) | (with_reducible exact HBa.out) | (with_reducible exact Below.refl _ _) | (with_reducible apply below_alloc) | (with_reducible apply pw_below_drewN) | (with_reducible apply below_drew1))); done) | exact HBb.out | exact HBa.out) hb2); clear hb2) | (go_at_call 46; (with_reducible refine (HB.out _ ?bel).mono ?_); (case bel => exact (by first | ((repeat (first | (with_reducible exact HBb.out) | (with_reducible exact HBa.out) | (with_reducible exact Below.refl _ _) | (with_reducible apply below_alloc) | (with_reducible apply pw_below_drewN) | (with_reducible apply below_drew1))); done) | exact HBb.out | exact HBa.out)); rintro e w2 ⟨rfl, hb2⟩; have HBb := Aside0.mk (show Below W0.heap.size W0 w2 from below_step (by first | ((repeat (first | (with_reducible exact HBb.out) | (with_reducible exact HBa.out) | (with_reducible exact Below.refl _ _) | (with_reducible apply below_alloc) | (with_reducible apply pw_below_drewN) | (with_reducible apply below_drew1))); done) | exact HBb.out | exact HBa.out) hb2); clear hb2) | (go_at_call 45; (with_reducible refine (HW.out _ ?bel).mono ?_); (case bel => exact (by first | ((repeat (first | (with_reducible exact HBb.out) | (with_reducible exact HBa.out) | (with_reducible exact Below.refl _ _) | (with_reducible apply below_alloc) | (with_reducible apply pw_below_drewN) | (with_reducible apply below_drew1))); done) | exact HBb.out | exact HBa.out)); rintro e w3 ⟨m, rfl, hwr⟩; have HW3 := Aside0.mk hwr; clear hwr))
  all_goals (
   have hw3 := HW3.out
   rw [← HHD.out] at hw3
   have HX := Aside0.mk (HWW.out _ ⟨#[99, 111, 100, 101, 32]⟩ _ hw3 (by have h_ := HACC.out; rw [bd_add]; show _ + _ + 5 ≤ _; omega))
   clear hw3
   go_wp2_with (first | (go_at_call 45; (with_reducible refine HX.out.mono ?_); rintro e w4 ⟨m4, rfl, hw4⟩; (have HW4 := Aside0.mk hw4); clear hw4; (obtain ⟨x40, x41, x42, x43, y40, y41, y42, y43⟩ := HCELL.out _ HW4.out.2.2)) | (go_at_call 47; (with_reducible refine (HEN.out _ A1 n1 k1 e1 c1 _ HW4.out ?sz ?ca ?cb).mono ?_); (case sz => have h_ := HACC.out; rw [bd_add, bd_add]; show _ + _ + 5 ≤ _; omega); (case ca => exact HC1.out.1); (case cb => exact HC1.out.2); rintro e w5 ⟨rfl, hw5⟩; (have HW5 := Aside0.mk hw5); clear hw5) | (go_at_call 45; (with_reducible refine (HWW.out _ ⟨#[32, 47, 32]⟩ _ HW5.out ?sz).mono ?_); (case sz => have h_ := HACC.out; rw [bd_add, bd_add, bd_add]; show _ + _ + 5 + _ + 3 ≤ _; omega); rintro e w6 ⟨m6, rfl, hw6⟩; (have HW6 := Aside0.mk hw6); clear hw6; (obtain ⟨x60, x61, x62, x63, y60, y61, y62, y63⟩ := HCELL.out _ HW6.out.2.2)) | (go_at_call 47; (with_reducible refine (HEN.out _ A2 n2 k2 e2 c2 _ HW6.out ?sz ?ca ?cb).mono ?_); (case sz => have h_ := HACC.out; rw [bd_add, bd_add, bd_add, bd_add]; show _ + _ + 5 + _ + 3 ≤ _; omega); (case ca => exact HC2.out.1); (case cb => exact HC2.out.2); rintro e w7 ⟨rfl, hw7⟩; (have HW7 := Aside0.mk hw7); clear hw7))
   go_end0
   refine ⟨rfl, H0.out.trans ?_⟩
   have hw7 := HW7.out
   simp only [ByteArray.append_assoc] at hw7 ⊢
   exact hw7)
end Go.Proofs.YtndennmpnomjnaaDoor.A

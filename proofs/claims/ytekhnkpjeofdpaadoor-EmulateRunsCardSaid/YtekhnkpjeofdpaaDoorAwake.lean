/- cupellaw23: ends, awake: contracts (where the two tables lie). -/
import Derived.Test.YtekhnkpjeofdpaaDoorMacRun2
import Derived.Test.YtekhnkpjeofdpaaDoorAx12
set_option linter.unusedVariables false
set_option maxRecDepth 100000
namespace Go.Proofs.YtekhnkpjeofdpaaDoor.A
open Go.RowKit Go.Proofs.YtekhnkpjeofdpaaDoorW.PrintWords Go.Proofs.YtekhnkpjeofdpaaDoorW.PrintLast Go.Proofs.YtekhnkpjeofdpaaDoorW.PrintMore
set_option maxHeartbeats 4000000
theorem ends_calls (k : Nat) (txt : ByteArray) (n : Nat) (cd da : List Int) (en : Int) (m' : Mac) (w : World) (hT : Tab w) (hof : cupellaw23_of.f k txt = some (cd, da, en)) (hl : cd.length ≤ 20000) (hl1 : da.length ≤ 20000) (h : target_Check.f k cd da en = some 0) (hn : n ≤ 5000000) (hr : runF k n (mac0 cd da en) = some m') (ho : m'.out.length ≤ 2000) :
    Calls Tryd.prog 21 #[.string txt, .int .i64 (n : Int), .int .i64 (endOf m'), .int .i64 m'.why, .int .i64 (m'.out.length : Int)] w fun e w' => e = .returned (.bool true) ∧ Below w.heap.size w w' := by
  have HT := Aside0.mk hT
  have HF := Aside0.mk hof
  have HH := Aside0.mk h
  have HRN := Aside0.mk hr
  have HO := Aside0.mk ho
  have HN := Aside0.mk hn
  have HB := Aside0.mk (Below.refl w.heap.size w)
  clear hT hof h hr ho hn
  go_enter Tryd.func21, Tryd.ntmps21
  go_wp2_with (first | (go_at_call 34; refine (cupellaw23_of.calls k txt cd da en _ HF.out).mono ?_; rintro e w2 ⟨v0, v1, rfl, hr0, hr1, hb⟩; obtain ⟨A0, c0, e0⟩ := Kd.R_slice hr0; obtain ⟨A1, c1, e1⟩ := Kd.R_slice hr1; subst e0; subst e1; have HR0 := Aside0.mk hr0; have HR1 := Aside0.mk hr1; have HB2 := Aside0.mk (below_step HB.out hb); clear hr0 hr1 hb) | (go_at_call 9; refine (run_calls k A0 c0 cd A1 c1 da en n m' w2 (Tab.below HT.out HB2.out) (Kd.R_reads' HR0.out).2.2 (Kd.R_reads' HR0.out).2.1 (Kd.R_reads' HR1.out).2.2 (Kd.R_reads' HR1.out).2.1 hl hl1 HH.out HN.out HRN.out HO.out).mono ?_; rintro e w3 ⟨v3, rfl, hr3, hb⟩; obtain ⟨A3, c3, e3⟩ := Kd.R_slice hr3; subst e3; have HB3 := Aside0.mk (below_step HB2.out hb); clear hr3 hb))
  go_ret
  exact ⟨by first | rfl | simp, by repeat (first | (with_reducible exact HB3.out) | (with_reducible apply below_alloc) | (with_reducible apply pw_below_drewN) | (with_reducible apply below_drew1))⟩
def endsF (k : Nat) (txt : ByteArray) (steps : Nat) : Option (Int × Int × Nat) := (cupellaw23_of.f k txt).bind fun r => if r.1.length ≤ 20000 ∧ r.2.1.length ≤ 20000 then (target_Check.f k r.1 r.2.1 r.2.2).bind fun e => if e = 0 then (runF k steps (mac0 r.1 r.2.1 r.2.2)).map fun m => (endOf m, m.why, m.out.length) else none else none
theorem ends_of (k : Nat) (txt : ByteArray) (n : Nat) (E C : Int) (O : Nat) (h : endsF k txt n = some (E, C, O)) (hn : n ≤ 5000000) (hO : O ≤ 2000) (w : World) (hT : Tab w) :
    Calls Tryd.prog 21 #[.string txt, .int .i64 (n : Int), .int .i64 E, .int .i64 C, .int .i64 (O : Int)] w fun e w' => e = .returned (.bool true) ∧ Below w.heap.size w w' := by
  obtain ⟨⟨cd, da, en⟩, h1, h⟩ := Option.bind_eq_some_iff.1 h
  by_cases hl : cd.length ≤ 20000 ∧ da.length ≤ 20000
  · rw [if_pos hl] at h
    obtain ⟨e, h2, h⟩ := Option.bind_eq_some_iff.1 h
    by_cases he : e = 0
    · subst he
      rw [if_pos rfl] at h
      obtain ⟨m', h3, h4⟩ := Option.map_eq_some_iff.1 h
      simp only [Prod.mk.injEq] at h4
      obtain ⟨rfl, rfl, rfl⟩ := h4
      exact ends_calls k txt n cd da en m' w hT h1 hl.1 hl.2 h2 hn h3 hO
    · rw [if_neg he] at h
      exact absurd h (by simp)
  · rw [if_neg hl] at h
    exact absurd h (by simp)
theorem aw0 (w : World) (hT : Tab w) : Calls Tryd.prog 21 #[.string ⟨#[101, 110, 116, 114, 121, 32, 48, 59, 32, 115, 101, 116, 32, 114, 48, 44, 32, 55, 59, 32, 112, 114, 105, 110, 116, 32, 114, 48, 59, 32, 104, 97, 108, 116, 59]⟩, .int .i64 3, .int .i64 1, .int .i64 0, .int .i64 1] w fun e w' => e = .returned (.bool true) ∧ Below w.heap.size w w' :=
  ends_of 200 ⟨#[101, 110, 116, 114, 121, 32, 48, 59, 32, 115, 101, 116, 32, 114, 48, 44, 32, 55, 59, 32, 112, 114, 105, 110, 116, 32, 114, 48, 59, 32, 104, 97, 108, 116, 59]⟩ 3 1 0 1 (by decide +kernel) (by omega) (by omega) w hT
theorem aw1 (w : World) (hT : Tab w) : Calls Tryd.prog 21 #[.string ⟨#[101, 110, 116, 114, 121, 32, 48, 59, 32, 115, 101, 116, 32, 114, 48, 44, 32, 55, 59, 32, 112, 114, 105, 110, 116, 32, 114, 48, 59, 32, 104, 97, 108, 116, 59]⟩, .int .i64 2, .int .i64 4, .int .i64 0, .int .i64 1] w fun e w' => e = .returned (.bool true) ∧ Below w.heap.size w w' :=
  ends_of 200 ⟨#[101, 110, 116, 114, 121, 32, 48, 59, 32, 115, 101, 116, 32, 114, 48, 44, 32, 55, 59, 32, 112, 114, 105, 110, 116, 32, 114, 48, 59, 32, 104, 97, 108, 116, 59]⟩ 2 4 0 1 (by decide +kernel) (by omega) (by omega) w hT
theorem aw2 (w : World) (hT : Tab w) : Calls Tryd.prog 21 #[.string ⟨#[101, 110, 116, 114, 121, 32, 48, 59, 32, 99, 97, 108, 108, 32, 48, 59]⟩, .int .i64 100, .int .i64 2, .int .i64 12, .int .i64 0] w fun e w' => e = .returned (.bool true) ∧ Below w.heap.size w w' :=
  ends_of 200 ⟨#[101, 110, 116, 114, 121, 32, 48, 59, 32, 99, 97, 108, 108, 32, 48, 59]⟩ 100 2 12 0 (by decide +kernel) (by omega) (by omega) w hT
theorem aw3 (w : World) (hT : Tab w) : Calls Tryd.prog 21 #[.string ⟨#[101, 110, 116, 114, 121, 32, 48, 59, 32, 99, 97, 108, 108, 32, 48, 59]⟩, .int .i64 64, .int .i64 4, .int .i64 0, .int .i64 0] w fun e w' => e = .returned (.bool true) ∧ Below w.heap.size w w' :=
  ends_of 200 ⟨#[101, 110, 116, 114, 121, 32, 48, 59, 32, 99, 97, 108, 108, 32, 48, 59]⟩ 64 4 0 0 (by decide +kernel) (by omega) (by omega) w hT
theorem aw4 (w : World) (hT : Tab w) : Calls Tryd.prog 21 #[.string ⟨#[101, 110, 116, 114, 121, 32, 48, 59, 32, 115, 101, 116, 32, 114, 49, 44, 32, 50, 48, 48, 48, 48, 59, 32, 108, 111, 97, 100, 32, 114, 48, 44, 32, 45, 49, 40, 114, 49, 41, 59, 32, 108, 111, 97, 100, 32, 114, 48, 44, 32, 48, 40, 114, 49, 41, 59]⟩, .int .i64 9, .int .i64 2, .int .i64 10, .int .i64 0] w fun e w' => e = .returned (.bool true) ∧ Below w.heap.size w w' :=
  ends_of 200 ⟨#[101, 110, 116, 114, 121, 32, 48, 59, 32, 115, 101, 116, 32, 114, 49, 44, 32, 50, 48, 48, 48, 48, 59, 32, 108, 111, 97, 100, 32, 114, 48, 44, 32, 45, 49, 40, 114, 49, 41, 59, 32, 108, 111, 97, 100, 32, 114, 48, 44, 32, 48, 40, 114, 49, 41, 59]⟩ 9 2 10 0 (by decide +kernel) (by omega) (by omega) w hT
theorem aw5 (w : World) (hT : Tab w) : Calls Tryd.prog 21 #[.string ⟨#[101, 110, 116, 114, 121, 32, 49, 59, 32, 104, 97, 108, 116, 59]⟩, .int .i64 9, .int .i64 2, .int .i64 11, .int .i64 0] w fun e w' => e = .returned (.bool true) ∧ Below w.heap.size w w' :=
  ends_of 200 ⟨#[101, 110, 116, 114, 121, 32, 49, 59, 32, 104, 97, 108, 116, 59]⟩ 9 2 11 0 (by decide +kernel) (by omega) (by omega) w hT
theorem awake_calls (w : World) (hT : Tab w) : Calls Tryd.prog 8 #[] w fun e w' => e = .returned (.bool true) ∧ Below w.heap.size w w' := by
  have HT := Aside0.mk hT
  have HB := Aside0.mk (Below.refl w.heap.size w)
  clear hT
  go_enter Tryd.func8, Tryd.ntmps8
  go_wp2_with (go_at_call 21; (first | ((with_reducible refine (aw0 _ (Tab.below HT.out HB.out)).mono ?_); rintro e w2 ⟨rfl, hb⟩; have HB' := Aside0.mk (below_step HB.out hb); clear HB hb; have HB := HB'; clear HB') | ((with_reducible refine (aw1 _ (Tab.below HT.out HB.out)).mono ?_); rintro e w2 ⟨rfl, hb⟩; have HB' := Aside0.mk (below_step HB.out hb); clear HB hb; have HB := HB'; clear HB') | ((with_reducible refine (aw2 _ (Tab.below HT.out HB.out)).mono ?_); rintro e w2 ⟨rfl, hb⟩; have HB' := Aside0.mk (below_step HB.out hb); clear HB hb; have HB := HB'; clear HB') | ((with_reducible refine (aw3 _ (Tab.below HT.out HB.out)).mono ?_); rintro e w2 ⟨rfl, hb⟩; have HB' := Aside0.mk (below_step HB.out hb); clear HB hb; have HB := HB'; clear HB') | ((with_reducible refine (aw4 _ (Tab.below HT.out HB.out)).mono ?_); rintro e w2 ⟨rfl, hb⟩; have HB' := Aside0.mk (below_step HB.out hb); clear HB hb; have HB := HB'; clear HB') | ((with_reducible refine (aw5 _ (Tab.below HT.out HB.out)).mono ?_); rintro e w2 ⟨rfl, hb⟩; have HB' := Aside0.mk (below_step HB.out hb); clear HB hb; have HB := HB'; clear HB')))
  go_ret
  exact ⟨rfl, HB.out⟩
end Go.Proofs.YtekhnkpjeofdpaaDoor.A

/- cupelref20.find: the contract of its calls, for every operation. -/
import Derived.Test.YtlaijeeeblcinaaDoorRefFind
set_option linter.all false
set_option linter.unusedVariables false
set_option maxRecDepth 100000
namespace Go.Proofs.YtlaijeeeblcinaaDoor.A
open Go.RowKit Go.Proofs.YtlaijeeeblcinaaDoorW.PrintWords
theorem cupelref20_find.calls (a0 : Int) (r0 : Int) (r1 : ByteArray) (r2 r3 r4 : Bool) (r5 : Int) (r6 : Bool) (w : World) (h : cupelref20_find.f a0 = some (r0, r1, r2, r3, r4, r5, r6)) :
    Calls Tryd.prog 27 #[.int .i64 a0] w fun e w' => e = .returned (.tuple #[.agg #[.int .i64 r0, .string r1, .bool r2, .bool r3, .bool r4, .int .i64 r5], .bool r6]) ∧ Below w.heap.size w w' := by
  by_cases h1 : 16 ≤ a0 ∧ a0 ≤ 29
  · obtain ⟨k, hk, rfl⟩ : ∃ k : Nat, k < 14 ∧ a0 = (k : Int) + 16 := ⟨(a0 - 16).toNat, by omega, by omega⟩
    match k, hk with
    | 0, _ => obtain ⟨rfl, rfl, rfl, rfl, rfl, rfl, rfl⟩ : 16 = r0 ∧ ⟨#[97, 100, 100]⟩ = r1 ∧ true = r2 ∧ true = r3 ∧ true = r4 ∧ 0 = r5 ∧ true = r6 := (by have e := Option.some.inj h; simp only [Prod.mk.injEq] at e; exact e); exact find_16 w
    | 1, _ => obtain ⟨rfl, rfl, rfl, rfl, rfl, rfl, rfl⟩ : 17 = r0 ∧ ⟨#[115, 117, 98]⟩ = r1 ∧ true = r2 ∧ true = r3 ∧ true = r4 ∧ 0 = r5 ∧ true = r6 := (by have e := Option.some.inj h; simp only [Prod.mk.injEq] at e; exact e); exact find_17 w
    | 2, _ => obtain ⟨rfl, rfl, rfl, rfl, rfl, rfl, rfl⟩ : 18 = r0 ∧ ⟨#[109, 117, 108]⟩ = r1 ∧ true = r2 ∧ true = r3 ∧ true = r4 ∧ 0 = r5 ∧ true = r6 := (by have e := Option.some.inj h; simp only [Prod.mk.injEq] at e; exact e); exact find_18 w
    | 3, _ => obtain ⟨rfl, rfl, rfl, rfl, rfl, rfl, rfl⟩ : 19 = r0 ∧ ⟨#[100, 105, 118]⟩ = r1 ∧ true = r2 ∧ true = r3 ∧ true = r4 ∧ 0 = r5 ∧ true = r6 := (by have e := Option.some.inj h; simp only [Prod.mk.injEq] at e; exact e); exact find_19 w
    | 4, _ => obtain ⟨rfl, rfl, rfl, rfl, rfl, rfl, rfl⟩ : 20 = r0 ∧ ⟨#[114, 101, 109]⟩ = r1 ∧ true = r2 ∧ true = r3 ∧ true = r4 ∧ 0 = r5 ∧ true = r6 := (by have e := Option.some.inj h; simp only [Prod.mk.injEq] at e; exact e); exact find_20 w
    | 5, _ => obtain ⟨rfl, rfl, rfl, rfl, rfl, rfl, rfl⟩ : 21 = r0 ∧ ⟨#[97, 110, 100]⟩ = r1 ∧ true = r2 ∧ true = r3 ∧ true = r4 ∧ 0 = r5 ∧ true = r6 := (by have e := Option.some.inj h; simp only [Prod.mk.injEq] at e; exact e); exact find_21 w
    | 6, _ => obtain ⟨rfl, rfl, rfl, rfl, rfl, rfl, rfl⟩ : 22 = r0 ∧ ⟨#[111, 114]⟩ = r1 ∧ true = r2 ∧ true = r3 ∧ true = r4 ∧ 0 = r5 ∧ true = r6 := (by have e := Option.some.inj h; simp only [Prod.mk.injEq] at e; exact e); exact find_22 w
    | 7, _ => obtain ⟨rfl, rfl, rfl, rfl, rfl, rfl, rfl⟩ : 23 = r0 ∧ ⟨#[120, 111, 114]⟩ = r1 ∧ true = r2 ∧ true = r3 ∧ true = r4 ∧ 0 = r5 ∧ true = r6 := (by have e := Option.some.inj h; simp only [Prod.mk.injEq] at e; exact e); exact find_23 w
    | 8, _ => obtain ⟨rfl, rfl, rfl, rfl, rfl, rfl, rfl⟩ : 24 = r0 ∧ ⟨#[115, 104, 108]⟩ = r1 ∧ true = r2 ∧ true = r3 ∧ true = r4 ∧ 0 = r5 ∧ true = r6 := (by have e := Option.some.inj h; simp only [Prod.mk.injEq] at e; exact e); exact find_24 w
    | 9, _ => obtain ⟨rfl, rfl, rfl, rfl, rfl, rfl, rfl⟩ : 25 = r0 ∧ ⟨#[115, 104, 114]⟩ = r1 ∧ true = r2 ∧ true = r3 ∧ true = r4 ∧ 0 = r5 ∧ true = r6 := (by have e := Option.some.inj h; simp only [Prod.mk.injEq] at e; exact e); exact find_25 w
    | 10, _ => obtain ⟨rfl, rfl, rfl, rfl, rfl, rfl, rfl⟩ : 26 = r0 ∧ ⟨#[101, 113]⟩ = r1 ∧ true = r2 ∧ true = r3 ∧ true = r4 ∧ 0 = r5 ∧ true = r6 := (by have e := Option.some.inj h; simp only [Prod.mk.injEq] at e; exact e); exact find_26 w
    | 11, _ => obtain ⟨rfl, rfl, rfl, rfl, rfl, rfl, rfl⟩ : 27 = r0 ∧ ⟨#[110, 101]⟩ = r1 ∧ true = r2 ∧ true = r3 ∧ true = r4 ∧ 0 = r5 ∧ true = r6 := (by have e := Option.some.inj h; simp only [Prod.mk.injEq] at e; exact e); exact find_27 w
    | 12, _ => obtain ⟨rfl, rfl, rfl, rfl, rfl, rfl, rfl⟩ : 28 = r0 ∧ ⟨#[108, 116]⟩ = r1 ∧ true = r2 ∧ true = r3 ∧ true = r4 ∧ 0 = r5 ∧ true = r6 := (by have e := Option.some.inj h; simp only [Prod.mk.injEq] at e; exact e); exact find_28 w
    | 13, _ => obtain ⟨rfl, rfl, rfl, rfl, rfl, rfl, rfl⟩ : 29 = r0 ∧ ⟨#[108, 101]⟩ = r1 ∧ true = r2 ∧ true = r3 ∧ true = r4 ∧ 0 = r5 ∧ true = r6 := (by have e := Option.some.inj h; simp only [Prod.mk.injEq] at e; exact e); exact find_29 w
  by_cases h2 : 36 ≤ a0 ∧ a0 ≤ 49
  · obtain ⟨k, hk, rfl⟩ : ∃ k : Nat, k < 14 ∧ a0 = (k : Int) + 36 := ⟨(a0 - 36).toNat, by omega, by omega⟩
    match k, hk with
    | 0, _ => obtain ⟨rfl, rfl, rfl, rfl, rfl, rfl, rfl⟩ : 36 = r0 ∧ ⟨#[97, 100, 100, 105]⟩ = r1 ∧ true = r2 ∧ true = r3 ∧ false = r4 ∧ 1 = r5 ∧ true = r6 := (by have e := Option.some.inj h; simp only [Prod.mk.injEq] at e; exact e); exact find_36 w
    | 1, _ => obtain ⟨rfl, rfl, rfl, rfl, rfl, rfl, rfl⟩ : 37 = r0 ∧ ⟨#[115, 117, 98, 105]⟩ = r1 ∧ true = r2 ∧ true = r3 ∧ false = r4 ∧ 1 = r5 ∧ true = r6 := (by have e := Option.some.inj h; simp only [Prod.mk.injEq] at e; exact e); exact find_37 w
    | 2, _ => obtain ⟨rfl, rfl, rfl, rfl, rfl, rfl, rfl⟩ : 38 = r0 ∧ ⟨#[109, 117, 108, 105]⟩ = r1 ∧ true = r2 ∧ true = r3 ∧ false = r4 ∧ 1 = r5 ∧ true = r6 := (by have e := Option.some.inj h; simp only [Prod.mk.injEq] at e; exact e); exact find_38 w
    | 3, _ => obtain ⟨rfl, rfl, rfl, rfl, rfl, rfl, rfl⟩ : 39 = r0 ∧ ⟨#[100, 105, 118, 105]⟩ = r1 ∧ true = r2 ∧ true = r3 ∧ false = r4 ∧ 1 = r5 ∧ true = r6 := (by have e := Option.some.inj h; simp only [Prod.mk.injEq] at e; exact e); exact find_39 w
    | 4, _ => obtain ⟨rfl, rfl, rfl, rfl, rfl, rfl, rfl⟩ : 40 = r0 ∧ ⟨#[114, 101, 109, 105]⟩ = r1 ∧ true = r2 ∧ true = r3 ∧ false = r4 ∧ 1 = r5 ∧ true = r6 := (by have e := Option.some.inj h; simp only [Prod.mk.injEq] at e; exact e); exact find_40 w
    | 5, _ => obtain ⟨rfl, rfl, rfl, rfl, rfl, rfl, rfl⟩ : 41 = r0 ∧ ⟨#[97, 110, 100, 105]⟩ = r1 ∧ true = r2 ∧ true = r3 ∧ false = r4 ∧ 1 = r5 ∧ true = r6 := (by have e := Option.some.inj h; simp only [Prod.mk.injEq] at e; exact e); exact find_41 w
    | 6, _ => obtain ⟨rfl, rfl, rfl, rfl, rfl, rfl, rfl⟩ : 42 = r0 ∧ ⟨#[111, 114, 105]⟩ = r1 ∧ true = r2 ∧ true = r3 ∧ false = r4 ∧ 1 = r5 ∧ true = r6 := (by have e := Option.some.inj h; simp only [Prod.mk.injEq] at e; exact e); exact find_42 w
    | 7, _ => obtain ⟨rfl, rfl, rfl, rfl, rfl, rfl, rfl⟩ : 43 = r0 ∧ ⟨#[120, 111, 114, 105]⟩ = r1 ∧ true = r2 ∧ true = r3 ∧ false = r4 ∧ 1 = r5 ∧ true = r6 := (by have e := Option.some.inj h; simp only [Prod.mk.injEq] at e; exact e); exact find_43 w
    | 8, _ => obtain ⟨rfl, rfl, rfl, rfl, rfl, rfl, rfl⟩ : 44 = r0 ∧ ⟨#[115, 104, 108, 105]⟩ = r1 ∧ true = r2 ∧ true = r3 ∧ false = r4 ∧ 1 = r5 ∧ true = r6 := (by have e := Option.some.inj h; simp only [Prod.mk.injEq] at e; exact e); exact find_44 w
    | 9, _ => obtain ⟨rfl, rfl, rfl, rfl, rfl, rfl, rfl⟩ : 45 = r0 ∧ ⟨#[115, 104, 114, 105]⟩ = r1 ∧ true = r2 ∧ true = r3 ∧ false = r4 ∧ 1 = r5 ∧ true = r6 := (by have e := Option.some.inj h; simp only [Prod.mk.injEq] at e; exact e); exact find_45 w
    | 10, _ => obtain ⟨rfl, rfl, rfl, rfl, rfl, rfl, rfl⟩ : 46 = r0 ∧ ⟨#[101, 113, 105]⟩ = r1 ∧ true = r2 ∧ true = r3 ∧ false = r4 ∧ 1 = r5 ∧ true = r6 := (by have e := Option.some.inj h; simp only [Prod.mk.injEq] at e; exact e); exact find_46 w
    | 11, _ => obtain ⟨rfl, rfl, rfl, rfl, rfl, rfl, rfl⟩ : 47 = r0 ∧ ⟨#[110, 101, 105]⟩ = r1 ∧ true = r2 ∧ true = r3 ∧ false = r4 ∧ 1 = r5 ∧ true = r6 := (by have e := Option.some.inj h; simp only [Prod.mk.injEq] at e; exact e); exact find_47 w
    | 12, _ => obtain ⟨rfl, rfl, rfl, rfl, rfl, rfl, rfl⟩ : 48 = r0 ∧ ⟨#[108, 116, 105]⟩ = r1 ∧ true = r2 ∧ true = r3 ∧ false = r4 ∧ 1 = r5 ∧ true = r6 := (by have e := Option.some.inj h; simp only [Prod.mk.injEq] at e; exact e); exact find_48 w
    | 13, _ => obtain ⟨rfl, rfl, rfl, rfl, rfl, rfl, rfl⟩ : 49 = r0 ∧ ⟨#[108, 101, 105]⟩ = r1 ∧ true = r2 ∧ true = r3 ∧ false = r4 ∧ 1 = r5 ∧ true = r6 := (by have e := Option.some.inj h; simp only [Prod.mk.injEq] at e; exact e); exact find_49 w
  by_cases h3 : 1 ≤ a0 ∧ a0 ≤ 14
  · obtain ⟨k, hk, rfl⟩ : ∃ k : Nat, k < 14 ∧ a0 = (k : Int) + 1 := ⟨(a0 - 1).toNat, by omega, by omega⟩
    match k, hk with
    | 0, _ => obtain ⟨rfl, rfl, rfl, rfl, rfl, rfl, rfl⟩ : 1 = r0 ∧ ⟨#[109, 111, 118, 101]⟩ = r1 ∧ true = r2 ∧ true = r3 ∧ false = r4 ∧ 0 = r5 ∧ true = r6 := (by have e := Option.some.inj h; simp only [Prod.mk.injEq] at e; exact e); exact find_1 w
    | 1, _ => obtain ⟨rfl, rfl, rfl, rfl, rfl, rfl, rfl⟩ : 2 = r0 ∧ ⟨#[115, 101, 116]⟩ = r1 ∧ true = r2 ∧ false = r3 ∧ false = r4 ∧ 1 = r5 ∧ true = r6 := (by have e := Option.some.inj h; simp only [Prod.mk.injEq] at e; exact e); exact find_2 w
    | 2, _ => obtain ⟨rfl, rfl, rfl, rfl, rfl, rfl, rfl⟩ : 3 = r0 ∧ ⟨#[119, 105, 100, 101]⟩ = r1 ∧ true = r2 ∧ false = r3 ∧ false = r4 ∧ 2 = r5 ∧ true = r6 := (by have e := Option.some.inj h; simp only [Prod.mk.injEq] at e; exact e); exact find_3 w
    | 3, _ => obtain ⟨rfl, rfl, rfl, rfl, rfl, rfl, rfl⟩ : 4 = r0 ∧ ⟨#[108, 111, 97, 100]⟩ = r1 ∧ true = r2 ∧ true = r3 ∧ false = r4 ∧ 1 = r5 ∧ true = r6 := (by have e := Option.some.inj h; simp only [Prod.mk.injEq] at e; exact e); exact find_4 w
    | 4, _ => obtain ⟨rfl, rfl, rfl, rfl, rfl, rfl, rfl⟩ : 5 = r0 ∧ ⟨#[115, 116, 111, 114, 101]⟩ = r1 ∧ false = r2 ∧ true = r3 ∧ true = r4 ∧ 1 = r5 ∧ true = r6 := (by have e := Option.some.inj h; simp only [Prod.mk.injEq] at e; exact e); exact find_5 w
    | 5, _ => obtain ⟨rfl, rfl, rfl, rfl, rfl, rfl, rfl⟩ : 6 = r0 ∧ ⟨#[106, 117, 109, 112]⟩ = r1 ∧ false = r2 ∧ false = r3 ∧ false = r4 ∧ 3 = r5 ∧ true = r6 := (by have e := Option.some.inj h; simp only [Prod.mk.injEq] at e; exact e); exact find_6 w
    | 6, _ => obtain ⟨rfl, rfl, rfl, rfl, rfl, rfl, rfl⟩ : 7 = r0 ∧ ⟨#[122, 101, 114, 111]⟩ = r1 ∧ false = r2 ∧ true = r3 ∧ false = r4 ∧ 3 = r5 ∧ true = r6 := (by have e := Option.some.inj h; simp only [Prod.mk.injEq] at e; exact e); exact find_7 w
    | 7, _ => obtain ⟨rfl, rfl, rfl, rfl, rfl, rfl, rfl⟩ : 8 = r0 ∧ ⟨#[99, 104, 101, 99, 107]⟩ = r1 ∧ false = r2 ∧ true = r3 ∧ true = r4 ∧ 0 = r5 ∧ true = r6 := (by have e := Option.some.inj h; simp only [Prod.mk.injEq] at e; exact e); exact find_8 w
    | 8, _ => obtain ⟨rfl, rfl, rfl, rfl, rfl, rfl, rfl⟩ : 9 = r0 ∧ ⟨#[99, 104, 101, 99, 107, 105]⟩ = r1 ∧ false = r2 ∧ true = r3 ∧ false = r4 ∧ 1 = r5 ∧ true = r6 := (by have e := Option.some.inj h; simp only [Prod.mk.injEq] at e; exact e); exact find_9 w
    | 9, _ => obtain ⟨rfl, rfl, rfl, rfl, rfl, rfl, rfl⟩ : 10 = r0 ∧ ⟨#[112, 114, 105, 110, 116]⟩ = r1 ∧ false = r2 ∧ true = r3 ∧ false = r4 ∧ 0 = r5 ∧ true = r6 := (by have e := Option.some.inj h; simp only [Prod.mk.injEq] at e; exact e); exact find_10 w
    | 10, _ => obtain ⟨rfl, rfl, rfl, rfl, rfl, rfl, rfl⟩ : 11 = r0 ∧ ⟨#[99, 97, 108, 108]⟩ = r1 ∧ false = r2 ∧ false = r3 ∧ false = r4 ∧ 3 = r5 ∧ true = r6 := (by have e := Option.some.inj h; simp only [Prod.mk.injEq] at e; exact e); exact find_11 w
    | 11, _ => obtain ⟨rfl, rfl, rfl, rfl, rfl, rfl, rfl⟩ : 12 = r0 ∧ ⟨#[114, 101, 116, 117, 114, 110]⟩ = r1 ∧ false = r2 ∧ false = r3 ∧ false = r4 ∧ 0 = r5 ∧ true = r6 := (by have e := Option.some.inj h; simp only [Prod.mk.injEq] at e; exact e); exact find_12 w
    | 12, _ => obtain ⟨rfl, rfl, rfl, rfl, rfl, rfl, rfl⟩ : 13 = r0 ∧ ⟨#[116, 114, 97, 112]⟩ = r1 ∧ false = r2 ∧ false = r3 ∧ false = r4 ∧ 0 = r5 ∧ true = r6 := (by have e := Option.some.inj h; simp only [Prod.mk.injEq] at e; exact e); exact find_13 w
    | 13, _ => obtain ⟨rfl, rfl, rfl, rfl, rfl, rfl, rfl⟩ : 14 = r0 ∧ ⟨#[104, 97, 108, 116]⟩ = r1 ∧ false = r2 ∧ false = r3 ∧ false = r4 ∧ 0 = r5 ∧ true = r6 := (by have e := Option.some.inj h; simp only [Prod.mk.injEq] at e; exact e); exact find_14 w
  have hn := find_none a0 h1 h2 h3 w
  have hf : cupelref20_find.f a0 = some (0, ByteArray.empty, false, false, false, 0, false) := by
    simp only [cupelref20_find.f, h1, h2, if_false]
    have : simpleRows.find? (fun r => r.1 == a0) = none := by
      simp [simpleRows]; omega
    rw [this]
  rw [hf] at h
  simp only [Option.some.injEq, Prod.mk.injEq] at h
  obtain ⟨rfl, rfl, rfl, rfl, rfl, rfl, rfl⟩ := h
  exact hn
end Go.Proofs.YtlaijeeeblcinaaDoor.A

/- emulate's machine: what the operations below 15 do, all of them in one contract. -/
import Derived.Test.YtekhnkpjeofdpaaDoorMacOps
import Derived.Test.YtekhnkpjeofdpaaDoorTgtDecode
import Derived.Deep.RegionWith
set_option linter.unusedVariables false
set_option maxRecDepth 100000
namespace Go.Proofs.YtekhnkpjeofdpaaDoor.A
open Go.RowKit Go.Proofs.YtekhnkpjeofdpaaDoorW.PrintWords Go.Proofs.YtekhnkpjeofdpaaDoorW.PrintLast Go.Proofs.YtekhnkpjeofdpaaDoorW.PrintMore
set_option maxHeartbeats 8000000
/-- what the operations below 15 do -/
def execF (m : Mac) (op : Nat) (d a b : Nat) (imm : Int) : Mac :=
  match op with
  | 1 => { m with regs := m.regs.set d (reg m a) }
  | 2 => { m with regs := m.regs.set d imm }
  | 3 => { m with regs := m.regs.set d imm }
  | 4 => if 0 ≤ wrap64 (reg m a + imm) ∧ wrap64 (reg m a + imm) < 20000 then { m with regs := m.regs.set d (m.mem.getD (wrap64 (reg m a + imm)).toNat 0) } else m.trap 10
  | 5 => if 0 ≤ wrap64 (reg m a + imm) ∧ wrap64 (reg m a + imm) < 20000 then { m with mem := m.mem.set (wrap64 (reg m a + imm)).toNat (reg m b) } else m.trap 10
  | 6 => { m with at_ := imm }
  | 7 => if reg m a = 0 then { m with at_ := imm } else m
  | 8 => if reg m a < 0 then m.trap 2 else if reg m a ≥ reg m b then m.trap 2 else m
  | 9 => if reg m a < 0 then m.trap 2 else if reg m a ≥ imm then m.trap 2 else m
  | 10 => if m.out.length = 2000 then { m with end_ := 4 } else { m with out := m.out ++ [reg m a] }
  | 11 => if m.kept.length = 64 then m.trap 12 else { m with kept := m.kept ++ [m.at_], at_ := imm }
  | 12 => if m.kept = [] then m.trap 12 else { m with at_ := m.kept.getLastD 0, kept := m.kept.dropLast }
  | 13 => m.trap 3
  | 14 => { m with end_ := 1 }
  | _ => m
def opFn : Nat → Nat
  | 1 => 47 | 2 => 48 | 3 => 49 | 4 => 50 | 5 => 52 | 6 => 53 | 7 => 54 | 8 => 55 | 9 => 56 | 10 => 57 | 11 => 58 | 12 => 59 | 13 => 60 | _ => 61
theorem word_cases (v : Int) (h : ¬ (0 ≤ v ∧ v < 20000)) : v < 0 ∨ v ≥ 20000 := by omega
theorem lastD (l : List Int) (c : l ≠ []) : l.getLastD 0 = l.getLast c := by
  cases l with
  | nil => exact absurd rfl c
  | cons x l => rfl
theorem ops_calls {P : Rg} {w : World} {g : Nat} {m : Mac} (h : IsM 57 P w g m) (hP : ∀ k, w.heap.size ≤ k → P k) (ho : m.out.length ≤ 2000) (hk : m.kept.length ≤ 64) (op : Nat) (h1 : 1 ≤ op) (h2 : op ≤ 14) (d a b : Nat) (hd : d < 10) (ha : a < 10) (hb : b < 10) (imm : Int) :
    Calls Tryd.prog (opFn op) #[.pointer (some ⟨g, 0, none⟩), .agg #[.int .i64 (op : Int), .int .i64 (d : Int), .int .i64 (a : Int), .int .i64 (b : Int), .int .i64 imm], .int .i64 (reg m a), .pointer (some ⟨g, 2 + d, none⟩)] w fun e w' => e = .returned (.tuple #[]) ∧ IsM 57 P w' g (execF m op d a b imm) ∧ Chg P w w' := by
  match op, h1, h2 with
  | 1, _, _ => exact op_move h _ _ _ _ _ _ d hd
  | 2, _, _ => exact op_set h _ _ _ _ _ _ d hd
  | 3, _, _ => exact op_wide h _ _ _ _ _ _ d hd
  | 4, _, _ =>
    simp only [execF]
    by_cases c : 0 ≤ wrap64 (reg m a + imm) ∧ wrap64 (reg m a + imm) < 20000
    · rw [if_pos c]; exact op_load_in h _ _ _ _ _ d hd a ha (wrap64 (reg m a + imm)).toNat (Int.toNat_of_nonneg c.1).symm (by have := c.1; have := c.2; omega)
    · rw [if_neg c]; exact op_load_out h _ _ _ _ _ d hd a ha (word_cases _ c)
  | 5, _, _ =>
    simp only [execF]
    by_cases c : 0 ≤ wrap64 (reg m a + imm) ∧ wrap64 (reg m a + imm) < 20000
    · rw [if_pos c]; exact op_store_in h _ _ _ _ d hd b hb a ha (wrap64 (reg m a + imm)).toNat (Int.toNat_of_nonneg c.1).symm (by have := c.1; have := c.2; omega)
    · rw [if_neg c]; exact op_store_out h _ _ _ _ d hd b a ha (word_cases _ c)
  | 6, _, _ => exact op_jump h _ _ _ _ _ _ d hd
  | 7, _, _ =>
    simp only [execF]
    by_cases c : reg m a = 0
    · rw [if_pos c]; exact op_zero_yes h _ _ _ _ _ _ d hd c
    · rw [if_neg c]; exact op_zero_no h _ _ _ _ _ _ d hd c
  | 8, _, _ =>
    simp only [execF]
    by_cases c : reg m a < 0
    · rw [if_pos c]; exact op_check_lo h _ _ _ _ _ d hd b hb c
    · rw [if_neg c]
      by_cases c2 : reg m a ≥ reg m b
      · rw [if_pos c2]; exact op_check_hi h _ _ _ _ _ d hd b hb c c2
      · rw [if_neg c2]; exact op_check_ok h _ _ _ _ _ d hd b hb c c2
  | 9, _, _ =>
    simp only [execF]
    by_cases c : reg m a < 0
    · rw [if_pos c]; exact op_checki_lo h _ _ _ _ _ _ d hd c
    · rw [if_neg c]
      by_cases c2 : reg m a ≥ imm
      · rw [if_pos c2]; exact op_checki_hi h _ _ _ _ _ _ d hd c c2
      · rw [if_neg c2]; exact op_checki_ok h _ _ _ _ _ _ d hd c c2
  | 10, _, _ =>
    simp only [execF]
    by_cases c : m.out.length = 2000
    · rw [if_pos c]; exact op_print_full h _ _ _ _ _ _ d hd c
    · rw [if_neg c]; exact op_print_ok h _ _ _ _ _ _ d hd hP c ho
  | 11, _, _ =>
    simp only [execF]
    by_cases c : m.kept.length = 64
    · rw [if_pos c]; exact op_call_full h _ _ _ _ _ _ d hd c
    · rw [if_neg c]; exact op_call_ok h _ _ _ _ _ _ d hd hP c hk
  | 12, _, _ =>
    simp only [execF]
    by_cases c : m.kept = []
    · rw [if_pos c]; exact op_ret_none h _ _ _ _ _ _ d hd c
    · rw [if_neg c]
      have e := List.dropLast_concat_getLast c
      have e2 := lastD m.kept c
      rw [e2]
      exact op_ret_some h _ _ _ _ _ _ d hd m.kept.dropLast (m.kept.getLast c) e.symm (by rw [List.length_dropLast]; omega)
  | 13, _, _ => exact op_trap h _ _ _ _ _ _ d hd
  | 14, _, _ => exact op_halt h _ _ _ _ _ _ d hd
def makesCells : Array Value := #[.nilFunc, .func (.func 47) #[] #[], .func (.func 48) #[] #[], .func (.func 49) #[] #[], .func (.func 50) #[] #[], .func (.func 52) #[] #[], .func (.func 53) #[] #[], .func (.func 54) #[] #[], .func (.func 55) #[] #[], .func (.func 56) #[] #[], .func (.func 57) #[] #[], .func (.func 58) #[] #[], .func (.func 59) #[] #[], .func (.func 60) #[] #[], .func (.func 61) #[] #[]]
theorem info78m : (Tryd.prog.info? 78).map (·.size) = some makesCells.size := by kernel_rfl
theorem makes_calls (w : World) : Calls Tryd.prog 37 #[] w fun e w' => e = .returned (.agg makesCells) ∧ Below w.heap.size w w' := by
  go_enter Tryd.func37, Tryd.ntmps37
  go_wp2_with (refine wpList_store_new rfl 78 _ _ rfl #[.nilFunc, .nilFunc, .nilFunc, .nilFunc, .nilFunc, .nilFunc, .nilFunc, .nilFunc, .nilFunc, .nilFunc, .nilFunc, .nilFunc, .nilFunc, .nilFunc, .nilFunc] makesCells rfl rfl 78 info78m rfl (by kernel_rfl) ?_)
  exact bodyPost_ret (results_cell_row (fn := Tryd.f37) rfl _ _ w.heap.size 78 makesCells (0, 0) _ rfl (heap_alloc_last w _) Tryd.underlying78 rfl info78m) rfl ⟨rfl, below_alloc (Below.refl _ _) _⟩
end Go.Proofs.YtekhnkpjeofdpaaDoor.A

/- cupelref34.valid: whether an entry is valid, as the reference has it: the function's plain twin and the contract of its call, for every entry. -/
import Derived.Test.YtpkdmhplmgbfaaaAx0
import Derived.Handy
namespace Go.Proofs.Ytpkdmhplmgbfaaa.A
open Go.RowKit Go.Proofs.YtpkdmhplmgbfaaaW.PrintWords Go.Proofs.YtpkdmhplmgbfaaaW.PrintLast Go.Proofs.YtpkdmhplmgbfaaaW.PrintMore

def okB (x : Int) : Bool := decide (0 ≤ x ∧ x ≤ 1000000)
def cupelref34_valid.f (a0_0 : Int) (a0_1 : Int) (a0_2 : Int) (a0_3 : Int) : Option Bool := some (okB a0_0 && okB a0_1 && okB a0_2 && decide (1 ≤ a0_3 ∧ a0_3 ≤ 400))

set_option maxHeartbeats 4000000 in
theorem cupelref34_valid.calls (a0_0 : Int) (a0_1 : Int) (a0_2 : Int) (a0_3 : Int) (r : Bool) (w : World) (h : cupelref34_valid.f a0_0 a0_1 a0_2 a0_3 = some r) :
    Calls Try.prog 17 #[.agg #[.int .i64 a0_0, .int .i64 a0_1, .int .i64 a0_2, .int .i64 a0_3]] w fun e w' => e = .returned (.bool r) ∧ Below w.heap.size w w' := by
  obtain rfl := Option.some.inj h
  clear h
  have hu40 := Try.underlying40
  have hu62 := Try.underlying62
  go_enter Try.func17, Try.ntmps17
  go_wp2
  go_rounds 4
  all_goals (go_ret; refine ⟨?_, ((Below.refl _ _).alloc (Nat.le_refl _) _).alloc (by simp) _⟩)
  all_goals (simp only [okB]; first | (simp; omega) | (simp [*]; done) | (congr 1; congr 1; simp; omega))
end Go.Proofs.Ytpkdmhplmgbfaaa.A

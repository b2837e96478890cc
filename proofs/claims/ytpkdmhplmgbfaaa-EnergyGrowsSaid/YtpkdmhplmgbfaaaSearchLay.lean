/- The program's sort.Search bears the library text that the shelf's contract speaks of: the numbers, and that each body is that text. Written by the kit's lay-plain. -/
import Derived.KernelRfl
import Derived.Shelf.SlLaysO
import Derived.Test.YtpkdmhplmgbfaaaProg
namespace Go.Proofs
open Go.Shelf
def Try.search_ren : Go.Shelf.Ren := ⟨fun | 16 => 22 | n => n, fun | 3 => 3 | 35 => 51 | 4 => 4 | 38 => 64 | n => n, fun | n => n⟩
theorem Try.search : Go.Proofs.SlLaysO.n16 Try.prog Try.search_ren := {
  mixed := by kernel_rfl
  f16 := Try.func22.trans (congrArg some (by kernel_rfl))
  t3 := Try.underlying3
  a3 := Try.isAgg3
  z3 := Try.sizeOf3
  v3 := Try.zeroValue3
  t4 := Try.underlying4
  a4 := Try.isAgg4
  z4 := Try.sizeOf4
  v4 := Try.zeroValue4
  t35 := Try.underlying51
  a35 := Try.isAgg51
  z35 := Try.sizeOf51
  v35 := Try.zeroValue51
  t38 := Try.underlying64
  a38 := Try.isAgg64
  z38 := Try.sizeOf64
  v38 := Try.zeroValue64 }
end Go.Proofs

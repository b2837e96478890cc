/- Progress of the plain reader: a token that is taken and is not the end lies further on. -/
import Derived.Test.YtlaijeeeblcinaaDoorRw
set_option linter.all false
set_option maxRecDepth 100000
namespace Go.Proofs.YtlaijeeeblcinaaDoor.A
open Go.RowKit Go.Proofs.YtlaijeeeblcinaaDoorW.PrintWords
structure GoodT (s : ByteArray) (a : Nat) (t : Tok) : Prop where
 ok : TokOk s t
 ge : a ≤ t.end_
 gt : t.sort ≠ 0 → a < t.end_
 one : t.sort ≠ 0 → t.sort ≠ 97 → t.sort ≠ 48 → t.text.size = 1
theorem GoodT.weak {s : ByteArray} {a b : Nat} {t : Tok} (h : GoodT s b t) (hab : a ≤ b) : GoodT s a t :=
 ⟨h.ok, Nat.le_trans hab h.ge, fun e => Nat.lt_of_le_of_lt hab (h.gt e), h.one⟩
end Go.Proofs.YtlaijeeeblcinaaDoor.A

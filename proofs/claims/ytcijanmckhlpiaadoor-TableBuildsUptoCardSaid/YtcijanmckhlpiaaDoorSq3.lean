-- Texts of this seat, cut to what is used and merged (by shake.py).
import Derived.Test.YtcijanmckhlpiaaDoorSq1
import Derived.Test.YtcijanmckhlpiaaDoorSq2
import Derived.Deep.QuietTactic
import Derived.BigQuiet
import Derived.Lib.Hide
set_option linter.unusedVariables false
set_option linter.unusedSimpArgs false
namespace Go.Proofs.YtcijanmckhlpiaaDoor
open Go.RowKit Go.Proofs.YtcijanmckhlpiaaDoorW.PrintWords Go.Proofs.YtcijanmckhlpiaaDoorW.PrintLast Go.Proofs.YtcijanmckhlpiaaDoorW.PrintMore
namespace Dec
def ErrType (w : World) : Prop := w.cell? ⟨0, 0, none⟩ = some (.iface 192 (.agg #[.pointer (some ⟨4, 27, none⟩)]))
theorem ErrType.lt {w : World} (h : ErrType w) : 0 < w.heap.size := by
 rcases Nat.eq_zero_or_pos w.heap.size with h0 | h1
 ·simp [ErrType, World.cell?, h0] at h
 ·exact h1
theorem ErrType.below {w W : World} (h : ErrType w) (hb : Below w.heap.size w W) : ErrType W := zan hb h
end Dec
end Go.Proofs.YtcijanmckhlpiaaDoor

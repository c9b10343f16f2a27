/-
  Contracts of monthly.Add.
-/
import Derived.Test.YtblmlglkjmilkacDoorMonP
import Derived.Test.YtblmlglkjmilkacDoorTail
namespace Go.Proofs.YtblmlglkjmilkacDoor
open Go.RowKit Cal
attribute [local go_sem] BW.cell BW.frozen

theorem I64.wr (x : Int) : I64 (IntKind.i64.wrap x) := by
  rw [IntKind.wrap_i64]; unfold I64; omega
theorem I64.wr64 (x : Int) : I64 (wrap64 x) := by unfold I64 wrap64; omega
end Go.Proofs.YtblmlglkjmilkacDoor

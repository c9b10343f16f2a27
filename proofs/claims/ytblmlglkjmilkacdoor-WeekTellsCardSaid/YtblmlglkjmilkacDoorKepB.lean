/-
  What the program's variables hold as a row's call begins.
-/
import Derived.Test.YtblmlglkjmilkacDoorKepA
import Derived.Test.YtblmlglkjmilkacDoorWeeF
import Derived.Shelf.Vars
namespace Go.Proofs.YtblmlglkjmilkacDoor
open Go.RowKit
theorem kept_of {W : World} (h : laidMetH Tryd.prog [("noontide/stamp.signs", Rows.laid_noontide_stamp_signs)] W) (hsh : W.ShapedOpen Tryd.prog) : Kept W :=
  ⟨signs_of h, cell_of_shapedOpen_int (P := Tryd.prog) (g := 3) (t := 3) (zero := #[.int .i64 0]) hsh (of_decide_eq_true (by kernel_rfl)) (by kernel_rfl) rfl (by kernel_rfl) (by kernel_rfl) Tryd.underlying3⟩
end Go.Proofs.YtblmlglkjmilkacDoor

/-
  What the row's laid variable holds: the signs of a stamp's text.
-/
import Derived.Test.YtblmlglkjmilkacDoorStmB
import Derived.Test.YtblmlglkjmilkacDoorRows
import Derived.LaidMore
namespace Go.Proofs.YtblmlglkjmilkacDoor
open Go.RowKit
set_option maxRecDepth 100000 in
theorem signs_var {W : World} (h : laidMetH Tryd.prog [("noontide/stamp.signs", Rows.laid_noontide_stamp_signs)] W) : W.var? Tryd.prog "noontide/stamp.signs" = some #[.int .u8 45, .int .u8 45, .int .u8 84, .int .u8 58, .int .u8 58] := by
  rw [MakeChecks.laidMetH_plain _ _ _ (by kernel_rfl)] at h
  obtain ⟨ps, ⟨g, t, cs, fuel, p, q, hg, ht, hv, hd, _, _⟩, _, _⟩ := h
  obtain rfl := Option.some.inj ((show Tryd.prog.globalNamed "noontide/stamp.signs" = some 1 by kernel_rfl).symm.trans hg)
  obtain rfl := Option.some.inj ((show (Tryd.prog.globals[1]?).map (·.type) = some 160 by kernel_rfl).symm.trans ht)
  have c1 : Tryd.prog.cellsOf 5 = 1 := by kernel_rfl
  have c5 : Tryd.prog.cellsOf 160 = 5 := by kernel_rfl
  obtain ⟨xs, m, _, ex, hlen, hl, hel⟩ := DataW.trod_array Tryd.underlying160 hd
  rw [c5] at hlen
  obtain ⟨l⟩ := cs
  match l, hlen with
  | [a, b, c, d, e], _ =>
    match xs, hl with
    | [x0, x1, x2, x3, x4], _ =>
      have e3 := (DataW.agg.inj (Prod.mk.inj ex).1)
      simp only [List.map_cons, List.map_nil, List.cons.injEq, and_true] at e3
      have k0 := hel 0 (by omega); have k1 := hel 1 (by omega); have k2 := hel 2 (by omega); have k3 := hel 3 (by omega); have k4 := hel 4 (by omega)
      rw [c1] at k0 k1 k2 k3 k4
      obtain ⟨z0, a0, b0, _⟩ := DataW.trod_int Tryd.underlying5 k0
      obtain ⟨z1, a1, b1, _⟩ := DataW.trod_int Tryd.underlying5 k1
      obtain ⟨z2, a2, b2, _⟩ := DataW.trod_int Tryd.underlying5 k2
      obtain ⟨z3, a3, b3, _⟩ := DataW.trod_int Tryd.underlying5 k3
      obtain ⟨z4, a4, b4, _⟩ := DataW.trod_int Tryd.underlying5 k4
      rw [hv]
      simp at k0 k1 k2 k3 k4
      clear k0 k1 k2 k3 k4 hel
      have q0 : a = .int .u8 z0 := by simpa using a0
      have q1 : b = .int .u8 z1 := by simpa using a1
      have q2 : c = .int .u8 z2 := by simpa using a2
      have q3 : d = .int .u8 z3 := by simpa using a3
      have q4 : e = .int .u8 z4 := by simpa using a4
      subst q0 q1 q2 q3 q4
      rw [b0, b1, b2, b3, b4] at e3
      simp at e3
      obtain ⟨rfl, rfl, rfl, rfl, rfl⟩ := e3
      rfl
/-- The signs' five cells. -/
theorem signs_of {W : World} (h : laidMetH Tryd.prog [("noontide/stamp.signs", Rows.laid_noontide_stamp_signs)] W) : Signs W := by
  have hcell := fun j => World.var?_cell (show Tryd.prog.globalNamed "noontide/stamp.signs" = some 1 by kernel_rfl) (signs_var h) j
  exact ⟨(hcell 0).trans rfl, (hcell 1).trans rfl, (hcell 2).trans rfl, (hcell 3).trans rfl, (hcell 4).trans rfl⟩
end Go.Proofs.YtblmlglkjmilkacDoor

/-
  What the row's laid variable holds: how amounts are written; and the machine's greatest needle.
-/
import Derived.Test.YtjddmcecllhlhaaDoorCalT
import Derived.Test.YtjddmcecllhlhaaDoorRows
import Derived.LaidMore
import Derived.LaidSub
import Derived.Deep.Strs
import Derived.Shelf.Vars
namespace Go.Proofs.YtjddmcecllhlhaaDoor
open Go.RowKit Go.Deep
set_option maxRecDepth 100000 in
theorem part_cells {H : Type} {enc : TypeId × Value → H} {w : World} {base : Nat} {sp : Nat → Bool} {hd : Bool} {n : Nat} {u0 u1 u2 : Value} {a b c : Int} {ps : List MemPlace} (h : DataW.trod enc Tryd.prog w base sp hd n 89 [u0, u1, u2] = some (.agg [.lit (.int .i64 a), .lit (.int .i64 b), .lit (.int .i64 c)], ps)) :
    u0 = .int .i64 a ∧ u1 = .int .i64 b ∧ u2 = .int .i64 c := by
  have c1 : Tryd.prog.cellsOf 3 = 1 := by kernel_rfl
  have c2 : Tryd.prog.cellsOf 2 = 1 := by kernel_rfl
  obtain ⟨y0, y1, y2, n1, hx, _, h0, h1, h2⟩ := trod_struct3 Tryd.underlying89 h
  rw [c1] at h0 h1
  rw [c2] at h2
  simp at h0 h1 h2
  obtain ⟨x, e0, k0, _⟩ := DataW.trod_int Tryd.underlying3 h0
  obtain ⟨y, e1, k1, _⟩ := DataW.trod_int Tryd.underlying3 h1
  obtain ⟨z, e2, k2, _⟩ := DataW.trod_int Tryd.underlying2 h2
  rw [k0, k1, k2] at hx
  simp at e0 e1 e2 hx
  obtain ⟨⟨rfl, rfl, rfl⟩, _⟩ := hx
  exact ⟨e0, e1, e2⟩
set_option maxRecDepth 100000 in
theorem parts_var {W : World} (h : laidMetH Tryd.prog [("noontide/amount.parts", Rows.laid_noontide_amount_parts)] W) : W.var? Tryd.prog "noontide/amount.parts" = some #[.int .i64 1, .int .i64 3, .int .i64 3600, .int .i64 2, .int .i64 2, .int .i64 60, .int .i64 2, .int .i64 2, .int .i64 1] := by
  rw [MakeChecks.laidMetH_plain _ _ _ (by kernel_rfl)] at h
  obtain ⟨ps, ⟨g, t, cs, fuel, p, q, hg, ht, hv, hd, _, _⟩, _, _⟩ := h
  obtain rfl := Option.some.inj ((show Tryd.prog.globalNamed "noontide/amount.parts" = some 0 by kernel_rfl).symm.trans hg)
  obtain rfl := Option.some.inj ((show (Tryd.prog.globals[0]?).map (·.type) = some 90 by kernel_rfl).symm.trans ht)
  have c1 : Tryd.prog.cellsOf 89 = 3 := by kernel_rfl
  have c9 : Tryd.prog.cellsOf 90 = 9 := by kernel_rfl
  obtain ⟨xs, m, _, ex, hlen, hl, hel⟩ := DataW.trod_array Tryd.underlying90 hd
  rw [c9] at hlen
  obtain ⟨l⟩ := cs
  match l, hlen with
  | [a0, a1, a2, b0, b1, b2, d0, d1, d2], _ =>
    match xs, hl with
    | [(x0, p0), (x1, p1), (x2, p2)], _ =>
      have e3 := (DataW.agg.inj (Prod.mk.inj ex).1)
      simp only [List.map_cons, List.map_nil, List.cons.injEq, and_true] at e3
      obtain ⟨rfl, rfl, rfl⟩ := e3
      have k0 := hel 0 (by omega); have k1 := hel 1 (by omega); have k2 := hel 2 (by omega)
      rw [c1] at k0 k1 k2
      simp at k0 k1 k2
      obtain ⟨rfl, rfl, rfl⟩ := part_cells k0
      obtain ⟨rfl, rfl, rfl⟩ := part_cells k1
      obtain ⟨rfl, rfl, rfl⟩ := part_cells k2
      exact hv
theorem akept_of {W : World} (h0 : laidMetH Tryd.prog Rows.topCalledRow.laid W) (hsh : W.ShapedOpen Tryd.prog) : AKept W := by
  have h := h0.filter (fun x => x.1 == "noontide/amount.parts")
  have h : laidMetH Tryd.prog [("noontide/amount.parts", Rows.laid_noontide_amount_parts)] W := h
  have hcell := fun j => World.var?_cell (show Tryd.prog.globalNamed "noontide/amount.parts" = some 0 by kernel_rfl) (parts_var h) j
  exact ⟨(hcell 0).trans rfl, (hcell 1).trans rfl, (hcell 2).trans rfl, (hcell 3).trans rfl, (hcell 4).trans rfl, (hcell 5).trans rfl, (hcell 6).trans rfl, (hcell 7).trans rfl, (hcell 8).trans rfl,
    cell_of_shapedOpen_int (P := Tryd.prog) (g := 1) (t := 3) (zero := #[.int .i64 0]) hsh (of_decide_eq_true (by kernel_rfl)) (by kernel_rfl) rfl (by kernel_rfl) (by kernel_rfl) Tryd.underlying3⟩
end Go.Proofs.YtjddmcecllhlhaaDoor

/-
  A rule that came in, opened.
-/
import Derived.Test.YtjddmcecllhlhaaDoorEyL
import Derived.Lib.SmallJoins
import Derived.WideKeyArgs
namespace Go.Proofs.YtjddmcecllhlhaaDoor
open Go.RowKit Go.ChangeShapes Go.WideShapes
theorem cof_str : Tryd.prog.cellsOf 9 = 1 := by kernel_rfl
theorem cof_int : Tryd.prog.cellsOf 3 = 1 := by kernel_rfl
theorem cof_i64 : Tryd.prog.cellsOf 2 = 1 := by kernel_rfl
theorem cof_on : Tryd.prog.cellsOf 41 = 3 := by kernel_rfl
theorem cof_at : Tryd.prog.cellsOf 33 = 2 := by kernel_rfl
theorem cof_rule : Tryd.prog.cellsOf 43 = 11 := by kernel_rfl
theorem list11 {α : Type} {l : List α} (h : l.length = 11) : ∃ c0 c1 c2 c3 c4 c5 c6 c7 c8 c9 c10, l = [c0, c1, c2, c3, c4, c5, c6, c7, c8, c9, c10] := by
  match l, h with
  | [c0, c1, c2, c3, c4, c5, c6, c7, c8, c9, c10], _ => exact ⟨c0, c1, c2, c3, c4, c5, c6, c7, c8, c9, c10, rfl⟩
set_option maxRecDepth 100000 in
theorem rule_of {H : Type} {enc : TypeId × Value → H} {w : World} {base : Nat} {v : Value} {d : DataW H} {ps : List MemPlace} (hv : Value.okWide Tryd.prog w .any base 43 v) (h : DataW.Trod enc Tryd.prog w 0 (fun _ => true) true 43 v d ps) : ∃ r : Ru, v = ruV r ∧ RuI r := by
  obtain ⟨cs, rfl, hsz⟩ := okWide_struct Tryd.underlying43 hv
  obtain ⟨l⟩ := cs
  obtain ⟨c0, c1, c2, c3, c4, c5, c6, c7, c8, c9, c10, rfl⟩ := list11 (l := l) (by rw [← cof_rule]; simpa using hsz)
  obtain ⟨fuel, hf⟩ := h
  obtain ⟨xs, n, _, _, hl, hlen, hfi⟩ := DataW.trod_struct Tryd.underlying43 hf
  match xs, hlen with
  | [x0, x1, x2, x3, x4, x5, x6, x7], _ =>
    have h0 : DataW.trod enc Tryd.prog w 0 (fun _ => true) true n 9 [c0] = some x0 := by
      have z : DataW.trod enc Tryd.prog w 0 (fun _ => true) true n 9 (List.take (Tryd.prog.cellsOf 9) (List.drop 0 [c0, c1, c2, c3, c4, c5, c6, c7, c8, c9, c10])) = some x0 := hfi 0 _ rfl
      rw [cof_str] at z
      exact z
    have h1 : DataW.trod enc Tryd.prog w 0 (fun _ => true) true n 3 [c1] = some x1 := by
      have z : DataW.trod enc Tryd.prog w 0 (fun _ => true) true n 3 (List.take (Tryd.prog.cellsOf 3) (List.drop 1 [c0, c1, c2, c3, c4, c5, c6, c7, c8, c9, c10])) = some x1 := hfi 1 _ rfl
      rw [cof_int] at z
      exact z
    have h2 : DataW.trod enc Tryd.prog w 0 (fun _ => true) true n 3 [c2] = some x2 := by
      have z : DataW.trod enc Tryd.prog w 0 (fun _ => true) true n 3 (List.take (Tryd.prog.cellsOf 3) (List.drop 2 [c0, c1, c2, c3, c4, c5, c6, c7, c8, c9, c10])) = some x2 := hfi 2 _ rfl
      rw [cof_int] at z
      exact z
    have h3 : DataW.trod enc Tryd.prog w 0 (fun _ => true) true n 3 [c3] = some x3 := by
      have z : DataW.trod enc Tryd.prog w 0 (fun _ => true) true n 3 (List.take (Tryd.prog.cellsOf 3) (List.drop 3 [c0, c1, c2, c3, c4, c5, c6, c7, c8, c9, c10])) = some x3 := hfi 3 _ rfl
      rw [cof_int] at z
      exact z
    have h4 : DataW.trod enc Tryd.prog w 0 (fun _ => true) true n 41 [c4, c5, c6] = some x4 := by
      have z : DataW.trod enc Tryd.prog w 0 (fun _ => true) true n 41 (List.take (Tryd.prog.cellsOf 41) (List.drop 4 [c0, c1, c2, c3, c4, c5, c6, c7, c8, c9, c10])) = some x4 := hfi 4 _ rfl
      rw [cof_on] at z
      exact z
    have h5 : DataW.trod enc Tryd.prog w 0 (fun _ => true) true n 33 [c7, c8] = some x5 := by
      have z : DataW.trod enc Tryd.prog w 0 (fun _ => true) true n 33 (List.take (Tryd.prog.cellsOf 33) (List.drop 7 [c0, c1, c2, c3, c4, c5, c6, c7, c8, c9, c10])) = some x5 := hfi 5 _ rfl
      rw [cof_at] at z
      exact z
    have h6 : DataW.trod enc Tryd.prog w 0 (fun _ => true) true n 2 [c9] = some x6 := by
      have z : DataW.trod enc Tryd.prog w 0 (fun _ => true) true n 2 (List.take (Tryd.prog.cellsOf 2) (List.drop 9 [c0, c1, c2, c3, c4, c5, c6, c7, c8, c9, c10])) = some x6 := hfi 6 _ rfl
      rw [cof_i64] at z
      exact z
    have h7 : DataW.trod enc Tryd.prog w 0 (fun _ => true) true n 9 [c10] = some x7 := by
      have z : DataW.trod enc Tryd.prog w 0 (fun _ => true) true n 9 (List.take (Tryd.prog.cellsOf 9) (List.drop 10 [c0, c1, c2, c3, c4, c5, c6, c7, c8, c9, c10])) = some x7 := hfi 7 _ rfl
      rw [cof_str] at z
      exact z
    obtain ⟨nm, e0, -, -⟩ := DataW.trod_string Tryd.underlying9 h0
    obtain ⟨f, e1, -, w1⟩ := DataW.trod_int Tryd.underlying3 h1
    obtain ⟨t, e2, -, w2⟩ := DataW.trod_int Tryd.underlying3 h2
    obtain ⟨m, e3, -, w3⟩ := DataW.trod_int Tryd.underlying3 h3
    obtain ⟨ys, n4, _, _, _, hlen4, hf4⟩ := DataW.trod_struct Tryd.underlying41 h4
    match ys, hlen4 with
    | [y0, y1, y2], _ =>
      have g0 : DataW.trod enc Tryd.prog w 0 (fun _ => true) true n4 3 [c4] = some y0 := by
        have z : DataW.trod enc Tryd.prog w 0 (fun _ => true) true n4 3 (List.take (Tryd.prog.cellsOf 3) (List.drop 0 [c4, c5, c6])) = some y0 := hf4 0 _ rfl
        rw [cof_int] at z
        exact z
      have g1 : DataW.trod enc Tryd.prog w 0 (fun _ => true) true n4 3 [c5] = some y1 := by
        have z : DataW.trod enc Tryd.prog w 0 (fun _ => true) true n4 3 (List.take (Tryd.prog.cellsOf 3) (List.drop 1 [c4, c5, c6])) = some y1 := hf4 1 _ rfl
        rw [cof_int] at z
        exact z
      have g2 : DataW.trod enc Tryd.prog w 0 (fun _ => true) true n4 3 [c6] = some y2 := by
        have z : DataW.trod enc Tryd.prog w 0 (fun _ => true) true n4 3 (List.take (Tryd.prog.cellsOf 3) (List.drop 2 [c4, c5, c6])) = some y2 := hf4 2 _ rfl
        rw [cof_int] at z
        exact z
      obtain ⟨k, e4, -, w4⟩ := DataW.trod_int Tryd.underlying3 g0
      obtain ⟨wk, e5, -, w5⟩ := DataW.trod_int Tryd.underlying3 g1
      obtain ⟨dd, e6, -, w6⟩ := DataW.trod_int Tryd.underlying3 g2
      obtain ⟨zs, n5, _, _, _, hlen5, hf5⟩ := DataW.trod_struct Tryd.underlying33 h5
      match zs, hlen5 with
      | [z0, z1], _ =>
        have q0 : DataW.trod enc Tryd.prog w 0 (fun _ => true) true n5 2 [c7] = some z0 := by
          have z : DataW.trod enc Tryd.prog w 0 (fun _ => true) true n5 2 (List.take (Tryd.prog.cellsOf 2) (List.drop 0 [c7, c8])) = some z0 := hf5 0 _ rfl
          rw [cof_i64] at z
          exact z
        have q1 : DataW.trod enc Tryd.prog w 0 (fun _ => true) true n5 3 [c8] = some z1 := by
          have z : DataW.trod enc Tryd.prog w 0 (fun _ => true) true n5 3 (List.take (Tryd.prog.cellsOf 3) (List.drop 1 [c7, c8])) = some z1 := hf5 1 _ rfl
          rw [cof_int] at z
          exact z
        obtain ⟨s, e7, -, w7⟩ := DataW.trod_int Tryd.underlying2 q0
        obtain ⟨b, e8, -, w8⟩ := DataW.trod_int Tryd.underlying3 q1
        obtain ⟨sv, e9, -, w9⟩ := DataW.trod_int Tryd.underlying2 h6
        obtain ⟨lt, e10, -, -⟩ := DataW.trod_string Tryd.underlying9 h7
        simp at e0 e1 e2 e3 e4 e5 e6 e7 e8 e9 e10
        subst e0 e1 e2 e3 e4 e5 e6 e7 e8 e9 e10
        exact ⟨⟨nm, f, t, m, k, wk, dd, s, b, sv, lt⟩, rfl, I64.of_wf w1, I64.of_wf w2⟩
theorem TopEachYear_frame (r : Ru) (off year : Int) (w : World) (kr : RuI r) : Calls Tryd.prog 5 #[ruV r, .int .i64 off, .int .i64 year] w fun e w' => e = .returned (.bool true) ∧ Below w.heap.size w w' := TopEachYear_walk r kr off year w
end Go.Proofs.YtjddmcecllhlhaaDoor

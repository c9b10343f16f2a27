/-
  spans.And, Or, Less, Of, Gaps and Total.
-/
import Derived.Test.YtjddmcecllhlhaaSwf
import Derived.Test.YtjddmcecllhlhaaSrt
namespace Go.Proofs.Ytjddmcecllhlhaa
open Go.RowKit Swp
theorem keep_and (x y : Bool) (W : World) : Calls Try.prog 14 #[.bool x, .bool y] W fun e W' => e = .returned (.bool (x && y)) ∧ W = W' := by
  cases x <;>
  · go_enter Try.func14, Try.ntmps14
    go_wp2
    go_ret
    exact ⟨rfl, rfl⟩
theorem keep_or (x y : Bool) (W : World) : Calls Try.prog 21 #[.bool x, .bool y] W fun e W' => e = .returned (.bool (x || y)) ∧ W = W' := by
  cases x <;>
  · go_enter Try.func21, Try.ntmps21
    go_wp2
    go_ret
    exact ⟨rfl, rfl⟩
theorem keep_less (x y : Bool) (W : World) : Calls Try.prog 23 #[.bool x, .bool y] W fun e W' => e = .returned (.bool (x && !y)) ∧ W = W' := by
  cases x <;>
  · go_enter Try.func23, Try.ntmps23
    go_wp2
    go_ret
    exact ⟨rfl, rfl⟩
theorem spans_And {w : World} {pa pb : Option Addr} {a b : List Sp} (capa capb : Nat) (ha : SpS w pa a) (hb : SpS w pb b) (la : a.length ≤ 100000) (lb : b.length ≤ 100000) : Calls Try.prog 6 #[.slice pa a.length capa, .slice pb b.length capb] w (GivesR w (fun x y => x && y) a b) := by
  have hs := sweep_over capa capb 14 (fun x y => x && y) (enters_of Try.func14 (by kernel_rfl) rfl) keep_and rfl sort_says ha hb la lb
  clear ha hb
  go_enter Try.func6, Try.ntmps6
  go_wp2_with fail
  refine hs.mono ?_
  rintro e w1 ⟨v, R, rfl, h1, h2⟩
  go_wp2_with fail
  go_ret
  exact ⟨v, R, rfl, h1, h2⟩
theorem spans_Or {w : World} {pa pb : Option Addr} {a b : List Sp} (capa capb : Nat) (ha : SpS w pa a) (hb : SpS w pb b) (la : a.length ≤ 100000) (lb : b.length ≤ 100000) : Calls Try.prog 10 #[.slice pa a.length capa, .slice pb b.length capb] w (GivesR w (fun x y => x || y) a b) := by
  have hs := sweep_over capa capb 21 (fun x y => x || y) (enters_of Try.func21 (by kernel_rfl) rfl) keep_or rfl sort_says ha hb la lb
  clear ha hb
  go_enter Try.func10, Try.ntmps10
  go_wp2_with fail
  refine hs.mono ?_
  rintro e w1 ⟨v, R, rfl, h1, h2⟩
  go_wp2_with fail
  go_ret
  exact ⟨v, R, rfl, h1, h2⟩
theorem spans_Less {w : World} {pa pb : Option Addr} {a b : List Sp} (capa capb : Nat) (ha : SpS w pa a) (hb : SpS w pb b) (la : a.length ≤ 100000) (lb : b.length ≤ 100000) : Calls Try.prog 15 #[.slice pa a.length capa, .slice pb b.length capb] w (GivesR w (fun x y => x && !y) a b) := by
  have hs := sweep_over capa capb 23 (fun x y => x && !y) (enters_of Try.func23 (by kernel_rfl) rfl) keep_less rfl sort_says ha hb la lb
  clear ha hb
  go_enter Try.func15, Try.ntmps15
  go_wp2_with fail
  refine hs.mono ?_
  rintro e w1 ⟨v, R, rfl, h1, h2⟩
  go_wp2_with fail
  go_ret
  exact ⟨v, R, rfl, h1, h2⟩
/-- A call that hands back the set of some spans. -/
def GivesO (w : World) (a : List Sp) (e : Ending) (w' : World) : Prop := ∃ v R, e = .returned v ∧ SpansAt w' w.heap.size v R ∧ Sep R ∧ (∀ t, inL R t = inL a t) ∧ R.length ≤ 2 * a.length ∧ Below w.heap.size w w'
theorem spans_Of {w : World} {pa : Option Addr} {a : List Sp} (capa : Nat) (ha : SpS w pa a) (la : a.length ≤ 100000) : Calls Try.prog 4 #[.slice pa a.length capa] w (GivesO w a) := by
  have hs := spans_Or (b := []) (pb := none) capa 0 ha (.inl rfl) la (by simp)
  rw [show ([] : List Sp).length = 0 from rfl] at hs
  clear ha
  go_enter Try.func4, Try.ntmps4
  go_wp2_with fail
  refine hs.mono ?_
  rintro e w1 ⟨v, R, rfl, h1, h2, h3, h4, h5⟩
  go_wp2_with fail
  go_ret
  refine ⟨v, R, rfl, h1, h2, fun t => ?_, by simpa using h4, h5⟩
  rw [h3, wnt, inL_nil, Bool.or_false]
theorem one_span {w : World} {b : Nat} {x y : Int} (hb : b < w.heap.size) (h0 : w.cell? ⟨b, 0, none⟩ = some (.int .i64 x)) (h1 : w.cell? ⟨b, 1, none⟩ = some (.int .i64 y)) : SpS w (some ⟨b, 0, none⟩) [(x, y)] := by
  refine .inr ⟨b, 0, rfl, hb, fun k hk => ?_⟩
  obtain rfl : k = 0 := by simpa using hk
  exact ⟨h0, h1⟩
theorem spans_Gaps {w : World} {pa : Option Addr} {a : List Sp} (capa : Nat) (x y : Int) (ha : SpS w pa a) (la : a.length ≤ 100000) : Calls Try.prog 7 #[.slice pa a.length capa, spn x y] w (GivesR w (fun x y => x && !y) [(x, y)] a) := by
  have HA := Lib.hid ha
  clear ha
  go_enter Try.func7, Try.ntmps7
  go_wp2_with fail
  refine (spans_Less (a := [(x, y)]) (pa := some ⟨w.heap.size + 1, 0, none⟩) (b := a) 1 capa (one_span (by simp) (by go_simp) (by go_simp)) (HA.out.below (by (focus (repeat' (first | exact Below.refl _ _ | refine Below.alloc ?_ ?_ _ | refine Below.setCell ?_ ?_ _ | refine Below.drew ?_ | refine below_drewN ?_ _ | refine Below.trans ?_ (Below.mono (by assumption) ?_) | refine Below.trans ?_ (Below.mono (BW.below _) ?_) | (simp; done) | (simp; omega) | omega))))) (by simp) la).mono ?_
  rintro e w1 ⟨v, R, rfl, h1, h2, h3, h4, h5⟩
  have z := h5.size
  simp at z
  go_wp2_with fail
  go_ret
  exact ⟨v, R, rfl, h1.mono (by simp; omega), h2, h3, h4, by (focus (repeat' (first | exact Below.refl _ _ | refine Below.alloc ?_ ?_ _ | refine Below.setCell ?_ ?_ _ | refine Below.drew ?_ | refine below_drewN ?_ _ | refine Below.trans ?_ (Below.mono (by assumption) ?_) | refine Below.trans ?_ (Below.mono (BW.below _) ?_) | (simp; done) | (simp; omega) | omega)))⟩
end Go.Proofs.Ytjddmcecllhlhaa

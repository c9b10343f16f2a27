/-
  Contracts of the functions of package span that hand back plain values.
-/
import Derived.Test.YtjddmcecllhlhaaDoorNum
namespace Go.Proofs.YtjddmcecllhlhaaDoor
open Go.RowKit

abbrev spn (a b : Int) : Value := .agg #[.int .i64 a, .int .i64 b]
def meetB (a b c d : Int) : Bool := decide (a < b ∧ c < d ∧ max a c < min b d)
def bothF (a b c d : Int) : Int := if meetB a b c d = true then max a c else 0
def bothT (a b c d : Int) : Int := if meetB a b c d = true then min b d else 0

theorem meetB_t {a b c d : Int} (h : meetB a b c d = true) : a < b ∧ c < d ∧ max a c < min b d := by simpa [meetB] using h
theorem meetB_f {a b c d : Int} (h : ¬ (a < b ∧ c < d ∧ max a c < min b d)) : bothF a b c d = 0 ∧ bothT a b c d = 0 ∧ meetB a b c d = false := by
  have e : meetB a b c d = false := by simpa [meetB] using h
  simp [bothF, bothT, e]
theorem meetB_y {a b c d : Int} (h : a < b ∧ c < d ∧ max a c < min b d) : bothF a b c d = max a c ∧ bothT a b c d = min b d ∧ meetB a b c d = true := by
  have e : meetB a b c d = true := by simpa [meetB] using h
  simp [bothF, bothT, e]
theorem meet_cases (a b c d : Int) : (∃ (_ : a < b) (_ : c < d) (_ : max a c < min b d), bothF a b c d = max a c ∧ bothT a b c d = min b d ∧ meetB a b c d = true) ∨
    (∃ (_ : decide (a < b) = false), bothF a b c d = 0 ∧ bothT a b c d = 0 ∧ meetB a b c d = false) ∨ (∃ (_ : a < b) (_ : decide (c < d) = false), bothF a b c d = 0 ∧ bothT a b c d = 0 ∧ meetB a b c d = false) ∨
    (∃ (_ : a < b) (_ : c < d) (_ : decide (max a c < min b d) = false), bothF a b c d = 0 ∧ bothT a b c d = 0 ∧ meetB a b c d = false) := by
  by_cases h1 : a < b
  · by_cases h2 : c < d
    · by_cases h3 : max a c < min b d
      · exact .inl ⟨h1, h2, h3, meetB_y ⟨h1, h2, h3⟩⟩
      · exact .inr (.inr (.inr ⟨h1, h2, by simpa using h3, meetB_f (fun h => h3 h.2.2)⟩))
    · exact .inr (.inr (.inl ⟨h1, by simpa using h2, meetB_f (fun h => h2 h.2.1)⟩))
  · exact .inr (.inl ⟨by simpa using h1, meetB_f (fun h => h1 h.1)⟩)

theorem span_Right (a b : Int) (w : World) : Calls Tryd.prog 42 #[spn a b] w fun e w' => e = .returned (.bool (decide (a < b))) ∧ Below w.heap.size w w' := by
  go_enter Tryd.func42, Tryd.ntmps42
  go_wp2
  go_ret
  exact ⟨rfl, by (focus (repeat' (first | exact Below.refl _ _ | refine Below.alloc ?_ ?_ _ | refine Below.setCell ?_ ?_ _ | refine Below.drew ?_ | refine below_drewN ?_ _ | refine Below.trans ?_ (Below.mono (by assumption) ?_) | refine Below.trans ?_ (Below.mono (BW.below _) ?_) | (simp; done) | (simp; omega) | omega)))⟩

/-- What touches. -/
def touchB (a b c d : Int) : Bool := decide (a < b ∧ c < d ∧ max a c = min b d)
theorem touch_cases (a b c d : Int) : (∃ (_ : a < b) (_ : c < d) (_ : (max a c == min b d) = true), touchB a b c d = true) ∨
    (∃ (_ : decide (a < b) = false), touchB a b c d = false) ∨ (∃ (_ : a < b) (_ : decide (c < d) = false), touchB a b c d = false) ∨
    (∃ (_ : a < b) (_ : c < d) (_ : (max a c == min b d) = false), touchB a b c d = false) := by
  by_cases h1 : a < b
  · by_cases h2 : c < d
    · by_cases h3 : max a c = min b d
      · exact .inl ⟨h1, h2, by simpa using h3, by simp [touchB, h1, h2, h3]⟩
      · exact .inr (.inr (.inr ⟨h1, h2, by simpa using h3, by simp [touchB, h3]⟩))
    · exact .inr (.inr (.inl ⟨h1, by simpa using h2, by simp [touchB, h2]⟩))
  · exact .inr (.inl ⟨by simpa using h1, by simp [touchB, h1]⟩)

/-- What lies in one of two. -/
def joinB (a b c d : Int) : Bool := decide (a < b ∧ c < d ∧ max a c ≤ min b d)
def joinF (a b c d : Int) : Int := if joinB a b c d = true then min a c else 0
def joinT (a b c d : Int) : Int := if joinB a b c d = true then max b d else 0
theorem join_val {a b c d : Int} (k : Bool) (e : joinB a b c d = k) : joinF a b c d = (if k = true then min a c else 0) ∧ joinT a b c d = (if k = true then max b d else 0) ∧ joinB a b c d = k := by
  subst e; exact ⟨rfl, rfl, rfl⟩
theorem join_cases (a b c d : Int) : (∃ (_ : a < b) (_ : c < d) (_ : decide (min b d < max a c) = false), joinF a b c d = min a c ∧ joinT a b c d = max b d ∧ joinB a b c d = true) ∨
    (∃ (_ : decide (a < b) = false), joinF a b c d = 0 ∧ joinT a b c d = 0 ∧ joinB a b c d = false) ∨ (∃ (_ : a < b) (_ : decide (c < d) = false), joinF a b c d = 0 ∧ joinT a b c d = 0 ∧ joinB a b c d = false) ∨
    (∃ (_ : a < b) (_ : c < d) (_ : min b d < max a c), joinF a b c d = 0 ∧ joinT a b c d = 0 ∧ joinB a b c d = false) := by
  by_cases h1 : a < b
  · by_cases h2 : c < d
    · by_cases h3 : min b d < max a c
      · exact .inr (.inr (.inr ⟨h1, h2, h3, by simpa using join_val (a := a) (b := b) (c := c) (d := d) false (by simp only [joinB]; simpa using fun _ _ => h3)⟩))
      · exact .inl ⟨h1, h2, by simpa using h3, by simpa using join_val (a := a) (b := b) (c := c) (d := d) true (by simp only [joinB]; simpa using ⟨h1, h2, by omega⟩)⟩
    · exact .inr (.inr (.inl ⟨h1, by simpa using h2, by simpa using join_val (a := a) (b := b) (c := c) (d := d) false (by simp [joinB, h2])⟩))
  · exact .inr (.inl ⟨by simpa using h1, by simpa using join_val (a := a) (b := b) (c := c) (d := d) false (by simp [joinB, h1])⟩)

theorem val_join {a b c d x y : Int} (hx : x = min a c) (hy : y = max b d) : Value.tuple #[spn x y, .bool true] = .tuple #[spn (min a c) (max b d), .bool true] := by rw [hx, hy]
/-- How long a span is. -/
def lenV (a b : Int) : Int := if a < b then valI (b - a) else 0
def lenE (a b : Int) : Int := if a < b then errI (b - a) else 1
/-- May a span be moved? -/
def moveB (a b t : Int) : Bool := decide (a < b ∧ okI (a + t) = true ∧ okI (b + t) = true)
def moveE (a b t : Int) : Int := if moveB a b t = true then 0 else 1
def moveV (a b t x : Int) : Int := if moveB a b t = true then x + t else 0
theorem move_cases (a b t : Int) : (∃ (_ : a < b) (_ : (errI (a + t) != 0) = false) (_ : (errI (b + t) != 0) = false) (_ : valI (a + t) = a + t ∧ valI (b + t) = b + t), moveV a b t a = a + t ∧ moveV a b t b = b + t ∧ moveE a b t = 0) ∨
    (∃ (_ : decide (a < b) = false), moveV a b t a = 0 ∧ moveV a b t b = 0 ∧ moveE a b t = 1) ∨ (∃ (_ : a < b) (_ : (errI (a + t) != 0) = true), moveV a b t a = 0 ∧ moveV a b t b = 0 ∧ moveE a b t = 1) ∨
    (∃ (_ : a < b) (_ : (errI (a + t) != 0) = false) (_ : (errI (b + t) != 0) = true), moveV a b t a = 0 ∧ moveV a b t b = 0 ∧ moveE a b t = 1) := by
  by_cases h1 : a < b
  · cases h2 : okI (a + t)
    · exact .inr (.inr (.inl ⟨h1, by simp [errI, h2], by simp [moveV, moveE, moveB, h2]⟩))
    · cases h3 : okI (b + t)
      · exact .inr (.inr (.inr ⟨h1, by simp [errI, h2], by simp [errI, h3], by simp [moveV, moveE, moveB, h3]⟩))
      · exact .inl ⟨h1, by simp [errI, h2], by simp [errI, h3], ⟨by simp [valI, h2], by simp [valI, h3]⟩, by simp [moveV, moveE, moveB, h1, h2, h3]⟩
  · exact .inr (.inl ⟨by simpa using h1, by simp [moveV, moveE, moveB, h1]⟩)

end Go.Proofs.YtjddmcecllhlhaaDoor

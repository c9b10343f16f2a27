/-
  Compare.
-/
import Derived.Test.YtblmlglkjmilkaaCivE
import Derived.StillTailTactics
namespace Go.Proofs.Ytblmlglkjmilkaa
open Go.RowKit Cal
attribute [local go_sem] BW.cell BW.frozen

def cmpI (a b : Int) : Int := if a < b then -1 else if b < a then 1 else 0
def or3 (a b c : Int) : Int := if a ≠ 0 then a else if b ≠ 0 then b else c
def cmp3 (y m d y' m' d' : Int) : Int := or3 (cmpI y y') (cmpI m m') (cmpI d d')
theorem cmpI_cases (a b : Int) : (a < b ∧ cmpI a b = -1) ∨ (b < a ∧ cmpI a b = 1) ∨ (a = b ∧ cmpI a b = 0) := by
  unfold cmpI; split
  · omega
  · split <;> omega

theorem cmp_isNaN (a : Int) (w : World) : Calls Try.prog 103 #[.int .i64 a] w fun e w' => e = .returned (.bool false) ∧ w = w' := by
  go_enter Try.func103, Try.ntmps103
  go_wp2
  go_ret
  exact ⟨rfl, rfl⟩
theorem cmp_Compare (a b : Int) (w : World) : Calls Try.prog 91 #[.int .i64 a, .int .i64 b] w fun e w' => e = .returned (.int .i64 (cmpI a b)) ∧ w = w' := by
  rcases cmpI_cases a b with ⟨h, e⟩ | ⟨h, e⟩ | ⟨rfl, e⟩
  all_goals
    rw [e]
    clear e
    go_enter Try.func91, Try.ntmps91
    go_wp2_with (go_at_call 103; refine (cmp_isNaN _ _).mono ?_; rintro e w' ⟨rfl, rfl⟩)
    go_ret
    exact ⟨rfl, rfl⟩

theorem cmp_Or (a b c : Int) (g : Nat) (w : World) (h0 : w.cell? ⟨g, 0, none⟩ = some (.int .i64 a)) (h1 : w.cell? ⟨g, 1, none⟩ = some (.int .i64 b)) (h2 : w.cell? ⟨g, 2, none⟩ = some (.int .i64 c)) :
    Calls Try.prog 90 #[.slice (some ⟨g, 0, none⟩) 3 3] w fun e w' => e = .returned (.int .i64 (or3 a b c)) ∧ w = w' := by
  by_cases ha : a = 0
  · by_cases hb : b = 0
    · by_cases hc : c = 0
      · subst ha hb hc
        rw [show or3 0 0 0 = 0 from rfl]
        go_enter Try.func90, Try.ntmps90
        go_wp2
        refine wp_loop_rounds 4 ?_
        rw [rounds_succ]
        go_wp2
        rw [rounds_succ]
        go_wp2
        rw [rounds_succ]
        go_wp2
        rw [rounds_succ]
        go_wp2
        go_ret
        exact ⟨rfl, rfl⟩
      · subst ha hb
        have hc' : (c != 0) = true := by simpa using hc
        rw [show or3 0 0 c = c by simp [or3]]
        clear hc
        go_enter Try.func90, Try.ntmps90
        go_wp2
        refine wp_loop_rounds 4 ?_
        rw [rounds_succ]
        go_wp2
        rw [rounds_succ]
        go_wp2
        rw [rounds_succ]
        go_wp2
        go_ret
        exact ⟨rfl, rfl⟩
    · subst ha
      have hb' : (b != 0) = true := by simpa using hb
      rw [show or3 0 b c = b by simp [or3, hb]]
      clear hb
      go_enter Try.func90, Try.ntmps90
      go_wp2
      refine wp_loop_rounds 4 ?_
      rw [rounds_succ]
      go_wp2
      rw [rounds_succ]
      go_wp2
      go_ret
      exact ⟨rfl, rfl⟩
  · have ha' : (a != 0) = true := by simpa using ha
    rw [show or3 a b c = a by simp [or3, ha]]
    clear ha
    go_enter Try.func90, Try.ntmps90
    go_wp2
    refine wp_loop_rounds 4 ?_
    rw [rounds_succ]
    go_wp2
    go_ret
    exact ⟨rfl, rfl⟩

theorem civil_Compare (y m d y' m' d' : Int) (w : World) : Calls Try.prog 58 #[dat y m d, dat y' m' d'] w fun e w' => e = .returned (.int .i64 (cmp3 y m d y' m' d')) ∧ Below w.heap.size w w' := by
  go_enter Try.func58, Try.ntmps58
  go_wp2_with fail
  have B0 : Below w.heap.size w ((w.alloc (.cells #[.int .i64 y, .int .i64 m, .int .i64 d] 48)).alloc (.cells #[.int .i64 y', .int .i64 m', .int .i64 d'] 48)) := by (focus (repeat' (first | exact Below.refl _ _ | refine Below.alloc ?_ ?_ _ | refine Below.setCell ?_ ?_ _ | refine Below.drew ?_ | refine below_drewN ?_ _ | refine Below.trans ?_ (Below.mono (by assumption) ?_) | refine Below.trans ?_ (Below.mono (BW.below _) ?_) | (simp; done) | (simp; omega) | omega)))
  have a0 : ((w.alloc (.cells #[.int .i64 y, .int .i64 m, .int .i64 d] 48)).alloc (.cells #[.int .i64 y', .int .i64 m', .int .i64 d'] 48)).cell? ⟨w.heap.size, 0, none⟩ = some (.int .i64 y) := by go_simp
  have a1 : ((w.alloc (.cells #[.int .i64 y, .int .i64 m, .int .i64 d] 48)).alloc (.cells #[.int .i64 y', .int .i64 m', .int .i64 d'] 48)).cell? ⟨w.heap.size, 1, none⟩ = some (.int .i64 m) := by go_simp
  have a2 : ((w.alloc (.cells #[.int .i64 y, .int .i64 m, .int .i64 d] 48)).alloc (.cells #[.int .i64 y', .int .i64 m', .int .i64 d'] 48)).cell? ⟨w.heap.size, 2, none⟩ = some (.int .i64 d) := by go_simp
  have b0 : ((w.alloc (.cells #[.int .i64 y, .int .i64 m, .int .i64 d] 48)).alloc (.cells #[.int .i64 y', .int .i64 m', .int .i64 d'] 48)).cell? ⟨w.heap.size + 1, 0, none⟩ = some (.int .i64 y') := by go_simp
  have b1 : ((w.alloc (.cells #[.int .i64 y, .int .i64 m, .int .i64 d] 48)).alloc (.cells #[.int .i64 y', .int .i64 m', .int .i64 d'] 48)).cell? ⟨w.heap.size + 1, 1, none⟩ = some (.int .i64 m') := by go_simp
  have b2 : ((w.alloc (.cells #[.int .i64 y, .int .i64 m, .int .i64 d] 48)).alloc (.cells #[.int .i64 y', .int .i64 m', .int .i64 d'] 48)).cell? ⟨w.heap.size + 1, 2, none⟩ = some (.int .i64 d') := by go_simp
  have z0 : w.heap.size < ((w.alloc (.cells #[.int .i64 y, .int .i64 m, .int .i64 d] 48)).alloc (.cells #[.int .i64 y', .int .i64 m', .int .i64 d'] 48)).heap.size := by simp; try omega
  have z1 : w.heap.size + 1 < ((w.alloc (.cells #[.int .i64 y, .int .i64 m, .int .i64 d] 48)).alloc (.cells #[.int .i64 y', .int .i64 m', .int .i64 d'] 48)).heap.size := by simp; try omega
  generalize (w.alloc (.cells #[.int .i64 y, .int .i64 m, .int .i64 d] 48)).alloc (.cells #[.int .i64 y', .int .i64 m', .int .i64 d'] 48) = W at *
  go_region_held3 (fun w' => (∀ b o, b < W.heap.size → w'.cell? ⟨b, o, none⟩ = W.cell? ⟨b, o, none⟩) ∧ Below W.heap.size W w') (first | exact held_drew _ | exact held_alloc (by assumption) _ | assumption)
    (first
      | (go_at_call 91; refine (cmp_Compare _ _ _).mono ?_; rintro e wr ⟨rfl, rfl⟩)
      | (go_at_call 90; refine (cmp_Or (cmpI y y') (cmpI m m') (cmpI d d') _ _ ?_ ?_ ?_).mono ?_; (go_simp); (go_simp); (go_simp); rintro e wr ⟨rfl, rfl⟩))
  go_wp2_with fail
  go_ret
  exact ⟨rfl, Below.trans B0 (Below.mono (And.right (by assumption : (∀ b o, b < W.heap.size → World.cell? _ ⟨b, o, none⟩ = W.cell? ⟨b, o, none⟩) ∧ _)) (by omega))⟩
set_option maxRecDepth 100000 in
theorem ref03_Compare1 (y m d y' m' d' : Int) (h : y < y') (w : World) : Calls Try.prog 59 #[dat y m d, dat y' m' d'] w fun e w' => e = .returned (.int .i64 (-1)) ∧ Below w.heap.size w w' := by
    go_enter Try.func59, Try.ntmps59
    go_wp2_with fail
    refine wp_loop_rounds 4 ?_
    rw [rounds_succ]
    go_wp2_with fail
    go_quiet (fail)
    go_wp2_with fail
    go_ret
    exact ⟨rfl, by (focus (repeat' (first | exact Below.refl _ _ | refine Below.alloc ?_ ?_ _ | refine Below.setCell ?_ ?_ _ | refine Below.drew ?_ | refine below_drewN ?_ _ | refine Below.trans ?_ (Below.mono (by assumption) ?_) | refine Below.trans ?_ (Below.mono (BW.below _) ?_) | (simp; done) | (simp; omega) | omega)))⟩
set_option maxRecDepth 100000 in
theorem ref03_Compare2 (y m d y' m' d' : Int) (h : y' < y) (w : World) : Calls Try.prog 59 #[dat y m d, dat y' m' d'] w fun e w' => e = .returned (.int .i64 1) ∧ Below w.heap.size w w' := by
    go_enter Try.func59, Try.ntmps59
    go_wp2_with fail
    refine wp_loop_rounds 4 ?_
    rw [rounds_succ]
    go_wp2_with fail
    go_quiet (fail)
    go_wp2_with fail
    go_quiet (fail)
    go_wp2_with fail
    go_ret
    exact ⟨rfl, by (focus (repeat' (first | exact Below.refl _ _ | refine Below.alloc ?_ ?_ _ | refine Below.setCell ?_ ?_ _ | refine Below.drew ?_ | refine below_drewN ?_ _ | refine Below.trans ?_ (Below.mono (by assumption) ?_) | refine Below.trans ?_ (Below.mono (BW.below _) ?_) | (simp; done) | (simp; omega) | omega)))⟩
set_option maxRecDepth 100000 in
theorem ref03_Compare3 (y m d m' d' : Int) (h : m < m') (w : World) : Calls Try.prog 59 #[dat y m d, dat y m' d'] w fun e w' => e = .returned (.int .i64 (-1)) ∧ Below w.heap.size w w' := by
    go_enter Try.func59, Try.ntmps59
    go_wp2_with fail
    refine wp_loop_rounds 4 ?_
    rw [rounds_succ]
    go_wp2_with fail
    go_quiet (fail)
    go_wp2_with fail
    go_quiet (fail)
    go_wp2_with fail
    rw [rounds_succ]
    go_wp2_with fail
    go_quiet (fail)
    go_wp2_with fail
    go_ret
    exact ⟨rfl, by (focus (repeat' (first | exact Below.refl _ _ | refine Below.alloc ?_ ?_ _ | refine Below.setCell ?_ ?_ _ | refine Below.drew ?_ | refine below_drewN ?_ _ | refine Below.trans ?_ (Below.mono (by assumption) ?_) | refine Below.trans ?_ (Below.mono (BW.below _) ?_) | (simp; done) | (simp; omega) | omega)))⟩
set_option maxRecDepth 100000 in
theorem ref03_Compare4 (y m d m' d' : Int) (h : m' < m) (w : World) : Calls Try.prog 59 #[dat y m d, dat y m' d'] w fun e w' => e = .returned (.int .i64 1) ∧ Below w.heap.size w w' := by
    go_enter Try.func59, Try.ntmps59
    go_wp2_with fail
    refine wp_loop_rounds 4 ?_
    rw [rounds_succ]
    go_wp2_with fail
    go_quiet (fail)
    go_wp2_with fail
    go_quiet (fail)
    go_wp2_with fail
    rw [rounds_succ]
    go_wp2_with fail
    go_quiet (fail)
    go_wp2_with fail
    go_quiet (fail)
    go_wp2_with fail
    go_ret
    exact ⟨rfl, by (focus (repeat' (first | exact Below.refl _ _ | refine Below.alloc ?_ ?_ _ | refine Below.setCell ?_ ?_ _ | refine Below.drew ?_ | refine below_drewN ?_ _ | refine Below.trans ?_ (Below.mono (by assumption) ?_) | refine Below.trans ?_ (Below.mono (BW.below _) ?_) | (simp; done) | (simp; omega) | omega)))⟩
set_option maxRecDepth 100000 in
theorem ref03_Compare5 (y m d d' : Int) (h : d < d') (w : World) : Calls Try.prog 59 #[dat y m d, dat y m d'] w fun e w' => e = .returned (.int .i64 (-1)) ∧ Below w.heap.size w w' := by
    go_enter Try.func59, Try.ntmps59
    go_wp2_with fail
    refine wp_loop_rounds 4 ?_
    rw [rounds_succ]
    go_wp2_with fail
    go_quiet (fail)
    go_wp2_with fail
    go_quiet (fail)
    go_wp2_with fail
    rw [rounds_succ]
    go_wp2_with fail
    go_quiet (fail)
    go_wp2_with fail
    go_quiet (fail)
    go_wp2_with fail
    rw [rounds_succ]
    go_wp2_with fail
    go_quiet (fail)
    go_wp2_with fail
    go_ret
    exact ⟨rfl, by (focus (repeat' (first | exact Below.refl _ _ | refine Below.alloc ?_ ?_ _ | refine Below.setCell ?_ ?_ _ | refine Below.drew ?_ | refine below_drewN ?_ _ | refine Below.trans ?_ (Below.mono (by assumption) ?_) | refine Below.trans ?_ (Below.mono (BW.below _) ?_) | (simp; done) | (simp; omega) | omega)))⟩
set_option maxRecDepth 100000 in
theorem ref03_Compare6 (y m d d' : Int) (h : d' < d) (w : World) : Calls Try.prog 59 #[dat y m d, dat y m d'] w fun e w' => e = .returned (.int .i64 1) ∧ Below w.heap.size w w' := by
    go_enter Try.func59, Try.ntmps59
    go_wp2_with fail
    refine wp_loop_rounds 4 ?_
    rw [rounds_succ]
    go_wp2_with fail
    go_quiet (fail)
    go_wp2_with fail
    go_quiet (fail)
    go_wp2_with fail
    rw [rounds_succ]
    go_wp2_with fail
    go_quiet (fail)
    go_wp2_with fail
    go_quiet (fail)
    go_wp2_with fail
    rw [rounds_succ]
    go_wp2_with fail
    go_quiet (fail)
    go_wp2_with fail
    go_quiet (fail)
    go_wp2_with fail
    go_ret
    exact ⟨rfl, by (focus (repeat' (first | exact Below.refl _ _ | refine Below.alloc ?_ ?_ _ | refine Below.setCell ?_ ?_ _ | refine Below.drew ?_ | refine below_drewN ?_ _ | refine Below.trans ?_ (Below.mono (by assumption) ?_) | refine Below.trans ?_ (Below.mono (BW.below _) ?_) | (simp; done) | (simp; omega) | omega)))⟩
set_option maxRecDepth 100000 in
theorem ref03_Compare7 (y m d : Int) (w : World) : Calls Try.prog 59 #[dat y m d, dat y m d] w fun e w' => e = .returned (.int .i64 0) ∧ Below w.heap.size w w' := by
    go_enter Try.func59, Try.ntmps59
    go_wp2_with fail
    refine wp_loop_rounds 4 ?_
    rw [rounds_succ]
    go_wp2_with fail
    go_quiet (fail)
    go_wp2_with fail
    go_quiet (fail)
    go_wp2_with fail
    rw [rounds_succ]
    go_wp2_with fail
    go_quiet (fail)
    go_wp2_with fail
    go_quiet (fail)
    go_wp2_with fail
    rw [rounds_succ]
    go_wp2_with fail
    go_quiet (fail)
    go_wp2_with fail
    go_quiet (fail)
    go_wp2_with fail
    rw [rounds_succ]
    go_wp2_with fail
    go_ret
    exact ⟨rfl, by (focus (repeat' (first | exact Below.refl _ _ | refine Below.alloc ?_ ?_ _ | refine Below.setCell ?_ ?_ _ | refine Below.drew ?_ | refine below_drewN ?_ _ | refine Below.trans ?_ (Below.mono (by assumption) ?_) | refine Below.trans ?_ (Below.mono (BW.below _) ?_) | (simp; done) | (simp; omega) | omega)))⟩
theorem ref03_Compare (y m d y' m' d' : Int) (w : World) : Calls Try.prog 59 #[dat y m d, dat y' m' d'] w fun e w' => e = .returned (.int .i64 (cmp3 y m d y' m' d')) ∧ Below w.heap.size w w' := by
  rcases cmpI_cases y y' with ⟨h, e⟩ | ⟨h, e⟩ | ⟨rfl, e⟩
  · rw [show cmp3 y m d y' m' d' = -1 by simp [cmp3, or3, e]]; exact ref03_Compare1 y m d y' m' d' h w
  · rw [show cmp3 y m d y' m' d' = 1 by simp [cmp3, or3, e]]; exact ref03_Compare2 y m d y' m' d' h w
  · rcases cmpI_cases m m' with ⟨h, f⟩ | ⟨h, f⟩ | ⟨rfl, f⟩
    · rw [show cmp3 y m d y m' d' = -1 by simp [cmp3, or3, e, f]]; exact ref03_Compare3 y m d m' d' h w
    · rw [show cmp3 y m d y m' d' = 1 by simp [cmp3, or3, e, f]]; exact ref03_Compare4 y m d m' d' h w
    · rcases cmpI_cases d d' with ⟨h, g⟩ | ⟨h, g⟩ | ⟨rfl, g⟩
      · rw [show cmp3 y m d y m d' = -1 by simp [cmp3, or3, e, f, g]]; exact ref03_Compare5 y m d d' h w
      · rw [show cmp3 y m d y m d' = 1 by simp [cmp3, or3, e, f, g]]; exact ref03_Compare6 y m d d' h w
      · rw [show cmp3 y m d y m d = 0 by simp [cmp3, or3, e, f, g]]; exact ref03_Compare7 y m d w
end Go.Proofs.Ytblmlglkjmilkaa

/-
  The reference's Same on two slices that read as one list.
-/
import Derived.Test.YtblmlglkjmilkaaSpanL
namespace Go.Proofs.Ytblmlglkjmilkaa
open Go.RowKit

theorem scells_get (l : List (Int × Int)) (k : Nat) (h : k < l.length) : (scells l)[2 * k]? = some (.int .i64 l[k].1) ∧ (scells l)[2 * k + 1]? = some (.int .i64 l[k].2) := by
  induction l generalizing k with
  | nil => simp at h
  | cons x l ih =>
    cases k with
    | zero => simp [scells]
    | succ k => simpa [scells, Nat.mul_add] using ih k (by simpa using h)

/-- A slice of spans, read: not empty: an address and its cells. -/
theorem SpansAt.read {w : World} {B : Nat} {v : Value} {l : List (Int × Int)} (h : SpansAt w B v l) : (l = [] ∧ ∃ a cap, v = .slice a 0 cap) ∨
    (∃ g cap, v = .slice (some ⟨g, 0, none⟩) l.length cap ∧ l.length ≤ maxLen ∧ 0 < l.length ∧ ∀ k (hk : k < l.length), w.cell? ⟨g, k * 2, none⟩ = some (.int .i64 l[k].1) ∧ w.cell? ⟨g, k * 2 + 1, none⟩ = some (.int .i64 l[k].2)) := by
  obtain ⟨h1, h2⟩ := h
  rcases h2 with ⟨rfl, hn⟩ | ⟨g, cap, cur, rfl, hg, hh, hn, hc, hs, ht⟩
  · exact .inl ⟨List.eq_nil_of_length_eq_zero hn, none, 0, rfl⟩
  · by_cases h0 : l.length = 0
    · exact .inl ⟨List.eq_nil_of_length_eq_zero h0, _, cap, by rw [h0]⟩
    · refine .inr ⟨g, cap, rfl, Nat.le_trans hn hc, by omega, fun k hk => ?_⟩
      have hown : w.ownsRow B 23 2 (.slice (some ⟨g, 0, none⟩) l.length cap) l.length (scells l) := ⟨h1, .inr ⟨g, cap, cur, rfl, hg, hh, hn, hc, hs, ht⟩⟩
      obtain ⟨e1, e2⟩ := scells_get l k hk
      rw [Nat.mul_comm] at e1 e2
      exact ⟨(hown.cellAt _ (by omega)).trans e1, (hown.cellAt _ (by omega)).trans e2⟩

theorem same_empty (a b : Option Addr) (c d : Nat) (w : World) : Calls Try.prog 31 #[.slice a 0 c, .slice b 0 d] w fun e w' => e = .returned (.bool true) ∧ Below w.heap.size w w' := by
  go_enter Try.func31, Try.ntmps31
  go_wp2
  refine wp_loop_rounds 1 ?_
  rw [rounds_succ]
  go_wp2
  go_ret
  exact ⟨rfl, Below.refl _ _⟩

set_option maxRecDepth 100000 in
theorem same_full (g g' cap cap' : Nat) (l : List (Int × Int)) (w : World) (hm : l.length ≤ maxLen) (h0 : 0 < l.length)
    (hx : ∀ k (hk : k < l.length), w.cell? ⟨g, k * 2, none⟩ = some (.int .i64 l[k].1) ∧ w.cell? ⟨g, k * 2 + 1, none⟩ = some (.int .i64 l[k].2))
    (hy : ∀ k (hk : k < l.length), w.cell? ⟨g', k * 2, none⟩ = some (.int .i64 l[k].1) ∧ w.cell? ⟨g', k * 2 + 1, none⟩ = some (.int .i64 l[k].2)) :
    Calls Try.prog 31 #[.slice (some ⟨g, 0, none⟩) l.length cap, .slice (some ⟨g', 0, none⟩) l.length cap'] w fun e w' => e = .returned (.bool true) ∧ Below w.heap.size w w' := by
  unfold maxLen at hm
  have HX := Lib.hid hx
  have HY := Lib.hid hy
  clear hx hy
  go_enter Try.func31, Try.ntmps31
  go_wp2
  go_loopw [13, 5] (fun i _ wr => ∃ k : Nat, k ≤ l.length ∧ i = .int .i64 k ∧ ∃ n, wr = w.drewN n) (fun i _ _ => l.length - (intOf i).toNat)
  case atStart => exact ⟨0, Nat.zero_le _, rfl, 0, rfl⟩
  case round =>
    obtain ⟨k, hk, rfl, n, rfl⟩ := hrel
    by_cases hlt : k < l.length
    · obtain ⟨c0, c1⟩ := HX.out k hlt
      obtain ⟨d0, d1⟩ := HY.out k hlt
      have b0 : (k : Int) < (l.length : Int) := by omega
      have b1 : 0 ≤ (k : Int) := by omega
      go_wp2
      go_quiet (fail)
      go_wp2
      go_roundw
      case rel => exact ⟨k + 1, by omega, by go_num, _, by first | rfl | exact World.drewN_drewN _ _ _⟩
      case measure => simp [intOf]; omega
    · go_wp2
      go_ret
      exact ⟨rfl, below_drewN (Below.refl _ _) _⟩

theorem ref10_Same {w : World} {B B' : Nat} {u v : Value} {l : List (Int × Int)} (hu : SpansAt w B u l) (hv : SpansAt w B' v l) :
    Calls Try.prog 31 #[u, v] w fun e w' => e = .returned (.bool true) ∧ Below w.heap.size w w' := by
  rcases hu.read with ⟨rfl, a, c, rfl⟩ | ⟨g, cap, rfl, hm, h0, hx⟩
  · rcases hv.read with ⟨_, b, d, rfl⟩ | ⟨_, _, _, _, h, _⟩
    · exact same_empty a b c d w
    · simp at h
  · rcases hv.read with ⟨rfl, _⟩ | ⟨g', cap', rfl, _, _, hy⟩
    · simp at h0
    · exact same_full g g' cap cap' l w hm h0 hx hy
end Go.Proofs.Ytblmlglkjmilkaa

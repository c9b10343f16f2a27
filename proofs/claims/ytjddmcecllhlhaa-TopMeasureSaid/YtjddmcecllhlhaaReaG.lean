/-
  Contracts of sums and of the least of a list of numbers.
-/
import Derived.Test.YtjddmcecllhlhaaFop
namespace Go.Proofs.Ytjddmcecllhlhaa
open Go.RowKit Flo

/-- A slice of numbers, not empty, in memory. -/
def FlAt (w : World) (b off cap : Nat) (l : List Nat) : Prop := 0 < l.length ∧ l.length ≤ cap ∧ cap ≤ 9223372036854775807 ∧ ∀ k (hk : k < l.length), w.cell? ⟨b, off + k, none⟩ = some (.float .f64 l[k])
/-- The sum of a list, from left to right. -/
def sumF (s : Option Nat) (l : List Nat) : Option Nat := l.foldl (fun s y => fop .add s (nz y)) s
def sumX : List Nat → Option Nat
  | [] => some 0
  | x :: l => sumF (nz x) l
theorem sumF_snoc (s : Option Nat) (l : List Nat) (y : Nat) : sumF s (l ++ [y]) = fop .add (sumF s l) (nz y) := by simp [sumF]
theorem take_get {l : List Nat} {k : Nat} (hk : k < l.length) : l.take (k + 1) = l.take k ++ [l[k]] := by
  rw [List.take_succ_eq_append_getElem hk]
/-- The first one of the least. -/
def leastF (m : Nat) (l : List Nat) : Nat := l.foldl (fun m y => if plc y < plc m then y else m) m
theorem leastF_snoc (m : Nat) (l : List Nat) (y : Nat) : leastF m (l ++ [y]) = if plc y < plc (leastF m l) then y else leastF m l := by unfold leastF; rw [List.foldl_append]; rfl

theorem real_Sum_nil (p : Option Addr) (cap : Nat) (w : World) : Calls Try.prog 20 #[.slice p 0 cap] w (GF w (some 0)) := by
  go_enter Try.func20, Try.ntmps20
  go_wp2
  go_ret
  exact ⟨0, rfl, Lib.hid ⟨by decide, by decide⟩, Below.refl _ _⟩
set_option maxRecDepth 100000 in
theorem real_Sum_one (b off cap x : Nat) (hx : x < 18446744073709551616) (hc : 1 ≤ cap) (hc2 : cap ≤ 9223372036854775807) (w : World) (h : w.cell? ⟨b, off, none⟩ = some (.float .f64 x)) : Calls Try.prog 20 #[.slice (some ⟨b, off, none⟩) 1 cap] w (GF w (nz x)) := by
  generalize hX : nz x = X
  have E := Lib.hid (show x < 18446744073709551616 ∧ nz x = X from ⟨hx, hX⟩)
  by_cases h1 : cap = 1
  · subst h1
    clear hx hX
    go_enter Try.func20, Try.ntmps20
    go_wp2
    refine wp_loop_rounds 1 ?_
    rw [rounds_succ]
    go_wp2
    go_ret
    exact ⟨x, rfl, E, Below.refl _ _⟩
  · have h2 : (1 : Int) < cap := by omega
    clear hx h1 hc hX
    go_enter Try.func20, Try.ntmps20
    go_wp2
    refine wp_loop_rounds 1 ?_
    rw [rounds_succ]
    go_wp2
    go_ret
    exact ⟨x, rfl, E, Below.refl _ _⟩
set_option maxRecDepth 100000 in
theorem real_Sum_many (b off cap : Nat) (x : Nat) (l : List Nat) (hx : x < 18446744073709551616) (h0 : 0 < l.length) (hc : l.length + 1 ≤ cap) (hc2 : cap ≤ 9223372036854775807) (w : World) (hf : w.cell? ⟨b, off, none⟩ = some (.float .f64 x)) (hl : ∀ k (hk : k < l.length), w.cell? ⟨b, off + 1 + k, none⟩ = some (.float .f64 l[k])) :
    Calls Try.prog 20 #[.slice (some ⟨b, off, none⟩) (l.length + 1 : Nat) cap] w (GF w (sumF (nz x) l)) := by
  have HL := Lib.hid hl
  have h2 : (1 : Int) < cap := by omega
  have h3 : (0 : Int) < l.length := by omega
  clear hl
  go_enter Try.func20, Try.ntmps20
  go_wp2
  go_loopw [3, 15, 5] (fun s i _ wr => ∃ (k : Nat) (y n : Nat), k ≤ l.length ∧ i = .int .i64 k ∧ s = .float .f64 y ∧ Hid (y < 18446744073709551616 ∧ nz y = sumF (nz x) (l.take k)) ∧ wr = w.drewN n) (fun _ i _ _ => l.length - (intOf i).toNat)
  case atStart => exact ⟨0, x, 0, Nat.zero_le _, rfl, rfl, Lib.hid ⟨hx, rfl⟩, rfl⟩
  case round =>
    obtain ⟨k, y, n, hk, rfl, rfl, HY, rfl⟩ := hrel
    by_cases hlt : k < l.length
    · have c0 := HL.out k hlt
      have b0 : (k : Int) < (l.length : Int) := by omega
      have b1 : 0 ≤ (k : Int) := by omega
      obtain ⟨r, n', hr, hl, hz⟩ := run_fop (P := Try.prog) .add (by simp) 35 y l[k] (w.drewN n)
      have E := Lib.hid (show r < 18446744073709551616 ∧ nz r = sumF (nz x) (l.take (k + 1)) from ⟨hl, by rw [hz, HY.out.2, take_get hlt, sumF_snoc]⟩)
      clear hl hz HY
      go_wp2
      go_roundw
      case rel => exact ⟨k + 1, r, _, by omega, by go_num, rfl, E, by first | rfl | exact World.drewN_drewN _ _ _⟩
      case measure => simp [intOf]; omega
    · have hk' : k = l.length := by omega
      have E := Lib.hid (show y < 18446744073709551616 ∧ nz y = sumF (nz x) l from ⟨HY.out.1, by rw [HY.out.2, hk', List.take_length]⟩)
      clear HY hk'
      go_wp2
      go_ret
      exact ⟨y, rfl, E, below_drewN (Below.refl _ _) _⟩
theorem real_Sum {w : World} {b off cap : Nat} {l : List Nat} (h : FlAt w b off cap l) (hw : ∀ x ∈ l, x < 18446744073709551616) : Calls Try.prog 20 #[.slice (some ⟨b, off, none⟩) l.length cap] w (GF w (sumX l)) := by
  obtain ⟨h0, h1, h2, h3⟩ := h
  match l with
  | [] => simp at h0
  | [x] =>
    exact real_Sum_one b off cap x (hw x (by simp)) h1 h2 w (h3 0 (by simp))
  | x :: y :: l =>
    exact real_Sum_many b off cap x (y :: l) (hw x (by simp)) (by simp) h1 h2 w (h3 0 (by simp)) (fun k hk => by have := h3 (k + 1) (by simp at hk ⊢; omega); rw [Nat.add_assoc, Nat.add_comm 1 k]; simpa using this)

theorem sumX_take {l : List Nat} {k : Nat} (hk : k < l.length) (h0 : 0 < k) : sumX (l.take (k + 1)) = fop .add (sumX (l.take k)) (nz l[k]) := by
  match l, k with
  | x :: l, k + 1 =>
    show sumF (nz x) (l.take (k + 1)) = fop .add (sumF (nz x) (l.take k)) _
    have : k < l.length := by simpa using hk
    rw [take_get this, sumF_snoc]; rfl
end Go.Proofs.Ytjddmcecllhlhaa

/-
  Kinds and places of words; the order of all.
-/
import Derived.Test.YtjddmcecllhlhaaFloE
namespace Go.Proofs.Ytjddmcecllhlhaa.Flo
open Ieee

/-- A word, or none at all if it is not a number. -/
def nz (b : Nat) : Option Nat := if isnan b = true then none else some b
theorem nz_some {b : Nat} (h : isnan b = false) : nz b = some b := by simp [nz, h]
theorem nz_none {b : Nat} (h : isnan b = true) : nz b = none := by simp [nz, h]
theorem nz_eq_some {b c : Nat} (h : nz b = some c) : b = c ∧ isnan b = false := by
  unfold nz at h
  cases hb : isnan b
  · rw [hb] at h; simp at h; exact ⟨h, rfl⟩
  · rw [hb] at h; simp at h
theorem nz_eq_none {b : Nat} (h : nz b = none) : isnan b = true := by
  cases hb : isnan b
  · simp [nz, hb] at h
  · rfl

def isinf (b : Nat) : Bool := decide (rg b = 9218868437227405312)
/-- Where a word stands among all. -/
def plc (b : Nat) : Int := if isnan b = true then -9223372036854775808 else if sg b = true then -(rg b : Int) - 1 else rg b
/-- The kind of a word. -/
def knd (b : Nat) : Int := if isnan b = true then 0 else if isinf b = true then (if sg b = true then 1 else 6) else if rg b = 0 then (if sg b = true then 3 else 4) else (if sg b = true then 2 else 5)

theorem rg_lt (b : Nat) : rg b < 9223372036854775808 := Nat.mod_lt _ (by omega)
theorem plc_bd (b : Nat) : -9223372036854775808 ≤ plc b ∧ plc b ≤ 9223372036854775807 := by
  have := rg_lt b
  unfold plc; split
  · omega
  · split <;> omega
theorem six (b : Nat) : (isnan b = true ∧ isinf b = false ∧ 9218868437227405312 < rg b) ∨ (isnan b = false ∧ isinf b = true ∧ rg b = 9218868437227405312) ∨ (isnan b = false ∧ isinf b = false ∧ rg b < 9218868437227405312 ∧ fin b = true) := by
  unfold isnan isinf fin; simp; omega
theorem plc_nan {b : Nat} (h : isnan b = true) : plc b = -9223372036854775808 := by simp [plc, h]
theorem plc_num {b : Nat} (h : isnan b = false) : (sg b = true ∧ plc b = -(rg b : Int) - 1 ∧ rg b ≤ 9218868437227405312) ∨ (sg b = false ∧ plc b = rg b ∧ rg b ≤ 9218868437227405312) := by
  have : rg b ≤ 9218868437227405312 := by unfold isnan at h; simpa using h
  unfold plc
  rw [h]
  cases sg b <;> simp <;> omega
theorem plc_inj {a b : Nat} (la : a < 18446744073709551616) (lb : b < 18446744073709551616) (h : plc a = plc b) : nz a = nz b := by
  cases ha : isnan a <;> cases hb : isnan b
  · have : a = b := by
      refine word_ext la lb ?_ ?_
      · rcases plc_num ha with ⟨s, p, q⟩ | ⟨s, p, q⟩ <;> rcases plc_num hb with ⟨s', p', q'⟩ | ⟨s', p', q'⟩ <;> first | (rw [s, s']; done) | omega
      · unfold mag
        congr 1
        rcases plc_num ha with ⟨s, p, q⟩ | ⟨s, p, q⟩ <;> rcases plc_num hb with ⟨s', p', q'⟩ | ⟨s', p', q'⟩ <;> omega
    rw [this]
  · rcases plc_num ha with ⟨s, p, q⟩ | ⟨s, p, q⟩ <;> have := plc_nan hb <;> omega
  · rcases plc_num hb with ⟨s, p, q⟩ | ⟨s, p, q⟩ <;> have := plc_nan ha <;> omega
  · rw [nz_none ha, nz_none hb]
theorem plc_nz {a b : Nat} (h : nz a = nz b) : plc a = plc b := by
  cases hb : isnan b
  · rw [nz_some hb] at h; rw [(nz_eq_some h).1]
  · rw [nz_none hb] at h; rw [plc_nan hb, plc_nan (nz_eq_none h)]
theorem knd_nz {a b : Nat} (h : nz a = nz b) : knd a = knd b := by
  cases hb : isnan b
  · rw [nz_some hb] at h; rw [(nz_eq_some h).1]
  · rw [nz_none hb] at h; simp [knd, hb, nz_eq_none h]

theorem mag_zero {b : Nat} : mag b = 0 ↔ rg b = 0 := by
  constructor
  · intro h; exact mg_inj (h.trans mg_zero.symm)
  · intro h; unfold mag; rw [h]; exact mg_zero
/-- The order of values, by places. -/
theorem val_lt {a b : Nat} (ha : isnan a = false) (hb : isnan b = false) : val a < val b ↔ (plc a < plc b ∧ ¬ (rg a = 0 ∧ rg b = 0)) := by
  have e1 := mg_le_iff (a := rg a) (b := rg b)
  have e2 := mg_le_iff (a := rg b) (b := rg a)
  have z1 := mag_zero (b := a)
  have z2 := mag_zero (b := b)
  unfold val
  unfold mag at *
  rcases plc_num ha with ⟨s, p, q⟩ | ⟨s, p, q⟩ <;> rcases plc_num hb with ⟨s', p', q'⟩ | ⟨s', p', q'⟩ <;> rw [s, s', p, p'] <;> simp <;> omega
theorem val_eq {a b : Nat} (ha : isnan a = false) (hb : isnan b = false) : val a = val b ↔ (plc a = plc b ∨ (rg a = 0 ∧ rg b = 0)) := by
  have h1 := val_lt ha hb
  have h2 := val_lt hb ha
  have e1 := mg_le_iff (a := rg a) (b := rg b)
  have e2 := mg_le_iff (a := rg b) (b := rg a)
  have z1 := mag_zero (b := a)
  have z2 := mag_zero (b := b)
  unfold val
  unfold mag at *
  rcases plc_num ha with ⟨s, p, q⟩ | ⟨s, p, q⟩ <;> rcases plc_num hb with ⟨s', p', q'⟩ | ⟨s', p', q'⟩ <;> rw [s, s', p, p'] <;> simp <;> omega

/-- The reference's Same and Less. -/
def sameR (a b : Nat) : Bool := knd a == knd b && (knd a != 2 && knd a != 5 || double.order a b == some .eq)
def lessR (a b : Nat) : Bool := decide (knd a < knd b) || (knd a == knd b && (knd a == 2 || knd a == 5) && double.order a b == some .lt)

theorem knd_cases (b : Nat) : (isnan b = true ∧ knd b = 0 ∧ plc b = -9223372036854775808) ∨ (isnan b = false ∧ rg b = 9218868437227405312 ∧ sg b = true ∧ knd b = 1 ∧ plc b = -9218868437227405313) ∨ (isnan b = false ∧ 0 < rg b ∧ rg b < 9218868437227405312 ∧ sg b = true ∧ knd b = 2 ∧ plc b = -(rg b : Int) - 1) ∨
    (isnan b = false ∧ rg b = 0 ∧ sg b = true ∧ knd b = 3 ∧ plc b = -1) ∨ (isnan b = false ∧ rg b = 0 ∧ sg b = false ∧ knd b = 4 ∧ plc b = 0) ∨ (isnan b = false ∧ 0 < rg b ∧ rg b < 9218868437227405312 ∧ sg b = false ∧ knd b = 5 ∧ plc b = rg b) ∨ (isnan b = false ∧ rg b = 9218868437227405312 ∧ sg b = false ∧ knd b = 6 ∧ plc b = 9218868437227405312) := by
  rcases six b with ⟨h1, h2, h3⟩ | ⟨h1, h2, h3⟩ | ⟨h1, h2, h3, h4⟩
  · exact .inl ⟨h1, by simp [knd, h1], plc_nan h1⟩
  · have p := plc_num h1
    cases hs : sg b
    · rw [hs] at p; simp at p
      refine .inr (.inr (.inr (.inr (.inr (.inr ⟨h1, h3, rfl, by simp [knd, h1, h2, hs], by omega⟩)))))
    · rw [hs] at p; simp at p
      refine .inr (.inl ⟨h1, h3, rfl, by simp [knd, h1, h2, hs], by omega⟩)
  · have p := plc_num h1
    by_cases h0 : rg b = 0
    · cases hs : sg b
      · rw [hs] at p; simp at p
        exact .inr (.inr (.inr (.inr (.inl ⟨h1, h0, rfl, by simp [knd, h1, h2, h0, hs], by omega⟩))))
      · rw [hs] at p; simp at p
        exact .inr (.inr (.inr (.inl ⟨h1, h0, rfl, by simp [knd, h1, h2, h0, hs], by omega⟩)))
    · cases hs : sg b
      · rw [hs] at p; simp at p
        exact .inr (.inr (.inr (.inr (.inr (.inl ⟨h1, by omega, h3, rfl, by simp [knd, h1, h2, h0, hs], by omega⟩)))))
      · rw [hs] at p; simp at p
        exact .inr (.inr (.inl ⟨h1, by omega, h3, rfl, by simp [knd, h1, h2, h0, hs], by omega⟩))

theorem sameR_eq (a b : Nat) : sameR a b = decide (plc a = plc b) := by
  unfold sameR
  rcases knd_cases a with ⟨n, k, p⟩ | ⟨n, r, s, k, p⟩ | ⟨n, r0, r, s, k, p⟩ | ⟨n, r, s, k, p⟩ | ⟨n, r, s, k, p⟩ | ⟨n, r0, r, s, k, p⟩ | ⟨n, r, s, k, p⟩ <;>
  rcases knd_cases b with ⟨n', k', p'⟩ | ⟨n', r', s', k', p'⟩ | ⟨n', r0', r', s', k', p'⟩ | ⟨n', r', s', k', p'⟩ | ⟨n', r', s', k', p'⟩ | ⟨n', r0', r', s', k', p'⟩ | ⟨n', r', s', k', p'⟩ <;>
  rw [k, k'] <;> first
    | (rw [p, p']; decide)
    | (rw [decide_eq_false (show ¬ plc a = plc b by omega)]; rfl)
    | (rw [decide_eq_true (show plc a = plc b by omega)]; rfl)
    | (rw [order_val n n']
       have e := val_eq n n'
       by_cases h : val a = val b
       · rw [Int.compare_eq_eq.2 h, decide_eq_true (show plc a = plc b by omega)]; rfl
       · have : (some (compare (val a) (val b)) == some Ordering.eq) = false := by
           rw [beq_eq_false_iff_ne]; intro h'; exact h (Int.compare_eq_eq.1 (Option.some.inj h'))
         rw [this, decide_eq_false (show ¬ plc a = plc b by omega)]; rfl)
theorem lessR_eq (a b : Nat) : lessR a b = decide (plc a < plc b) := by
  unfold lessR
  rcases knd_cases a with ⟨n, k, p⟩ | ⟨n, r, s, k, p⟩ | ⟨n, r0, r, s, k, p⟩ | ⟨n, r, s, k, p⟩ | ⟨n, r, s, k, p⟩ | ⟨n, r0, r, s, k, p⟩ | ⟨n, r, s, k, p⟩ <;>
  rcases knd_cases b with ⟨n', k', p'⟩ | ⟨n', r', s', k', p'⟩ | ⟨n', r0', r', s', k', p'⟩ | ⟨n', r', s', k', p'⟩ | ⟨n', r', s', k', p'⟩ | ⟨n', r0', r', s', k', p'⟩ | ⟨n', r', s', k', p'⟩ <;>
  rw [k, k'] <;> first
    | (rw [p, p']; decide)
    | (rw [decide_eq_false (show ¬ plc a < plc b by omega)]; simp; done)
    | (rw [decide_eq_true (show plc a < plc b by omega)]; simp; done)
    | (rw [decide_eq_false (show ¬ plc a < plc b by omega)]; rfl)
    | (rw [order_val n n']
       have e := val_lt n n'
       by_cases h : val a < val b
       · rw [Int.compare_eq_lt.2 h, decide_eq_true (show plc a < plc b by omega)]; rfl
       · have : (some (compare (val a) (val b)) == some Ordering.lt) = false := by
           rw [beq_eq_false_iff_ne]; intro h'; exact h (Int.compare_eq_lt.1 (Option.some.inj h'))
         rw [this, decide_eq_false (show ¬ plc a < plc b by omega)]; rfl)
end Go.Proofs.Ytjddmcecllhlhaa.Flo

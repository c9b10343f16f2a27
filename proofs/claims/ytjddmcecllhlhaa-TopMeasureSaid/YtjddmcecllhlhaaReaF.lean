/-
  Contracts of the reference's Round and Whole.
-/
import Derived.Test.YtjddmcecllhlhaaReaE
namespace Go.Proofs.Ytjddmcecllhlhaa
open Go.RowKit Flo
attribute [local go_sem] unary_neg_float
theorem big_facts {b : Nat} (hk : knd b = 2 ∨ knd b = 5) (hm : 4503599627370496 * U ≤ mag b) :
    (knd b = 5 ∧ ((FloatKind.f64.format.order b 4841369599423283200 == some Ordering.gt) = true ∨ ((FloatKind.f64.format.order b 4841369599423283200 == some Ordering.gt) = false ∧ (FloatKind.f64.format.order b 4841369599423283200 == some Ordering.eq) = true))) ∨
    (knd b = 2 ∧ (FloatKind.f64.format.order b 4841369599423283200 == some Ordering.gt) = false ∧ (FloatKind.f64.format.order b 4841369599423283200 == some Ordering.eq) = false ∧
      ((FloatKind.f64.format.order b 14064741636278059008 == some Ordering.lt) = true ∨ ((FloatKind.f64.format.order b 14064741636278059008 == some Ordering.lt) = false ∧ (FloatKind.f64.format.order b 14064741636278059008 == some Ordering.eq) = true))) := by
  obtain ⟨hf, hs, hp⟩ := kinds_fin hk
  have n := fin_nan hf
  have g := ov_gt n i_52.1
  have e := ov_eq n i_52.1
  have l := ov_lt n i_m52.1
  have q := ov_eq n i_m52.1
  rw [i_52.2] at g e
  rw [i_m52.2] at l q
  have hm' : 4503599627370496 * (U : Int) ≤ (mag b : Int) := by
    have : ((4503599627370496 * U : Nat) : Int) ≤ (mag b : Int) := Int.ofNat_le.2 hm
    rwa [Int.natCast_mul] at this
  rcases hk with h | h
  · right
    have hv : val b = -(mag b : Int) := by
      rcases val_sign b with ⟨s, v⟩ | ⟨s, v⟩
      · exact v
      · have := hs.2 h; rw [s] at this; cases this
    rw [hv] at g e l q
    have pU : 0 < 4503599627370496 * (U : Int) := by have := U_pos; omega
    refine ⟨h, g.trans (decide_eq_false (by omega)), e.trans (decide_eq_false (by omega)), ?_⟩
    by_cases hh : (mag b : Int) = 4503599627370496 * (U : Int)
    · exact .inr ⟨l.trans (decide_eq_false (by omega)), q.trans (decide_eq_true (by omega))⟩
    · exact .inl (l.trans (decide_eq_true (by omega)))
  · left
    have hv : val b = (mag b : Int) := by
      rcases val_sign b with ⟨s, v⟩ | ⟨s, v⟩
      · have := hs.1 s; omega
      · exact v
    rw [hv] at g e
    refine ⟨h, ?_⟩
    by_cases hh : (mag b : Int) = 4503599627370496 * (U : Int)
    · exact .inr ⟨g.trans (decide_eq_false (by omega)), e.trans (decide_eq_true (by omega))⟩
    · exact .inl (g.trans (decide_eq_true (by omega)))
theorem small_facts {b : Nat} (hf : fin b = true) (hm : mag b < 4503599627370496 * U) :
    (FloatKind.f64.format.order b 4841369599423283200 == some Ordering.gt) = false ∧ (FloatKind.f64.format.order b 4841369599423283200 == some Ordering.eq) = false ∧ (FloatKind.f64.format.order b 14064741636278059008 == some Ordering.lt) = false ∧ (FloatKind.f64.format.order b 14064741636278059008 == some Ordering.eq) = false := by
  have n := fin_nan hf
  have g := ov_gt n i_52.1
  have e := ov_eq n i_52.1
  have l := ov_lt n i_m52.1
  have q := ov_eq n i_m52.1
  rw [i_52.2] at g e
  rw [i_m52.2] at l q
  have hm' : (mag b : Int) < 4503599627370496 * (U : Int) := by
    have : (mag b : Int) < ((4503599627370496 * U : Nat) : Int) := Int.ofNat_lt.2 hm
    rwa [Int.natCast_mul] at this
  have pm : (0 : Int) ≤ mag b := Int.natCast_nonneg _
  rcases val_sign b with ⟨_, v⟩ | ⟨_, v⟩ <;> rw [v] at g e l q <;>
    exact ⟨g.trans (decide_eq_false (by omega)), e.trans (decide_eq_false (by omega)), l.trans (decide_eq_false (by omega)), q.trans (decide_eq_false (by omega))⟩

end Go.Proofs.Ytjddmcecllhlhaa

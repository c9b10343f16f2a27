/-
  Texts parted at colons. Plain.
-/
import Derived.Test.YtjddmcecllhlhaaDoorAmtA
import Derived.Lib.SplitLaws
import Derived.Lib.CountLaws
namespace Go.Proofs.YtjddmcecllhlhaaDoor
open Go.RowKit Go.Lib
theorem ext_list {s t : ByteArray} (h : s.data.toList = t.data.toList) : s = t := by
  cases s; cases t
  simp at h
  simp [h]
theorem byte_miss {x : List UInt8} (hx : ∀ b ∈ x, b ≠ 58) : indexByte x 58 = -1 := by
  induction x with
  | nil => rfl
  | cons b l ih =>
    unfold indexByte
    rw [if_neg (by simpa using hx b (by simp)), ih (fun c hc => hx c (by simp [hc]))]
    rfl
theorem byte_hit {x y : List UInt8} (hx : ∀ b ∈ x, b ≠ 58) : indexByte (x ++ 58 :: y) 58 = x.length := by
  induction x with
  | nil => simp [indexByte]
  | cons b l ih =>
    rw [List.cons_append]
    unfold indexByte
    rw [if_neg (by simpa using hx b (by simp)), ih (fun c hc => hx c (by simp [hc]))]
    rw [if_neg (by simp)]
    simp
def bts (l : List UInt8) : ByteArray := ⟨l.toArray⟩
theorem index_miss {x : List UInt8} (hx : ∀ b ∈ x, b ≠ 58) : indexB (bts x) (bts [58]) = -1 := by
  rw [Go.Lib.one (bts x) (bts [58]) rfl]
  exact byte_miss hx
theorem index_hit {x y : List UInt8} (hx : ∀ b ∈ x, b ≠ 58) : indexB (bts (x ++ 58 :: y)) (bts [58]) = (x.length : Int) := by
  rw [Go.Lib.one (bts (x ++ 58 :: y)) (bts [58]) rfl]
  exact byte_hit hx
theorem cut_head (x y : List UInt8) : (bts (x ++ 58 :: y)).extract 0 (x.length + 0) = bts x := by
  apply ext_list
  simp [bts]
theorem cut_tail (x y : List UInt8) : (bts (x ++ 58 :: y)).extract (x.length + (bts [58]).size) (bts (x ++ 58 :: y)).size = bts y := by
  apply ext_list
  have e : (bts [58]).size = 1 := rfl
  have e2 : (bts (x ++ 58 :: y)).size = x.length + (y.length + 1) := by simp [bts, ByteArray.size]
  rw [e, e2]
  simp [bts]
  rw [List.take_of_length_le (by omega)]
theorem split_one {x : List UInt8} (hx : ∀ b ∈ x, b ≠ 58) : countB (bts x) (bts [58]) = 0 ∧ splitB (bts [58]) 0 0 (bts x) = [bts x] := ⟨countB_miss _ _ (index_miss hx), rfl⟩
theorem split_two {x y : List UInt8} (hx : ∀ b ∈ x, b ≠ 58) (hy : ∀ b ∈ y, b ≠ 58) : countB (bts (x ++ 58 :: y)) (bts [58]) = 1 ∧ splitB (bts [58]) 0 1 (bts (x ++ 58 :: y)) = [bts x, bts y] := by
  constructor
  · rw [countB_hit _ _ _ (by decide) (index_hit hx), cut_tail, (split_one hy).1]
  · rw [splitB_hit _ _ _ _ _ (index_hit hx), cut_head, cut_tail]
    rfl
theorem split_three {x y z : List UInt8} (hx : ∀ b ∈ x, b ≠ 58) (hy : ∀ b ∈ y, b ≠ 58) (hz : ∀ b ∈ z, b ≠ 58) : countB (bts (x ++ 58 :: (y ++ 58 :: z))) (bts [58]) = 2 ∧ splitB (bts [58]) 0 2 (bts (x ++ 58 :: (y ++ 58 :: z))) = [bts x, bts y, bts z] := by
  constructor
  · rw [countB_hit _ _ _ (by decide) (index_hit hx), cut_tail, (split_two hy hz).1]
  · rw [splitB_hit _ _ _ _ _ (index_hit hx), cut_head, cut_tail, (split_two hy hz).2]
theorem dig_ne {b : UInt8} (h : isDig b) : b ≠ 58 := by
  rintro rfl
  unfold isDig at h
  simp at h
end Go.Proofs.YtjddmcecllhlhaaDoor

/-
  The cutter: what is quoted; the next field.
-/
import Derived.Test.YtjddmcecllhlhaaDoorLin
namespace Go.Proofs.YtjddmcecllhlhaaDoor
open Go.RowKit
def bts (l : List UInt8) : ByteArray := ⟨l.toArray⟩
theorem bts_size (l : List UInt8) : (bts l).size = l.length := rfl
theorem bts_list (l : List UInt8) : (bts l).data.toList = l := rfl
theorem quoted_at (c : Nat) (f r : List UInt8) (hf : ∀ b ∈ f, b ≠ 34) (hl : f.length + r.length ≤ 4294967280) (w : World) (h : w.cell? ⟨c, 0, none⟩ = some (.string (bts (f ++ 34 :: r)))) (hz : w.frozen? ⟨c, 0, none⟩ = false) (hc : c < w.heap.size) :
    Calls Tryd.prog 50 #[.pointer (some ⟨c, 0, none⟩)] w fun e w' => e = .returned (.string (bts f)) ∧ w' = w.setCell ⟨c, 0, none⟩ (.string (bts r)) := by
  have hI := Tryd.strings_IndexByte (bts (f ++ 34 :: r)) 34
  rw [show (34 : Int).toNat.toUInt8 = 34 by decide, bts_list, index_first hf] at hI
  have e1 : (bts (f ++ 34 :: r)).extract 0 f.length = bts f := ext_is _ _ _ _ (by rw [bts_list, List.drop_zero, Nat.sub_zero]; exact List.take_left' rfl)
  have e2 : (bts (f ++ 34 :: r)).extract (f.length + 1) (f.length + 1 + r.length) = bts r := ext_is _ _ _ _ (by
    rw [bts_list, show f ++ 34 :: r = (f ++ [34]) ++ r by simp, List.drop_left' (by simp)]
    exact List.take_of_length_le (by omega))
  have hs : (bts (f ++ 34 :: r)).size = f.length + 1 + r.length := by rw [bts_size]; simp; omega
  clear hf
  generalize bts (f ++ 34 :: r) = S at *
  generalize bts f = F at *
  generalize bts r = R at *
  generalize f.length = X at *
  generalize r.length = Y at *
  have h0 : (X : Int) + 1 ≤ (S.size : Int) := by omega
  have h1 : ¬ (X : Int) < 0 := by omega
  have hx : X ≤ 4294967280 := by omega
  go_enter Tryd.func50, Tryd.ntmps50
  go_wp2_with fail
  refine (hI _).mono ?_
  rintro e w1 ⟨rfl, rfl⟩
  go_wp2_with fail
  go_ret
  exact ⟨rfl, rfl⟩
end Go.Proofs.YtjddmcecllhlhaaDoor

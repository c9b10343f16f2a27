/-
  The cutter's next field: a quoted one.
-/
import Derived.Test.YtjddmcecllhlhaaDoorNxt
namespace Go.Proofs.YtjddmcecllhlhaaDoor
open Go.RowKit
theorem cons_emp (y : UInt8) (T : List UInt8) : (bts (y :: T)).toList.isEmpty = false := by
  rw [Lib.toList_data]
  rfl
theorem cons_tail (y : UInt8) (T : List UInt8) : (bts (y :: T)).extract 1 (T.length + 1) = bts T := ext_is _ _ _ _ (by
  rw [bts_list]
  simp)
theorem cons_get (y : UInt8) (T : List UInt8) (h : 0 < (bts (y :: T)).size) : (bts (y :: T))[0]'h = y := rfl
/-- A text that begins with y. -/
structure Beg (S : ByteArray) (y : UInt8) (T : ByteArray) : Prop where
  emp : S.toList.isEmpty = false
  size : S.size = T.size + 1
  get : ∀ h : 0 < S.size, S[0]'h = y
  tail : S.extract 1 (T.size + 1) = T
theorem beg (y : UInt8) (T : List UInt8) : Beg (bts (y :: T)) y (bts T) := ⟨cons_emp y T, rfl, fun _ => rfl, cons_tail y T⟩
theorem size_pos {w : World} {T e : TypeId} {B b : Nat} {bs : List Value} (h : Lib.IsBuilder T e B b bs w) : b < w.heap.size := by
  rcases h with h | h <;> exact h.lt
theorem IsBuilder.below {T e : TypeId} {B b : Nat} {bs : List Value} {w w' : World} (h : Lib.IsBuilder T e B b bs w) (hb : Below w.heap.size w w') : Lib.IsBuilder T e B b bs w' := by
  have one : ∀ p, Lib.BuilderAt T e B b p bs w → Lib.BuilderAt T e B b p bs w' := by
    rintro p ⟨hB, v, hh, ho, hne⟩
    exact ⟨hB, v, (hb.block b (Array.getElem?_eq_some_iff.1 hh).1).trans hh, own_keep ho hb, hne⟩
  exact h.imp (one _) (one _)
set_option maxRecDepth 100000 in
set_option maxHeartbeats 8000000 in
theorem next_quoted (c : Nat) (sep f rest : List UInt8) (hsep : sep = [] ∨ sep = [32]) (hf : ∀ b ∈ f, b ≠ 34) (hr : rest = [] ∨ ∃ r, rest = 32 :: r) (hl : f.length + rest.length ≤ 4294967000) (w : World) (h : w.cell? ⟨c, 0, none⟩ = some (.string (bts (sep ++ 34 :: (f ++ 34 :: rest)))))
    (hz : w.frozen? ⟨c, 0, none⟩ = false) (hc : c < w.heap.size) : Calls Tryd.prog 20 #[.pointer (some ⟨c, 0, none⟩)] w (NextGives w c f true rest) := by
  have hT := TrimLeft_at (sep ++ 34 :: (f ++ 34 :: rest)) (by rcases hsep with rfl | rfl <;> simp <;> omega) w
  rw [trim_sep hsep 34 (by decide) (f ++ 34 :: rest)] at hT
  have hQ := fun w => quoted_at c f rest hf (by omega) w
  have hb := beg 34 (f ++ 34 :: rest)
  have hlr : (bts rest).size = rest.length := rfl
  have hlf : (bts f).size = f.length := rfl
  have hB34 := fun w => blank_at 34 w
  have hB32 := fun w => blank_at 32 w
  unfold blanks at hB34 hB32
  rw [show ((34 : UInt8).toNat : Int) = 34 by decide, show ((34 : UInt8) == 32 || (34 : UInt8) == 9) = false by decide] at hB34
  rw [show ((32 : UInt8).toNat : Int) = 32 by decide, show ((32 : UInt8) == 32 || (32 : UInt8) == 9) = true by decide] at hB32
  have HR : Hid ((rest = [] ∧ (bts rest).toList.isEmpty = true) ∨ ∃ T, Beg (bts rest) 32 T) := Lib.hid (by
    rcases hr with rfl | ⟨r, rfl⟩
    · exact .inl ⟨rfl, by rw [Lib.toList_data]; rfl⟩
    · exact .inr ⟨_, beg 32 r⟩)
  have hbs : (bts (f ++ 34 :: rest)).size = f.length + 1 + rest.length := by rw [bts_size]; simp; omega
  unfold NextGives
  generalize bts (sep ++ 34 :: (f ++ 34 :: rest)) = S0 at *
  generalize bts (34 :: (f ++ 34 :: rest)) = S at *
  obtain ⟨T, hTd⟩ : ∃ T, T = bts (f ++ 34 :: rest) := ⟨_, rfl⟩
  have HT := Lib.hid hTd
  rw [← hTd] at hb hbs hQ
  clear hTd hsep hf hr
  obtain ⟨b1, b2, b3, b4⟩ := hb
  rw [hbs] at b2 b4
  have hz0 : 0 < S.size := by omega
  have b5 := b3 hz0
  have q0 : (0 : Int) < (S.size : Int) := by omega
  have q1 : (1 : Int) ≤ (S.size : Int) := by omega
  clear b3
  go_enter Tryd.func20, Tryd.ntmps20
  go_wp2_with fail
  refine hT.mono ?_
  rintro e w1 ⟨rfl, hb1⟩
  have c1 := (hb1.cell (p := ⟨c, 0, none⟩) hc).trans h
  have z1 := (hb1.frozen (p := ⟨c, 0, none⟩) hc).trans hz
  have hc1 := Nat.lt_of_lt_of_le hc hb1.size
  clear hT h hz
  go_wp2_with fail
  have c2 : ((w1.setCell ⟨c, 0, none⟩ (.string S)).alloc (.cells #[.pointer none, .slice none 0 0] 72)).cell? ⟨c, 0, none⟩ = some (.string S) := by go_simp
  have z2 : ((w1.setCell ⟨c, 0, none⟩ (.string S)).alloc (.cells #[.pointer none, .slice none 0 0] 72)).frozen? ⟨c, 0, none⟩ = false := by go_simp
  have I2 : Hid (Lib.IsBuilder 72 5 w1.heap.size w1.heap.size [] ((w1.setCell ⟨c, 0, none⟩ (.string S)).alloc (.cells #[.pointer none, .slice none 0 0] 72))) := Lib.hid (by
    have := new_builder (w1.setCell ⟨c, 0, none⟩ (.string S)) w1.heap.size (by simp)
    simpa using this)
  have K2 : Cut w.heap.size c w ((w1.setCell ⟨c, 0, none⟩ (.string S)).alloc (.cells #[.pointer none, .slice none 0 0] 72)) := ((Cut.of hb1).setCell _ _).trans (Cut.of ((Below.refl _ _).alloc (by simpa using hb1.size) _))
  have hc2 : c < ((w1.setCell ⟨c, 0, none⟩ (.string S)).alloc (.cells #[.pointer none, .slice none 0 0] 72)).heap.size := by simp; omega
  have hw1 := hb1.size
  clear hb1 c1 z1
  generalize w1.heap.size = b at *
  generalize (w1.setCell ⟨c, 0, none⟩ (.string S)).alloc (.cells #[.pointer none, .slice none 0 0] 72) = w2 at *
  refine wp_loop_rounds 2 ?_
  rw [rounds_succ]
  go_wp2_with fail
  refine (hB34 _).mono ?_
  rintro e w3 ⟨rfl, hb3⟩
  have c3 := (hb3.cell (p := ⟨c, 0, none⟩) hc2).trans c2
  have z3 := (hb3.frozen (p := ⟨c, 0, none⟩) hc2).trans z2
  have hc3 := Nat.lt_of_lt_of_le hc2 hb3.size
  have I3 := Lib.hid (IsBuilder.below I2.out hb3)
  have K3 := K2.trans ((Cut.of hb3).mono K2.size)
  clear c2 z2 hc2 I2 hb3
  go_wp2_with fail
  have hcb : c < b := by omega
  refine (hQ _ (by go_simp) (by go_simp) (by simpa using hc3)).mono ?_
  rintro e w5 ⟨rfl, rfl⟩
  have c5 : ((w3.setCell ⟨c, 0, none⟩ (.string T)).setCell ⟨c, 0, none⟩ (.string (bts rest))).cell? ⟨c, 0, none⟩ = some (.string (bts rest)) := by go_simp
  have z5 : ((w3.setCell ⟨c, 0, none⟩ (.string T)).setCell ⟨c, 0, none⟩ (.string (bts rest))).frozen? ⟨c, 0, none⟩ = false := by go_simp
  have I5 := Lib.hid (IsBuilder.other (j := 0) (u := .string (bts rest)) (IsBuilder.other (j := 0) (u := .string T) I3.out hcb) hcb)
  have K5 := (K3.setCell 0 (.string T)).setCell 0 (.string (bts rest))
  have hb5 : b ≤ ((w3.setCell ⟨c, 0, none⟩ (.string T)).setCell ⟨c, 0, none⟩ (.string (bts rest))).heap.size := Nat.le_of_lt (size_pos I5.out)
  clear c3 z3 hc3 I3 K3
  generalize (w3.setCell ⟨c, 0, none⟩ (.string T)).setCell ⟨c, 0, none⟩ (.string (bts rest)) = w5 at *
  have W5 := Tryd.Builder_WriteString b b [] (bts f) w5 I5.out (by rw [hlf]; simp; omega) hb5
  rw [Lib.strCells_eq, bts_list, List.nil_append] at W5
  clear hQ I5
  go_wp2_with fail
  refine W5.mono ?_
  rintro e w6 ⟨rfl, hAt, hb6⟩
  have c6 := (hb6.cell (p := ⟨c, 0, none⟩) hcb).trans c5
  have z6 := (hb6.frozen (p := ⟨c, 0, none⟩) hcb).trans z5
  have I6 := Lib.hid (show Lib.IsBuilder 72 5 b b (Lib.byteCells f) w6 from .inr hAt)
  have K6 := K5.trans ((Cut.of hb6).mono hw1)
  have hc6 : c < w6.heap.size := by have := size_pos I6.out; omega
  clear W5 hAt hb6 c5 z5 K5 hb5
  go_wp2_with fail
  rw [rounds_succ]
  rcases HR.out with ⟨hre, hem⟩ | ⟨U, u1, u2, u3, u4⟩
  · have hS := Tryd.Builder_String_any b b f w6 I6.out (Nat.le_of_lt (size_pos I6.out))
    clear HR
    subst hre
    generalize hRe : bts [] = R at *
    go_wp2_with fail
    refine hS.mono ?_
    rintro e w7 ⟨rfl, hb7⟩
    go_wp2_with fail
    go_ret2
    exact ⟨rfl, (hb7.cell (p := ⟨c, 0, none⟩) hcb).trans (by rw [hRe]; exact c6), (hb7.frozen (p := ⟨c, 0, none⟩) hcb).trans z6, K6.trans ((Cut.of hb7).mono hw1)⟩
  · have hzr : 0 < (bts rest).size := by omega
    have u5 := u3 hzr
    have q2 : (0 : Int) < ((bts rest).size : Int) := by omega
    clear u3 HR u4
    generalize hRe : bts rest = R at *
    go_wp2_with fail
    refine (hB32 _).mono ?_
    rintro e w7 ⟨rfl, hb7⟩
    have c7 := (hb7.cell (p := ⟨c, 0, none⟩) hc6).trans c6
    have z7 := (hb7.frozen (p := ⟨c, 0, none⟩) hc6).trans z6
    have I7 := Lib.hid (IsBuilder.below I6.out hb7)
    have K7 := K6.trans ((Cut.of hb7).mono K6.size)
    have hc7 := Nat.lt_of_lt_of_le hc6 hb7.size
    clear c6 z6 I6 K6 hc6 hb7
    have hS := Tryd.Builder_String_any b b f w7 I7.out (Nat.le_of_lt (size_pos I7.out))
    go_wp2_with fail
    refine hS.mono ?_
    rintro e w8 ⟨rfl, hb8⟩
    go_wp2_with fail
    go_ret2
    exact ⟨rfl, (hb8.cell (p := ⟨c, 0, none⟩) hcb).trans (by rw [hRe]; exact c7), (hb8.frozen (p := ⟨c, 0, none⟩) hcb).trans z7, K7.trans ((Cut.of hb8).mono hw1)⟩
end Go.Proofs.YtjddmcecllhlhaaDoor

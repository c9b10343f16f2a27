/-
  strings.IndexAny and ContainsAny at the three marks, whatever the text's bytes.
-/
import Derived.Test.YtjddmcecllhlhaaDoorIdx
namespace Go.Proofs.YtjddmcecllhlhaaDoor
open Go.RowKit Go.Lib
theorem get_byte (s : ByteArray) (k : Nat) (h : k < s.size) : s.get! k = s[k]'h := by
  simp [ByteArray.get!, getElem!_pos, h]
  rfl
theorem decode_skip (s : ByteArray) (pos : Nat) (h : pos < s.size) (ha : 128 ≤ (s[pos]'h).toNat) : ∀ k, pos ≤ k → k < pos + (Utf8.decode s pos).2 → ∃ hk : k < s.size, 128 ≤ (s[k]'hk).toNat := by
  have one : ∀ k, pos ≤ k → k < pos + 1 → ∃ hk : k < s.size, 128 ≤ (s[k]'hk).toNat := fun k h1 h2 => by
    obtain rfl : k = pos := by omega
    exact ⟨h, ha⟩
  have cont : ∀ i, (decide (pos + i < s.size) && ((s.get! (pos + i)).toNat / 64 == 2)) = true → ∃ hk : pos + i < s.size, 128 ≤ (s[pos + i]'hk).toNat := fun i hc => by
    simp only [Bool.and_eq_true, decide_eq_true_eq, beq_iff_eq] at hc
    rw [get_byte s _ hc.1] at hc
    exact ⟨hc.1, by omega⟩
  intro k h1 h2
  unfold Utf8.decode at h2
  simp only at h2
  split at h2
  · exact one k h1 h2
  split at h2
  · rename_i c
    simp only [Bool.and_eq_true] at c
    split at h2
    · have c1 := cont 1 (by simpa using c.2)
      rcases (show k = pos ∨ k = pos + 1 by simp only at h2; omega) with rfl | rfl
      · exact ⟨h, ha⟩
      · exact c1
    · exact one k h1 h2
  split at h2
  · rename_i c
    simp only [Bool.and_eq_true] at c
    split at h2
    · have c1 := cont 1 (by simpa using c.1.2)
      have c2 := cont 2 (by simpa using c.2)
      rcases (show k = pos ∨ k = pos + 1 ∨ k = pos + 2 by simp only at h2; omega) with rfl | rfl | rfl
      · exact ⟨h, ha⟩
      · exact c1
      · exact c2
    · exact one k h1 h2
  split at h2
  · rename_i c
    simp only [Bool.and_eq_true] at c
    split at h2
    · have c1 := cont 1 (by simpa using c.1.1.2)
      have c2 := cont 2 (by simpa using c.1.2)
      have c3 := cont 3 (by simpa using c.2)
      rcases (show k = pos ∨ k = pos + 1 ∨ k = pos + 2 ∨ k = pos + 3 by simp only at h2; omega) with rfl | rfl | rfl | rfl
      · exact ⟨h, ha⟩
      · exact c1
      · exact c2
      · exact c3
    · exact one k h1 h2
  · exact one k h1 h2
/-- No mark stands ahead of i. -/
def NoMark (s : ByteArray) (i : Nat) : Prop := ∀ k (h : k < s.size), k < i → s[k]'h ≠ 32 ∧ s[k]'h ≠ 9 ∧ s[k]'h ≠ 35
theorem below_iter {B : Nat} {w w' : World} (h : Below B w w') (k : Nat) (hk : B ≤ k) (s : ByteArray) (p : Nat) : Below B w (w'.iterAt k s p) :=
  ⟨h.os, h.tape, h.output, by simpa [World.iterAt] using h.size, fun i hi => by
    rw [← h.block i hi]
    simp [World.iterAt, Array.getElem?_setIfInBounds]
    omega⟩
set_option maxRecDepth 100000 in
set_option maxHeartbeats 4000000 in
theorem IndexAny_short (s : ByteArray) (h8 : s.size ≤ 8) (w : World) : Calls Tryd.prog 83 #[.string s, .string marks] w fun e w' => (∃ n : Int, e = .returned (.int .i64 n) ∧ (n < 0 → NoMark s s.size)) ∧ Below w.heap.size w w' := by
  have hs8 : ∀ W : World, Calls Tryd.prog 113 #[.int .i64 (s.size : Int)] W fun e w' => e = .returned (.bool false) ∧ W = w' := fun W => by
    have := Any.strings_shouldUseASCIISet (P := Tryd.prog) (ρ := Tryd.lays153_ren) { Tryd.lays153 with } (s.size : Int) W
    rw [decide_eq_false (show ¬ (8 : Int) < (s.size : Int) by omega)] at this
    exact this.mono fun _ _ ⟨h1, h2⟩ => ⟨h1, h2.symm⟩
  have hra : ∀ (x : UInt8) (_ : x.toNat < 128) (W : World), Calls Tryd.prog 82 #[.string ⟨#[32, 9, 35]⟩, .int .i32 x.toNat] W fun e w' => e = .returned (.int .i64 (Lib.indexByte [32, 9, 35] x)) ∧ W = w' := fun x hx W => by
    have := Tryd.strings_IndexRune_ascii ⟨#[32, 9, 35]⟩ (x.toNat : Int) W (by omega) (by omega)
    rw [show ((x.toNat : Int).toNat.toUInt8) = x by simp] at this
    exact this.mono fun _ _ ⟨h1, h2⟩ => ⟨h1, h2.symm⟩
  unfold marks
  go_enter Tryd.func83, Tryd.ntmps83
  go_wp2_with (go_at_call 113; refine (hs8 _).mono ?_; rintro e w' ⟨rfl, rfl⟩)
  go_loopg [9, 10] s.size (fun g _ _ wx => ∃ i : Nat, i + g = s.size ∧ wx.heap[w.heap.size]? = some (.stringIter s i) ∧ Below w.heap.size w wx ∧ Hid (NoMark s i))
  case atStart => exact ⟨0, by omega, World.iter_heap _ _ _, (Below.refl _ w).alloc (Nat.le_refl _) (.stringIter s 0), Lib.hid (fun k h hk => by omega)⟩
  case round =>
    obtain ⟨i, hig, hit, hB, HN⟩ := hrel
    by_cases hi : i < s.size
    · by_cases ha : (s[i]'hi).toNat < 128
      · have hnx := fun ty => run_next_ascii_at (P := Tryd.prog) wr w.heap.size s i ty hit hi ha
        have hiw := iterAt_heap wr w.heap.size s i (i + 1) hit
        have hBw := below_iter hB w.heap.size (Nat.le_refl _) s (i + 1)
        obtain ⟨x, hx⟩ : ∃ x, x = s[i]'hi := ⟨_, rfl⟩
        rw [← hx] at hnx ha
        have HX := Lib.hid hx
        clear hx
        have hr := hra x ha
        by_cases hm : x = 32 ∨ x = 9 ∨ x = 35
        · have hge : (0 : Int) ≤ Lib.indexByte [32, 9, 35] x := by rcases hm with h | h | h <;> rw [h] <;> decide
          generalize Lib.indexByte [32, 9, 35] x = n at *
          clear hm hra
          go_wp2_with (go_at_call 82; refine (hr _).mono ?_; rintro e w' ⟨rfl, rfl⟩)
          go_ret
          exact ⟨⟨_, rfl, fun h => by omega⟩, hBw⟩
        · have hlt : Lib.indexByte [32, 9, 35] x = -1 := by
            simp only [not_or] at hm
            simp [Lib.indexByte, Ne.symm hm.1, Ne.symm hm.2.1, Ne.symm hm.2.2]
          rw [hlt] at hr
          have HN2 : Hid (NoMark s (i + 1)) := Lib.hid fun k h hk => by
            by_cases e : k = i
            · subst e
              rw [← HX.out]
              simp only [not_or] at hm
              exact hm
            · exact HN.out k h (by omega)
          clear hm hra hlt
          go_wp2_with (go_at_call 82; refine (hr _).mono ?_; rintro e w' ⟨rfl, rfl⟩)
          go_roundg (s.size - (i + 1))
          case measure => omega
          case rel => exact ⟨i + 1, by omega, hiw, hBw, HN2⟩
      · have hnx := fun ty => run_next_any_at (P := Tryd.prog) wr w.heap.size s i ty hit hi
        have hdh := decode_high s i hi (by omega)
        have hsk := decode_skip s i hi (by omega)
        have hdl := decode_le s i
        have hiw := iterAt_heap wr w.heap.size s i (i + (Utf8.decode s i).2) hit
        have hBw := below_iter hB w.heap.size (Nat.le_refl _) s (i + (Utf8.decode s i).2)
        have hle : i + (Utf8.decode s i).2 ≤ s.size := by
          obtain ⟨h, _⟩ := hsk (i + (Utf8.decode s i).2 - 1) (by omega) (by omega)
          omega
        have HN2 : Hid (NoMark s (i + (Utf8.decode s i).2)) := Lib.hid fun k h hk => by
          by_cases e : k < i
          · exact HN.out k h e
          · obtain ⟨h', h2⟩ := hsk k (by omega) hk
            refine ⟨?_, ?_, ?_⟩ <;> (intro e; rw [e] at h2; revert h2; decide)
        generalize (Utf8.decode s i).1 = r at *
        generalize (Utf8.decode s i).2 = n at *
        have hr := fun W => IndexRune_high (r : Int) (by omega) (by omega) W
        clear hra hsk
        go_wp2_with (go_at_call 82; refine (hr _).mono ?_; rintro e w2 ⟨⟨v, rfl⟩, hb2⟩)
        · go_ret
          exact ⟨⟨_, rfl, fun h => by omega⟩, hBw.trans (hb2.mono hBw.size)⟩
        · go_roundg (s.size - (i + n))
          case measure => omega
          case rel => exact ⟨i + n, by omega, (hb2.block _ (Array.getElem?_eq_some_iff.1 hiw).1).trans hiw, hBw.trans (hb2.mono hBw.size), HN2⟩
    · obtain rfl : i = s.size := by omega
      have hnx := fun ty => run_next_end_at (P := Tryd.prog) wr w.heap.size s s.size ty hit hi
      go_wp2
      go_ret
      exact ⟨⟨_, rfl, fun _ => HN.out⟩, hB⟩
theorem contains_long {l : List UInt8} (h : Lib.indexAny l [32, 9, 35] < 0) : ∀ b ∈ l, b ≠ 32 ∧ b ≠ 9 ∧ b ≠ 35 := by
  induction l with
  | nil => intro b hb; cases hb
  | cons x l ih =>
    unfold Lib.indexAny at h
    have hge := Lib.indexAny_ge [32, 9, 35] l
    by_cases hx : ([32, 9, 35] : List UInt8).contains x = true
    · rw [if_pos hx] at h
      omega
    · rw [if_neg hx] at h
      have hl : Lib.indexAny l [32, 9, 35] < 0 := by
        split at h
        · rename_i e
          have := eq_of_beq e
          omega
        · omega
      intro b hb
      rcases List.mem_cons.1 hb with rfl | hb
      · simp at hx
        exact ⟨hx.1, hx.2.1, hx.2.2⟩
      · exact ih hl b hb
theorem IndexAny_marks (s : ByteArray) (hs : s.size ≤ 4294967280) (w : World) : Calls Tryd.prog 83 #[.string s, .string marks] w fun e w' => (∃ n : Int, e = .returned (.int .i64 n) ∧ (n < 0 → ∀ b ∈ s.data.toList, b ≠ 32 ∧ b ≠ 9 ∧ b ≠ 35)) ∧ Below w.heap.size w w' := by
  by_cases h8 : s.size ≤ 8
  · refine (IndexAny_short s h8 w).mono ?_
    rintro e w' ⟨⟨n, rfl, h⟩, hb⟩
    refine ⟨⟨n, rfl, fun hn b hb => ?_⟩, hb⟩
    obtain ⟨k, hk, rfl⟩ := List.mem_iff_getElem.1 hb
    exact h hn k (by simpa using hk) (by simpa using hk)
  · have hi : (Tryd.prog.info? 129).map (fun i => (i.zero, i.size)) = some (some (.agg (Array.replicate 256 (.bool false))), 256) := by kernel_rfl
    refine (Tryd.strings_IndexAny_long (zero_of_info hi).1 s marks w (by decide) (by omega) (by omega) (by decide) (fun j b h => ?_)).mono ?_
    · have : j = 0 ∨ j = 1 ∨ j = 2 ∨ 3 ≤ j := by omega
      rcases this with rfl | rfl | rfl | h3
      · cases h; decide
      · cases h; decide
      · cases h; decide
      · rw [show marks.data.toList = [32, 9, 35] from rfl, List.getElem?_eq_none (by simpa using h3)] at h
        cases h
    · rintro e w' ⟨rfl, rfl⟩
      exact ⟨⟨_, rfl, contains_long⟩, ((Below.refl _ w).alloc (Nat.le_refl _) _).alloc (by simp) _⟩
theorem ContainsAny_marks (s : ByteArray) (hs : s.size ≤ 4294967280) (w : World) : Calls Tryd.prog 52 #[.string s, .string marks] w fun e w' => (∃ v : Bool, e = .returned (.bool v) ∧ (v = false → ∀ b ∈ s.data.toList, b ≠ 32 ∧ b ≠ 9 ∧ b ≠ 35)) ∧ Below w.heap.size w w' := by
  have hi := IndexAny_marks s hs w
  unfold marks at *
  go_enter Tryd.func52, Tryd.ntmps52
  go_wp2_with fail
  refine hi.mono ?_
  rintro e w1 ⟨⟨n, rfl, h⟩, hb⟩
  have H := Lib.hid h
  clear h
  by_cases hn : n < 0
  · have hd : decide (0 ≤ n) = false := decide_eq_false (by omega)
    go_wp2_with fail
    go_ret
    exact ⟨⟨_, rfl, fun _ => H.out hn⟩, hb⟩
  · have hd : decide (0 ≤ n) = true := decide_eq_true (by omega)
    go_wp2_with fail
    go_ret
    refine ⟨⟨true, ?_, fun h => by cases h⟩, hb⟩
    first | rfl | (rw [hd]; rfl) | (simp; omega)
end Go.Proofs.YtjddmcecllhlhaaDoor

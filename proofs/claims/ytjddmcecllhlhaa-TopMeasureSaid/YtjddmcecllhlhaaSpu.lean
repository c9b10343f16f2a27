/-
  spans.Total.
-/
import Derived.Test.YtjddmcecllhlhaaSpt
namespace Go.Proofs.Ytjddmcecllhlhaa
open Go.RowKit Swp
theorem ok_y {a : Int} (h : -9223372036854775808 ≤ a) (h' : a ≤ 9223372036854775807) : okI a = true := by unfold okI; simp; omega
theorem lenL_bd : ∀ (R : List Sp) (lo hi : Int), Sep R → (∀ s ∈ R, lo ≤ s.1 ∧ s.2 ≤ hi) → lo ≤ hi → 0 ≤ lenL R ∧ lenL R ≤ hi - lo := by
  intro R
  induction R with
  | nil => intro lo hi _ _ h; unfold lenL; simp; omega
  | cons s R ih =>
    intro lo hi hR hb h
    obtain ⟨t1, t2, t3⟩ := hR.tail
    obtain ⟨b1, b2⟩ := hb s List.mem_cons_self
    obtain ⟨i1, i2⟩ := ih s.2 hi t1 (fun u hu => ⟨by have := t3 u hu; omega, (hb u (List.mem_cons_of_mem _ hu)).2⟩) b2
    rw [lenL_cons]
    omega
theorem sep_take {R : List Sp} (h : Sep R) (k : Nat) : Sep (R.take k) := ⟨h.1.sublist (List.take_sublist k R), fun s hs => h.2 s (List.mem_of_mem_take hs)⟩
theorem lenL_take {R : List Sp} {k : Nat} (h : k < R.length) : lenL (R.take (k + 1)) = lenL (R.take k) + ((spa R k).2 - (spa R k).1) := by
  unfold lenL
  rw [List.take_succ_eq_append_getElem h, List.map_append, List.sum_append, spa_get h]
  simp
theorem set_in {a R : List Sp} {lo hi : Int} (hR : Sep R) (e : ∀ t, inL R t = inL a t) (hin : ∀ t, inL a t = true → lo ≤ t ∧ t < hi) : ∀ s ∈ R, lo ≤ s.1 ∧ s.2 ≤ hi := fun s hs => by
  have hlt := hR.2 s hs
  have h1 := hin s.1 (by rw [← e]; exact inL_mem hs (Int.le_refl _) hlt)
  have h2 := hin (s.2 - 1) (by rw [← e]; exact inL_mem hs (by omega) (by omega))
  omega
set_option maxRecDepth 100000 in
set_option maxHeartbeats 4000000 in
theorem spans_Total {w : World} {pa : Option Addr} {a : List Sp} (capa : Nat) {lo hi : Int} (ha : SpS w pa a) (la : a.length ≤ 100000) (hlo : I64 lo) (hhi : I64 hi) (hle : lo ≤ hi) (hd : hi - lo ≤ 1125899906842624) (hin : ∀ t, inL a t = true → lo ≤ t ∧ t < hi) :
    Calls Try.prog 8 #[.slice pa a.length capa] w fun e w' => ∃ R, e = .returned (.tuple #[.int .i64 (lenL R), .int .i64 0]) ∧ Sep R ∧ (∀ t, inL R t = inL a t) ∧ Below w.heap.size w w' := by
  have hs := spans_Of capa ha la
  have HI := Lib.hid hin
  clear ha hin
  go_enter Try.func8, Try.ntmps8
  go_wp2_with fail
  refine hs.mono ?_
  rintro e w1 ⟨v, R, rfl, h1, h2, h3, h4, hB1⟩
  obtain ⟨p, cap, rfl, hP⟩ := h1.toS
  have HS := Lib.hid h2
  have HE := Lib.hid h3
  have HB := Lib.hid (set_in h2 h3 HI.out)
  clear h1 h2 h3 hs
  have hz1 := hB1.size
  rcases hP with rfl | ⟨bk, off, rfl, hbk, hc⟩
  · go_wp2_with fail
    refine wp_loop_rounds 1 ?_
    rw [rounds_succ]
    go_wp2_with fail
    go_ret2
    exact ⟨[], rfl, HS.out, HE.out, hB1⟩
  have HC := Lib.hid hc
  clear hc
  go_wp2_with fail
  go_loopw [12, 4, 6, 7, 8] (fun i s _ _ _ wr => ∃ k : Nat, k ≤ R.length ∧ i = .int .i64 k ∧ s = .int .i64 (lenL (R.take k)) ∧ Below w1.heap.size w1 wr) (fun i _ _ _ _ _ => R.length - (intOf i).toNat)
  case atStart => exact ⟨0, Nat.zero_le _, rfl, rfl, Below.refl _ _⟩
  case round =>
    obtain ⟨k, hk, rfl, rfl, hB⟩ := hrel
    have hsz := hB.size
    by_cases hlt : k < R.length
    · have b0 : (k : Int) < (R.length : Int) := by omega
      have b1 : 0 ≤ (k : Int) := by omega
      obtain ⟨c0, c1⟩ := HC.out k hlt
      have d0 := (hB.cell (p := ⟨bk, off + k * 2, none⟩) hbk).trans c0
      have d1 := (hB.cell (p := ⟨bk, off + k * 2 + 1, none⟩) hbk).trans c1
      have hbk' := Nat.lt_of_lt_of_le hbk hsz
      have HT := Lib.hid (lenL_take hlt)
      have hm : spa R k ∈ R := by rw [spa_get hlt]; exact List.getElem_mem hlt
      have q1 := HS.out.2 _ hm
      have q2 := HB.out _ hm
      have q3 := lenL_bd (R.take k) lo hi (sep_take HS.out k) (fun s hs => HB.out s (List.mem_of_mem_take hs)) hle
      have q4 := lenL_bd (R.take (k + 1)) lo hi (sep_take HS.out (k + 1)) (fun s hs => HB.out s (List.mem_of_mem_take hs)) hle
      rw [HT.out] at q4
      clear c0 c1 hm
      generalize spa R k = X at *
      obtain ⟨f, t⟩ := X
      simp only at d0 d1 HT q1 q2 q4
      unfold I64 at hlo hhi
      have hl := fun W => span_Len f t (by unfold I64; omega) (by unfold I64; omega) W
      rw [show lenV f t = t - f by unfold lenV; rw [if_pos q1, (valI_y (ok_y (by omega) (by omega))).1], show lenE f t = 0 by unfold lenE; rw [if_pos q1, (valI_y (ok_y (by omega) (by omega))).2]] at hl
      have hA := fun W => num_Add (lenL (R.take k)) (t - f) (by unfold I64; omega) (by unfold I64; omega) W
      rw [(valI_y (a := lenL (R.take k) + (t - f)) (ok_y (by omega) (by omega))).1, (valI_y (a := lenL (R.take k) + (t - f)) (ok_y (by omega) (by omega))).2, ← HT.out] at hA
      clear q1 q2 q3 q4
      generalize lenL (R.take k) = L0 at *
      go_wp2_with (first | (go_at_call 5; refine (hl _).mono ?_; rintro e w2 ⟨rfl, hb⟩; obtain ⟨hc, hf⟩ := bcell hb; have z := hb.size; (try simp at z); have z0 : wr.heap.size < w2.heap.size := (by omega)) | (go_at_call 16; refine (hA _).mono ?_; rintro e w' ⟨rfl, rfl⟩))
      have BX : Below w1.heap.size w1 w2 := (by (focus (repeat' (first | exact Below.refl _ _ | refine Below.alloc ?_ ?_ _ | refine Below.setCell ?_ ?_ _ | refine Below.drew ?_ | refine below_drewN ?_ _ | refine Below.trans ?_ (Below.mono (by assumption) ?_) | refine Below.trans ?_ (Below.mono (BW.below _) ?_) | (simp; done) | (simp; omega) | omega))))
      go_roundw
      case rel => exact ⟨k + 1, by omega, by go_num, rfl, BX⟩
      case measure => simp [intOf]; omega
    · obtain rfl : k = R.length := by omega
      rw [List.take_length]
      go_wp2_with fail
      go_ret2
      exact ⟨R, rfl, HS.out, HE.out, hB1.trans (hB.mono hz1)⟩
end Go.Proofs.Ytjddmcecllhlhaa

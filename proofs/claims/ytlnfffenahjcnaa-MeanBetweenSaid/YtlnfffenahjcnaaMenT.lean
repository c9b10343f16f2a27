/-
  The reference's total, mean and ends.
-/
import Derived.Test.YtlnfffenahjcnaaMenR
import Derived.Test.YtlnfffenahjcnaaMenF
namespace Go.Proofs.Ytlnfffenahjcnaa
open Go.RowKit Go.Shelf Flo
attribute [local go_sem] BW.cell BW.frozen
set_option maxRecDepth 100000 in
theorem ref12_Total {w : World} {p : Option Addr} {l : List Pt} (cap : Nat) (a b : Int) (h : PtS w p l) (hl : l.length ≤ 6000000000000) (hI : ∀ k, k < l.length → PtI (pt l k)) : Calls Try.prog 9 #[.slice p l.length cap, spn a b] w (GFE w (totX l a b) (totE l)) := by
  unfold totX totE
  have BW : Below w.heap.size w (w.alloc (.cells #[.int .i64 a, .int .i64 b] 24)) := (Below.refl _ _).alloc (Nat.le_refl _) _
  have h1 : PtS (w.alloc (.cells #[.int .i64 a, .int .i64 b] 24)) p l := h.below BW
  have y0 : (w.alloc (.cells #[.int .i64 a, .int .i64 b] 24)).cell? ⟨w.heap.size, 0, none⟩ = some (.int .i64 a) := by go_simp
  have y1 : (w.alloc (.cells #[.int .i64 a, .int .i64 b] 24)).cell? ⟨w.heap.size, 1, none⟩ = some (.int .i64 b) := by go_simp
  have yz : w.heap.size < (w.alloc (.cells #[.int .i64 a, .int .i64 b] 24)).heap.size := by simp
  have hR := ref12_Right (w := (w.alloc (.cells #[.int .i64 a, .int .i64 b] 24))) (p := p) (l := l) cap h1 (by omega)
  cases hr : rightL l
  · rw [hr] at hR
    go_enter Try.func9, Try.ntmps9
    go_wp2_with fail
    refine hR.mono ?_
    rintro e w1 ⟨rfl, hb⟩
    go_wp2_with fail
    go_ret2
    exact ⟨0, rfl, Lib.hid ⟨by decide, by decide⟩, BW.trans (hb.mono (by simp))⟩
  · rw [hr] at hR
    have hS := fun w h => ref12_sums (w := w) (p := p) (l := l) cap a b h hl hI
    clear hI hr
    simp only [if_true]
    go_enter Try.func9, Try.ntmps9
    go_wp2_with fail
    refine hR.mono ?_
    rintro e w1 ⟨rfl, hb⟩
    have h2 := h1.below hb
    have s0 := (hb.cell (p := ⟨w.heap.size, 0, none⟩) yz).trans y0
    have s1 := (hb.cell (p := ⟨w.heap.size, 1, none⟩) yz).trans y1
    have Bu := BW.trans (hb.mono (by omega))
    clear hb h1 y0 y1 yz BW
    go_wp2_with fail
    refine (hS _ h2).mono ?_
    rintro e w2 ⟨x, y, rfl, hx, hy, hb2⟩
    go_wp2_with fail
    go_ret2
    exact ⟨x, rfl, hx, Bu.trans (hb2.mono Bu.size)⟩
set_option maxRecDepth 100000 in
theorem ref12_Mean {w : World} {p : Option Addr} {l : List Pt} (cap : Nat) (a b : Int) (h : PtS w p l) (hl : l.length ≤ 6000000000000) (hI : ∀ k, k < l.length → PtI (pt l k)) : Calls Try.prog 11 #[.slice p l.length cap, spn a b] w (GFE w (meanX l a b) (totE l)) := by
  unfold meanX totE
  have BW : Below w.heap.size w (w.alloc (.cells #[.int .i64 a, .int .i64 b] 24)) := (Below.refl _ _).alloc (Nat.le_refl _) _
  have h1 : PtS (w.alloc (.cells #[.int .i64 a, .int .i64 b] 24)) p l := h.below BW
  have y0 : (w.alloc (.cells #[.int .i64 a, .int .i64 b] 24)).cell? ⟨w.heap.size, 0, none⟩ = some (.int .i64 a) := by go_simp
  have y1 : (w.alloc (.cells #[.int .i64 a, .int .i64 b] 24)).cell? ⟨w.heap.size, 1, none⟩ = some (.int .i64 b) := by go_simp
  have yz : w.heap.size < (w.alloc (.cells #[.int .i64 a, .int .i64 b] 24)).heap.size := by simp
  have hR := ref12_Right (w := (w.alloc (.cells #[.int .i64 a, .int .i64 b] 24))) (p := p) (l := l) cap h1 (by omega)
  cases hr : rightL l
  · rw [hr] at hR
    go_enter Try.func11, Try.ntmps11
    go_wp2_with fail
    refine hR.mono ?_
    rintro e w1 ⟨rfl, hb⟩
    go_wp2_with fail
    go_ret2
    exact ⟨0, rfl, Lib.hid ⟨by decide, by decide⟩, BW.trans (hb.mono (by simp))⟩
  · rw [hr] at hR
    have hS := fun w h => ref12_sums (w := w) (p := p) (l := l) cap a b h hl hI
    clear hI hr
    simp only [if_true]
    go_enter Try.func11, Try.ntmps11
    go_wp2_with fail
    refine hR.mono ?_
    rintro e w1 ⟨rfl, hb⟩
    have h2 := h1.below hb
    have s0 := (hb.cell (p := ⟨w.heap.size, 0, none⟩) yz).trans y0
    have s1 := (hb.cell (p := ⟨w.heap.size, 1, none⟩) yz).trans y1
    have Bu := BW.trans (hb.mono (by omega))
    clear hb h1 y0 y1 yz BW
    go_wp2_with fail
    refine (hS _ h2).mono ?_
    rintro e w2 ⟨x, y, rfl, hx, hy, hb2⟩
    obtain ⟨r, nn, hq, lr, zr⟩ := run_fop (P := Try.prog) .quo (by simp) 26 y x w2
    have E := Lib.hid (show r < 18446744073709551616 ∧ nz r = fop .quo (sumX (vls l a b)) (sumX (tms l a b)) from ⟨lr, by rw [zr, hx.out.2, hy.out.2]⟩)
    clear lr zr
    go_wp2_with fail
    go_ret2
    exact ⟨r, rfl, E, Bu.trans (below_drewN (hb2.mono Bu.size) nn)⟩
/-- One step more of the ends. -/
theorem ends_y {l : List Pt} {a b : Int} {k : Nat} (hk : k < l.length) (h : meetP a b (pt l k) = true) (hp : PtI (pt l k)) : endL (cnt l a b (k + 1)) = endF (endL (cnt l a b k)) (pt l k).2.2 := by
  rw [cnt_y hk h, endL_snoc, ct_val h hp]
  rfl
set_option maxRecDepth 100000 in
set_option maxHeartbeats 4000000 in
theorem ref12_Ends {w : World} {p : Option Addr} {l : List Pt} (cap : Nat) (a b : Int) (h : PtS w p l) (hl : l.length ≤ 6000000000000) (hI : ∀ k, k < l.length → PtI (pt l k)) : Calls Try.prog 13 #[.slice p l.length cap, spn a b] w (GEnds w (ends l a b)) := by
  unfold ends
  have BW : Below w.heap.size w (w.alloc (.cells #[.int .i64 a, .int .i64 b] 24)) := (Below.refl _ _).alloc (Nat.le_refl _) _
  have h1 : PtS (w.alloc (.cells #[.int .i64 a, .int .i64 b] 24)) p l := h.below BW
  have y0 : (w.alloc (.cells #[.int .i64 a, .int .i64 b] 24)).cell? ⟨w.heap.size, 0, none⟩ = some (.int .i64 a) := by go_simp
  have y1 : (w.alloc (.cells #[.int .i64 a, .int .i64 b] 24)).cell? ⟨w.heap.size, 1, none⟩ = some (.int .i64 b) := by go_simp
  have yz : w.heap.size < (w.alloc (.cells #[.int .i64 a, .int .i64 b] 24)).heap.size := by simp
  have hR := ref12_Right (w := (w.alloc (.cells #[.int .i64 a, .int .i64 b] 24))) (p := p) (l := l) cap h1 (by omega)
  cases hr : rightL l
  · rw [hr] at hR
    go_enter Try.func13, Try.ntmps13
    go_wp2_with fail
    refine hR.mono ?_
    rintro e w1 ⟨rfl, hb⟩
    go_wp2_with fail
    go_ret3
    exact ⟨rfl, BW.trans (hb.mono (by simp))⟩
  rw [hr] at hR
  have HI := Lib.hid hI
  clear hI hr
  simp only [if_true]
  go_enter Try.func13, Try.ntmps13
  go_wp2_with fail
  refine hR.mono ?_
  rintro e w1 ⟨rfl, hb⟩
  have s0 := (hb.cell (p := ⟨w.heap.size, 0, none⟩) yz).trans y0
  have s1 := (hb.cell (p := ⟨w.heap.size, 1, none⟩) yz).trans y1
  have Bu := BW.trans (hb.mono (by omega))
  have zu : w.heap.size < w1.heap.size := by have := hb.size; omega
  clear hb h1 y0 y1 yz BW
  rcases h with rfl | ⟨bk, off, rfl, hbk, hc⟩
  · go_wp2_with fail
    refine wp_loop_rounds 1 ?_
    rw [rounds_succ]
    go_wp2_with fail
    go_ret3
    exact ⟨rfl, Bu⟩
  have HC := Lib.hid hc
  clear hc
  go_wp2_with fail
  go_loopw [17, 7, 8, 9, 11] (fun i lo hi is _ wr => ∃ k : Nat, k ≤ l.length ∧ i = .int .i64 k ∧ lo = .int .i64 (endL (cnt l a b k)).1 ∧ hi = .int .i64 (endL (cnt l a b k)).2.1 ∧ is = .bool (endL (cnt l a b k)).2.2 ∧ Below w1.heap.size w1 wr) (fun i _ _ _ _ _ => l.length - (intOf i).toNat)
  case atStart => exact ⟨0, Nat.zero_le _, rfl, rfl, rfl, rfl, Below.refl _ _⟩
  case round =>
    obtain ⟨k, hk, rfl, rfl, rfl, rfl, hB⟩ := hrel
    have hsz := hB.size
    by_cases hlt : k < l.length
    · have b0 : (k : Int) < (l.length : Int) := by omega
      have b1 : 0 ≤ (k : Int) := by omega
      obtain ⟨c0, c1, c2⟩ := HC.out k hlt
      have hBw := Bu.trans (hB.mono (by omega))
      have d0 := (hBw.cell (p := ⟨bk, off + k * 3, none⟩) hbk).trans c0
      have d1 := (hBw.cell (p := ⟨bk, off + k * 3 + 1, none⟩) hbk).trans c1
      have d2 := (hBw.cell (p := ⟨bk, off + k * 3 + 2, none⟩) hbk).trans c2
      have t0 := (hB.cell (p := ⟨w.heap.size, 0, none⟩) zu).trans s0
      have t1 := (hB.cell (p := ⟨w.heap.size, 1, none⟩) zu).trans s1
      have hM := fun w => ref10_Meet (pt l k).1 (pt l k).2.1 a b w
      have hpi := HI.out k hlt
      have zs : w.heap.size < wr.heap.size := by omega
      clear c0 c1 c2 hBw
      cases hm : meetP a b (pt l k)
      · have hE := Lib.hid (congrArg endL (cnt_n hlt hm))
        unfold meetP at hm
        rw [hm] at hM
        generalize endL (cnt l a b k) = E at *
        clear hpi hm
        generalize (pt l k).1 = f at *
        generalize (pt l k).2.1 = t at *
        generalize (pt l k).2.2 = v at *
        go_wp2_with fail
        refine (hM _).mono ?_
        rintro e w2 ⟨rfl, hb2⟩
        have B2 : Below wr.heap.size wr w2 := ((Below.refl _ _).alloc (Nat.le_refl _) _).trans (hb2.mono (by simp))
        clear hb2
        go_wp2_with fail
        go_roundw
        case rel => exact ⟨k + 1, by omega, by go_num, by rw [hE.out], by rw [hE.out], by rw [hE.out], hB.trans (B2.mono hsz)⟩
        case measure => simp [intOf]; omega
      · have hE := Lib.hid (ends_y hlt hm hpi)
        unfold meetP at hm
        rw [hm] at hM
        generalize endL (cnt l a b k) = E at *
        clear hpi hm
        generalize (pt l k).1 = f at *
        generalize (pt l k).2.1 = t at *
        generalize (pt l k).2.2 = v at *
        obtain ⟨lo, hi, is⟩ := E
        simp only at *
        go_wp2_with fail
        refine (hM _).mono ?_
        rintro e w2 ⟨rfl, hb2⟩
        have v2 : w2.cell? ⟨wr.heap.size, 2, none⟩ = some (.int .i64 v) := (hb2.cell (p := ⟨wr.heap.size, 2, none⟩) (by simp)).trans (by go_simp)
        have B2 : Below wr.heap.size wr w2 := ((Below.refl _ _).alloc (Nat.le_refl _) _).trans (hb2.mono (by simp))
        have z2 : wr.heap.size < w2.heap.size := Nat.lt_of_lt_of_le (by simp) hb2.size
        clear hb2 hM
        cases is
        · go_wp2_with fail
          go_roundw
          case rel => exact ⟨k + 1, by omega, by go_num, by rw [hE.out]; simp [endF], by rw [hE.out]; simp [endF], by rw [hE.out]; simp [endF], hB.trans (B2.mono hsz)⟩
          case measure => simp [intOf]; omega
        · by_cases q1 : v < lo <;> by_cases q2 : hi < v
          all_goals
            go_wp2_with fail
            go_roundw
            case rel => exact ⟨k + 1, by omega, by go_num, by rw [hE.out]; first | (simp [endF, q1]; done) | (simp [endF]; omega), by rw [hE.out]; first | (simp [endF, q2]; done) | (simp [endF]; omega), by rw [hE.out]; simp [endF], hB.trans (B2.mono hsz)⟩
            case measure => simp [intOf]; omega
    · obtain rfl : k = l.length := by omega
      clear HC HI
      go_wp2_with fail
      go_ret3
      exact ⟨rfl, Bu.trans (hB.mono (by omega))⟩
end Go.Proofs.Ytlnfffenahjcnaa

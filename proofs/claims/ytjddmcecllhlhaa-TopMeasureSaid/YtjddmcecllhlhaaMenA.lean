/-
  Parts in memory; whether they are right.
-/
import Derived.Test.YtjddmcecllhlhaaSpanR
namespace Go.Proofs.Ytjddmcecllhlhaa
open Go.RowKit
attribute [local go_sem] BW.cell BW.frozen
abbrev Pt := Int × Int × Int
def pt (l : List Pt) (k : Nat) : Pt := l[k]?.getD (0, 0, 0)
theorem pt_get {l : List Pt} {k : Nat} (h : k < l.length) : pt l k = l[k] := by unfold pt; rw [List.getElem?_eq_getElem h]; rfl
def PtAt (w : World) (b off : Nat) (l : List Pt) : Prop := ∀ k, k < l.length → w.cell? ⟨b, off + k * 3, none⟩ = some (.int .i64 (pt l k).1) ∧ w.cell? ⟨b, off + k * 3 + 1, none⟩ = some (.int .i64 (pt l k).2.1) ∧ w.cell? ⟨b, off + k * 3 + 2, none⟩ = some (.int .i64 (pt l k).2.2)
/-- A slice of parts. -/
def PtS (w : World) (p : Option Addr) (l : List Pt) : Prop := l = [] ∨ ∃ b off, p = some ⟨b, off, none⟩ ∧ b < w.heap.size ∧ PtAt w b off l
theorem PtAt.below {w w' : World} {b off : Nat} {l : List Pt} {B : Nat} (h : PtAt w b off l) (hb : Below B w w') (hB : b < B) : PtAt w' b off l := fun k hk => by
  obtain ⟨h0, h1, h2⟩ := h k hk
  exact ⟨(hb.cell (p := ⟨b, _, none⟩) hB).trans h0, (hb.cell (p := ⟨b, _, none⟩) hB).trans h1, (hb.cell (p := ⟨b, _, none⟩) hB).trans h2⟩
theorem PtS.below {w w' : World} {p : Option Addr} {l : List Pt} (h : PtS w p l) (hb : Below w.heap.size w w') : PtS w' p l := by
  rcases h with h | ⟨b, off, e, hl, hc⟩
  · exact .inl h
  · exact .inr ⟨b, off, e, Nat.lt_of_lt_of_le hl hb.size, hc.below hb hl⟩
def goodAt (l : List Pt) (k : Nat) : Bool := decide ((pt l k).1 < (pt l k).2.1) && (decide (k = 0) || decide ((pt l (k - 1)).2.1 ≤ (pt l k).1))
def rightL (l : List Pt) : Bool := (List.range l.length).all (goodAt l)
theorem rightL_y {l : List Pt} (h : ∀ k, k < l.length → goodAt l k = true) : rightL l = true := by
  unfold rightL
  rw [List.all_eq_true]
  exact fun k hk => h k (List.mem_range.1 hk)
theorem rightL_n {l : List Pt} {k : Nat} (hk : k < l.length) (h : goodAt l k = false) : rightL l = false := by
  cases e : rightL l with
  | false => rfl
  | true =>
    unfold rightL at e
    rw [List.all_eq_true] at e
    rw [e k (List.mem_range.2 hk)] at h
    cases h
theorem right_at {l : List Pt} (h : rightL l = true) {k : Nat} (hk : k < l.length) : goodAt l k = true := by
  unfold rightL at h
  rw [List.all_eq_true] at h
  exact h k (List.mem_range.2 hk)
set_option maxRecDepth 100000 in
set_option maxHeartbeats 2000000 in
theorem mean_Right {w : World} {p : Option Addr} {l : List Pt} (cap : Nat) (h : PtS w p l) (hl : l.length ≤ 1000000000000000) : Calls Try.prog 24 #[.slice p l.length cap] w fun e w' => e = .returned (.bool (rightL l)) ∧ Below w.heap.size w w' := by
  rcases h with rfl | ⟨b, off, rfl, hb, hc⟩
  · rw [show rightL [] = true from rfl]
    go_enter Try.func24, Try.ntmps24
    go_wp2
    refine wp_loop_rounds 1 ?_
    rw [rounds_succ]
    go_wp2
    go_ret
    exact ⟨rfl, Below.refl _ _⟩
  have HC := Lib.hid hc
  clear hc
  go_enter Try.func24, Try.ntmps24
  go_wp2
  go_loopw [7, 3, 4] (fun i _ _ wr => ∃ k : Nat, k ≤ l.length ∧ i = .int .i64 k ∧ Hid (∀ j, j < k → goodAt l j = true) ∧ Below w.heap.size w wr) (fun i _ _ _ => l.length - (intOf i).toNat)
  case atStart => exact ⟨0, Nat.zero_le _, rfl, Lib.hid (fun j hj => by omega), Below.refl _ _⟩
  case round =>
    obtain ⟨k, hk, rfl, HG, hB⟩ := hrel
    have hsz := hB.size
    by_cases hlt : k < l.length
    · have b0 : (k : Int) < (l.length : Int) := by omega
      have b1 : 0 ≤ (k : Int) := by omega
      obtain ⟨c0, c1, c2⟩ := HC.out k hlt
      have d0 := (hB.cell (p := ⟨b, off + k * 3, none⟩) hb).trans c0
      have d1 := (hB.cell (p := ⟨b, off + k * 3 + 1, none⟩) hb).trans c1
      have d2 := (hB.cell (p := ⟨b, off + k * 3 + 2, none⟩) hb).trans c2
      have hR := fun w => span_Right (pt l k).1 (pt l k).2.1 w
      obtain ⟨f, hf⟩ : ∃ f, f = (pt l k).1 := ⟨_, rfl⟩
      obtain ⟨t, ht⟩ : ∃ t, t = (pt l k).2.1 := ⟨_, rfl⟩
      obtain ⟨v, hv⟩ : ∃ v, v = (pt l k).2.2 := ⟨_, rfl⟩
      rw [← hf] at d0
      rw [← ht] at d1
      rw [← hv] at d2
      rw [← hf, ← ht] at hR
      clear c0 c1 c2
      by_cases c1 : f < t
      · rw [decide_eq_true c1] at hR
        match k, hk, hlt with
        | 0, hk, hlt =>
          have hg : Hid (∀ j, j < 0 + 1 → goodAt l j = true) := Lib.hid fun j hj => by
            obtain rfl : j = 0 := by omega
            unfold goodAt
            rw [← hf, ← ht, decide_eq_true c1]
            rfl
          clear hf ht hv HG
          have d0 : wr.cell? ⟨b, off, none⟩ = some (.int .i64 f) := by simpa using d0
          have d1 : wr.cell? ⟨b, off + 1, none⟩ = some (.int .i64 t) := by simpa using d1
          have d2 : wr.cell? ⟨b, off + 2, none⟩ = some (.int .i64 v) := by simpa using d2
          go_wp2_with fail
          have BX : Below w.heap.size w (wr.alloc (.cells #[.int .i64 f, .int .i64 t, .int .i64 v] 33)) := hB.alloc hB.size _
          have zx : wr.heap.size < (wr.alloc (.cells #[.int .i64 f, .int .i64 t, .int .i64 v] 33)).heap.size := by simp
          have e0 : (wr.alloc (.cells #[.int .i64 f, .int .i64 t, .int .i64 v] 33)).cell? ⟨wr.heap.size, 0, none⟩ = some (.int .i64 f) := by go_simp
          have e1 : (wr.alloc (.cells #[.int .i64 f, .int .i64 t, .int .i64 v] 33)).cell? ⟨wr.heap.size, 1, none⟩ = some (.int .i64 t) := by go_simp
          have e2 : (wr.alloc (.cells #[.int .i64 f, .int .i64 t, .int .i64 v] 33)).cell? ⟨wr.heap.size, 2, none⟩ = some (.int .i64 v) := by go_simp
          clear d0 d1 d2 
          generalize wr.alloc (.cells #[.int .i64 f, .int .i64 t, .int .i64 v] 33) = x at *
          try dsimp only [List.append]
          refine wp_region_bw (by kernel_rfl) (by kernel_rfl) ?_; (repeat (go_big_quiet_step ((go_at_call 11; with_reducible exact bw_call (hR _))))); refine wpQuiet_nil ?_; intro _ hw'; obtain ⟨xq, hw''⟩ := hw'; subst hw''
          have BZ : Below w.heap.size w xq.val := BX.trans (xq.below.mono BX.size)
          go_wp2_with fail
          go_roundw
          case rel => exact ⟨0 + 1, by omega, by go_num, hg, BZ⟩
          case measure => simp [intOf]; omega
        | j + 1, hk, hlt =>
          obtain ⟨p0, p1, p2⟩ := HC.out j (by omega)
          obtain ⟨pt1, hp⟩ : ∃ x, x = (pt l j).2.1 := ⟨_, rfl⟩
          rw [← hp] at p1
          by_cases c2 : pt1 ≤ f
          · have hd : decide (f < pt1) = false := by simp; omega
            have hg : Hid (∀ i, i < j + 1 + 1 → goodAt l i = true) := Lib.hid fun i hi => by
              by_cases e : i = j + 1
              · subst e
                unfold goodAt
                rw [Nat.add_sub_cancel, ← hf, ← ht, ← hp, decide_eq_true c1, decide_eq_true c2]
                simp
              · exact HG.out i (by omega)
            clear hf ht hv hp HG p0 p2
            go_wp2_with fail
            have BX : Below w.heap.size w (wr.alloc (.cells #[.int .i64 f, .int .i64 t, .int .i64 v] 33)) := hB.alloc hB.size _
            have zx : wr.heap.size < (wr.alloc (.cells #[.int .i64 f, .int .i64 t, .int .i64 v] 33)).heap.size := by simp
            have e0 : (wr.alloc (.cells #[.int .i64 f, .int .i64 t, .int .i64 v] 33)).cell? ⟨wr.heap.size, 0, none⟩ = some (.int .i64 f) := by go_simp
            have e1 : (wr.alloc (.cells #[.int .i64 f, .int .i64 t, .int .i64 v] 33)).cell? ⟨wr.heap.size, 1, none⟩ = some (.int .i64 t) := by go_simp
            have e2 : (wr.alloc (.cells #[.int .i64 f, .int .i64 t, .int .i64 v] 33)).cell? ⟨wr.heap.size, 2, none⟩ = some (.int .i64 v) := by go_simp
            have zb : b < (wr.alloc (.cells #[.int .i64 f, .int .i64 t, .int .i64 v] 33)).heap.size := by simp; omega
            have g1 : (wr.alloc (.cells #[.int .i64 f, .int .i64 t, .int .i64 v] 33)).cell? ⟨b, off + j * 3 + 1, none⟩ = some (.int .i64 pt1) := (BX.cell (p := ⟨b, off + j * 3 + 1, none⟩) hb).trans p1
            clear d0 d1 d2 p1
            generalize wr.alloc (.cells #[.int .i64 f, .int .i64 t, .int .i64 v] 33) = x at *
            try dsimp only [List.append]
            refine wp_region_bw (by kernel_rfl) (by kernel_rfl) ?_; (repeat (go_big_quiet_step ((go_at_call 11; with_reducible exact bw_call (hR _))))); refine wpQuiet_nil ?_; intro _ hw'; obtain ⟨xq, hw''⟩ := hw'; subst hw''
            have BZ : Below w.heap.size w xq.val := BX.trans (xq.below.mono BX.size)
            go_wp2_with fail
            go_roundw
            case rel => exact ⟨(j + 1) + 1, by omega, by go_num, hg, BZ⟩
            case measure => simp [intOf]; omega
          · have hd : decide (f < pt1) = true := by simp; omega
            have hn : rightL l = false := rightL_n hlt (by
              unfold goodAt
              rw [Nat.add_sub_cancel, ← hf, ← ht, ← hp, decide_eq_false c2]
              simp)
            clear hf ht hv hp HG p0 p2
            go_wp2_with fail
            have BX : Below w.heap.size w (wr.alloc (.cells #[.int .i64 f, .int .i64 t, .int .i64 v] 33)) := hB.alloc hB.size _
            have zx : wr.heap.size < (wr.alloc (.cells #[.int .i64 f, .int .i64 t, .int .i64 v] 33)).heap.size := by simp
            have e0 : (wr.alloc (.cells #[.int .i64 f, .int .i64 t, .int .i64 v] 33)).cell? ⟨wr.heap.size, 0, none⟩ = some (.int .i64 f) := by go_simp
            have e1 : (wr.alloc (.cells #[.int .i64 f, .int .i64 t, .int .i64 v] 33)).cell? ⟨wr.heap.size, 1, none⟩ = some (.int .i64 t) := by go_simp
            have e2 : (wr.alloc (.cells #[.int .i64 f, .int .i64 t, .int .i64 v] 33)).cell? ⟨wr.heap.size, 2, none⟩ = some (.int .i64 v) := by go_simp
            have zb : b < (wr.alloc (.cells #[.int .i64 f, .int .i64 t, .int .i64 v] 33)).heap.size := by simp; omega
            have g1 : (wr.alloc (.cells #[.int .i64 f, .int .i64 t, .int .i64 v] 33)).cell? ⟨b, off + j * 3 + 1, none⟩ = some (.int .i64 pt1) := (BX.cell (p := ⟨b, off + j * 3 + 1, none⟩) hb).trans p1
            clear d0 d1 d2 p1
            generalize wr.alloc (.cells #[.int .i64 f, .int .i64 t, .int .i64 v] 33) = x at *
            try dsimp only [List.append]
            refine wp_region_bw (by kernel_rfl) (by kernel_rfl) ?_; (repeat (go_big_quiet_step ((go_at_call 11; with_reducible exact bw_call (hR _))))); refine wpQuiet_nil ?_; intro _ hw'; obtain ⟨xq, hw''⟩ := hw'; subst hw''
            have BZ : Below w.heap.size w xq.val := BX.trans (xq.below.mono BX.size)
            go_wp2_with fail
            go_ret
            exact ⟨by rw [hn] <;> rfl, BZ⟩
      · rw [decide_eq_false c1] at hR
        have hn : rightL l = false := rightL_n hlt (by
          unfold goodAt
          rw [← hf, ← ht, decide_eq_false c1]
          rfl)
        clear hf ht hv HG
        go_wp2_with fail
        have BX : Below w.heap.size w (wr.alloc (.cells #[.int .i64 f, .int .i64 t, .int .i64 v] 33)) := hB.alloc hB.size _
        have zx : wr.heap.size < (wr.alloc (.cells #[.int .i64 f, .int .i64 t, .int .i64 v] 33)).heap.size := by simp
        have e0 : (wr.alloc (.cells #[.int .i64 f, .int .i64 t, .int .i64 v] 33)).cell? ⟨wr.heap.size, 0, none⟩ = some (.int .i64 f) := by go_simp
        have e1 : (wr.alloc (.cells #[.int .i64 f, .int .i64 t, .int .i64 v] 33)).cell? ⟨wr.heap.size, 1, none⟩ = some (.int .i64 t) := by go_simp
        have e2 : (wr.alloc (.cells #[.int .i64 f, .int .i64 t, .int .i64 v] 33)).cell? ⟨wr.heap.size, 2, none⟩ = some (.int .i64 v) := by go_simp
        clear d0 d1 d2 
        generalize wr.alloc (.cells #[.int .i64 f, .int .i64 t, .int .i64 v] 33) = x at *
        try dsimp only [List.append]
        refine wp_region_bw (by kernel_rfl) (by kernel_rfl) ?_; (repeat (go_big_quiet_step ((go_at_call 11; with_reducible exact bw_call (hR _))))); refine wpQuiet_nil ?_; intro _ hw'; obtain ⟨xq, hw''⟩ := hw'; subst hw''
        have BZ : Below w.heap.size w xq.val := BX.trans (xq.below.mono BX.size)
        go_wp2_with fail
        go_ret
        exact ⟨by rw [hn] <;> rfl, BZ⟩
    · have hn : rightL l = true := rightL_y (fun j hj => HG.out j (by omega))
      clear HG
      go_wp2_with fail
      go_ret
      exact ⟨by rw [hn] <;> rfl, hB⟩
end Go.Proofs.Ytjddmcecllhlhaa

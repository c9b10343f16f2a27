/-
  spans.edges: the walk, over what the sorting says.
-/
import Derived.Test.YtjddmcecllhlhaaEdg
namespace Go.Proofs.Ytjddmcecllhlhaa
open Go.RowKit Swp
attribute [local go_sem] BW.cell BW.frozen
theorem EdsAt.val {w : World} {B : Nat} {v : Value} {l : List Pt} (h : EdsAt w B v l) : ∃ p cap, v = .slice p l.length cap := by
  obtain ⟨h1, h2⟩ := h
  rcases h2 with ⟨rfl, hn⟩ | ⟨g, cap, cur, rfl, hg, hh, hn, hc, hs, ht⟩
  · exact ⟨none, 0, by rw [hn]⟩
  · exact ⟨_, cap, rfl⟩
/-- What the sorting of edges says. -/
def SortSays (B : Nat) : Prop := ∀ (W : World) (p : Option Addr) (cap : Nat) (l : List Pt), EdsAt W B (.slice p l.length cap) l → l.length ≤ 400000 → Calls Try.prog 27 #[.slice p l.length cap, .func (.func 28) #[] #[]] W fun e w' => e = .returned (.tuple #[]) ∧ ∃ l' : List Pt, l'.Perm l ∧ (l'.Pairwise fun x y => x.1 ≤ y.1) ∧ PtS w' p l' ∧ Below B W w'
/-- What is left of the edges of two lists. -/
def GivesE (w : World) (a b : List Sp) (e : Ending) (w' : World) : Prop := ∃ (p : Option Addr) (cap : Nat) (l : List Pt), e = .returned (.slice p l.length cap) ∧ l.Perm (edg 0 a ++ edg 1 b) ∧ (l.Pairwise fun x y => x.1 ≤ y.1) ∧ PtS w' p l ∧ (∀ ad, p = some ad → w.heap.size ≤ ad.block) ∧ Below w.heap.size w w'
set_option maxRecDepth 100000 in
set_option maxHeartbeats 8000000 in
theorem edges_over {w : World} {S : Nat} {pa pb : Option Addr} {a b : List Sp} {capa capb : Nat} (hso : SortSays w.heap.size) (s0 : w.cell? ⟨S, 0, none⟩ = some (.slice pa a.length capa)) (s1 : w.cell? ⟨S, 1, none⟩ = some (.slice pb b.length capb)) (hS : S < w.heap.size) (ha : SpS w pa a) (hb : SpS w pb b)
    (la : a.length ≤ 100000) (lb : b.length ≤ 100000) : Calls Try.prog 22 #[.slice (some ⟨S, 0, none⟩) 2 2] w (GivesE w a b) := by
  have HA := Lib.hid ha
  have HB := Lib.hid hb
  have HS := Lib.hid hso
  clear ha hb hso
  go_enter Try.func22, Try.ntmps22
  go_wp2_with fail
  refine wp_loop_rounds 3 ?_
  rw [rounds_succ]
  go_wp2_with fail
  go_loopw [17, 3, 7] (fun i v _ wr => ∃ k : Nat, k ≤ a.length ∧ i = .int .i64 k ∧ Hid (EdsAt wr w.heap.size v (edg 0 (a.take k))) ∧ Below w.heap.size w wr) (fun i _ _ _ => a.length - (intOf i).toNat)
  case atStart => exact ⟨0, Nat.zero_le _, rfl, Lib.hid (by exact EdsAt.nil _ _), Below.refl _ _⟩
  case round =>
    obtain ⟨k, hk, rfl, HE, hB⟩ := hrel
    have hsz := hB.size
    by_cases hlt : k < a.length
    · have b0 : (k : Int) < (a.length : Int) := by omega
      have b1 : 0 ≤ (k : Int) := by omega
      obtain ⟨bk, off, hp, hbk, hc⟩ : ∃ x off, pa = some ⟨x, off, none⟩ ∧ x < w.heap.size ∧ SpAt w x off a := by
        rcases HA.out with h | h
        · rw [h] at hlt; cases hlt
        · exact h
      subst hp
      obtain ⟨c0, c1⟩ := hc k hlt
      have d0 := (hB.cell (p := ⟨bk, off + k * 2, none⟩) hbk).trans c0
      have d1 := (hB.cell (p := ⟨bk, off + k * 2 + 1, none⟩) hbk).trans c1
      have HT := Lib.hid (edg_take (k := 0) hlt)
      have HL : Hid ((edg 0 (a.take k)).length ≤ 400000) := Lib.hid (by have := edg_len 0 (a.take k); have := List.length_take_le k a; omega)
      clear c0 c1 hc
      have hbk' := Nat.lt_of_lt_of_le hbk hsz
      generalize spa a k = X at *
      obtain ⟨f, t⟩ := X
      simp only at d0 d1 HT
      have hR := fun w => span_Right f t w
      by_cases cc : f < t
      · rw [decide_eq_true cc] at hR
        rw [if_pos cc] at HT
        go_wp2_with (first | (go_at_call 11; refine (hR _).mono ?_; rintro e w1 ⟨rfl, hb⟩; obtain ⟨hc, hf⟩ := bcell hb; have z := hb.size; (try simp at z); have z0 : wr.heap.size < w1.heap.size := (by omega)) | (at_builtin; refine app_ed rfl _ _ rfl w.heap.size _ (edg 0 (a.take k)) rfl (HE.out.below ?_) _ f t 0 rfl ?_ HL.out ?_ ?_; (focus (repeat' (first | exact Below.refl _ _ | refine Below.alloc ?_ ?_ _ | refine Below.setCell ?_ ?_ _ | refine Below.drew ?_ | refine below_drewN ?_ _ | refine Below.trans ?_ (Below.mono (by assumption) ?_) | refine Below.trans ?_ (Below.mono (BW.below _) ?_) | (simp; done) | (simp; omega) | omega))); (intro j u hj; match j, hj with | 0, hj => (simp at hj; subst hj; simp [Addr.add]) | 1, hj => (simp at hj; subst hj; simp [Addr.add]) | 2, hj => (simp at hj; subst hj; simp [Addr.add]) | 3, hj => (simp at hj; subst hj; simp [Addr.add]) | 4, hj => (simp at hj; subst hj; simp [Addr.add]) | 5, hj => (simp at hj; subst hj; simp [Addr.add])); (simp; omega); intro v3 w3 own3 hb3; have z3 := hb3.size; (try simp at z3)))
        have BX : Below w.heap.size w w3 := (by (focus (repeat' (first | exact Below.refl _ _ | refine Below.alloc ?_ ?_ _ | refine Below.setCell ?_ ?_ _ | refine Below.drew ?_ | refine below_drewN ?_ _ | refine Below.trans ?_ (Below.mono (by assumption) ?_) | refine Below.trans ?_ (Below.mono (BW.below _) ?_) | (simp; done) | (simp; omega) | omega))))
        have OW := Lib.hid own3
        clear own3
        go_roundw
        case rel => exact ⟨k + 1, by omega, by go_num, Lib.hid (by rw [HT.out]; exact OW.out), BX⟩
        case measure => simp [intOf]; omega
      · rw [decide_eq_false cc] at hR
        rw [if_neg cc, List.append_nil] at HT
        go_wp2_with (go_at_call 11; refine (hR _).mono ?_; rintro e w1 ⟨rfl, hb⟩; obtain ⟨hc, hf⟩ := bcell hb; have z := hb.size; (try simp at z); have z0 : wr.heap.size < w1.heap.size := (by omega))
        have BX : Below w.heap.size w w1 := (by (focus (repeat' (first | exact Below.refl _ _ | refine Below.alloc ?_ ?_ _ | refine Below.setCell ?_ ?_ _ | refine Below.drew ?_ | refine below_drewN ?_ _ | refine Below.trans ?_ (Below.mono (by assumption) ?_) | refine Below.trans ?_ (Below.mono (BW.below _) ?_) | (simp; done) | (simp; omega) | omega))))
        have OW := Lib.hid (HE.out.below (((Below.refl _ wr).alloc (Nat.le_refl _) _).trans (hb.mono (by simp))))
        go_roundw
        case rel => exact ⟨k + 1, by omega, by go_num, Lib.hid (by rw [HT.out]; exact OW.out), BX⟩
        case measure => simp [intOf]; omega
    · obtain rfl : k = a.length := by omega
      rw [List.take_length] at HE
      have s1' := (hB.cell (p := ⟨S, 1, none⟩) hS).trans s1
      clear s0 s1 HA
      go_wp2_with fail
      rw [rounds_succ]
      go_wp2_with fail
      have HE0 := HE
      clear HE
      go_loopw [17, 3, 7] (fun i v _ wr => ∃ k : Nat, k ≤ b.length ∧ i = .int .i64 k ∧ Hid (EdsAt wr w.heap.size v (edg 0 a ++ edg 1 (b.take k))) ∧ Below w.heap.size w wr) (fun i _ _ _ => b.length - (intOf i).toNat)
      case atStart => exact ⟨0, Nat.zero_le _, rfl, Lib.hid (by rw [List.take_zero, show edg 1 [] = [] from rfl, List.append_nil]; exact HE0.out), hB⟩
      case round =>
        obtain ⟨k, hk, rfl, HE, hB⟩ := hrel
        have hsz := hB.size
        by_cases hlt : k < b.length
        · have b0 : (k : Int) < (b.length : Int) := by omega
          have b1 : 0 ≤ (k : Int) := by omega
          obtain ⟨bk, off, hp, hbk, hc⟩ : ∃ x off, pb = some ⟨x, off, none⟩ ∧ x < w.heap.size ∧ SpAt w x off b := by
            rcases HB.out with h | h
            · rw [h] at hlt; cases hlt
            · exact h
          subst hp
          obtain ⟨c0, c1⟩ := hc k hlt
          have d0 := (hB.cell (p := ⟨bk, off + k * 2, none⟩) hbk).trans c0
          have d1 := (hB.cell (p := ⟨bk, off + k * 2 + 1, none⟩) hbk).trans c1
          have HT := Lib.hid (edg_take (k := 1) hlt)
          have HL : Hid ((edg 0 a ++ edg 1 (b.take k)).length ≤ 400000) := Lib.hid (by have := edg_len 1 (b.take k); have := List.length_take_le k b; have := edg_len 0 a; simp only [List.length_append]; omega)
          clear c0 c1 hc
          have hbk' := Nat.lt_of_lt_of_le hbk hsz
          generalize spa b k = X at *
          obtain ⟨f, t⟩ := X
          simp only at d0 d1 HT
          have hR := fun w => span_Right f t w
          by_cases cc : f < t
          · rw [decide_eq_true cc] at hR
            rw [if_pos cc] at HT
            go_wp2_with (first | (go_at_call 11; refine (hR _).mono ?_; rintro e w1 ⟨rfl, hb⟩; obtain ⟨hc, hf⟩ := bcell hb; have z := hb.size; (try simp at z); have z0 : wr.heap.size < w1.heap.size := (by omega)) | (at_builtin; refine app_ed rfl _ _ rfl w.heap.size _ (edg 0 a ++ edg 1 (b.take k)) rfl (HE.out.below ?_) _ f t 1 rfl ?_ HL.out ?_ ?_; (focus (repeat' (first | exact Below.refl _ _ | refine Below.alloc ?_ ?_ _ | refine Below.setCell ?_ ?_ _ | refine Below.drew ?_ | refine below_drewN ?_ _ | refine Below.trans ?_ (Below.mono (by assumption) ?_) | refine Below.trans ?_ (Below.mono (BW.below _) ?_) | (simp; done) | (simp; omega) | omega))); (intro j u hj; match j, hj with | 0, hj => (simp at hj; subst hj; simp [Addr.add]) | 1, hj => (simp at hj; subst hj; simp [Addr.add]) | 2, hj => (simp at hj; subst hj; simp [Addr.add]) | 3, hj => (simp at hj; subst hj; simp [Addr.add]) | 4, hj => (simp at hj; subst hj; simp [Addr.add]) | 5, hj => (simp at hj; subst hj; simp [Addr.add])); (simp; omega); intro v3 w3 own3 hb3; have z3 := hb3.size; (try simp at z3)))
            have BX : Below w.heap.size w w3 := (by (focus (repeat' (first | exact Below.refl _ _ | refine Below.alloc ?_ ?_ _ | refine Below.setCell ?_ ?_ _ | refine Below.drew ?_ | refine below_drewN ?_ _ | refine Below.trans ?_ (Below.mono (by assumption) ?_) | refine Below.trans ?_ (Below.mono (BW.below _) ?_) | (simp; done) | (simp; omega) | omega))))
            have OW := Lib.hid own3
            clear own3
            go_roundw
            case rel => exact ⟨k + 1, by omega, by go_num, Lib.hid (by rw [HT.out, ← List.append_assoc]; exact OW.out), BX⟩
            case measure => simp [intOf]; omega
          · rw [decide_eq_false cc] at hR
            rw [if_neg cc, List.append_nil] at HT
            go_wp2_with (go_at_call 11; refine (hR _).mono ?_; rintro e w1 ⟨rfl, hb⟩; obtain ⟨hc, hf⟩ := bcell hb; have z := hb.size; (try simp at z); have z0 : wr.heap.size < w1.heap.size := (by omega))
            have BX : Below w.heap.size w w1 := (by (focus (repeat' (first | exact Below.refl _ _ | refine Below.alloc ?_ ?_ _ | refine Below.setCell ?_ ?_ _ | refine Below.drew ?_ | refine below_drewN ?_ _ | refine Below.trans ?_ (Below.mono (by assumption) ?_) | refine Below.trans ?_ (Below.mono (BW.below _) ?_) | (simp; done) | (simp; omega) | omega))))
            have OW := Lib.hid (HE.out.below (((Below.refl _ wr).alloc (Nat.le_refl _) _).trans (hb.mono (by simp))))
            go_roundw
            case rel => exact ⟨k + 1, by omega, by go_num, Lib.hid (by rw [HT.out]; exact OW.out), BX⟩
            case measure => simp [intOf]; omega
        · obtain rfl : k = b.length := by omega
          rw [List.take_length] at HE
          go_wp2_with fail
          rw [rounds_succ]
          go_wp2_with fail
          obtain ⟨p, cp, rfl⟩ := HE.out.val
          have HL : (edg 0 a ++ edg 1 b).length ≤ 400000 := by have := edg_len 0 a; have := edg_len 1 b; simp only [List.length_append]; omega
          have hC := HS.out _ p cp _ HE.out HL
          have hpb : ∀ ad, p = some ad → w.heap.size ≤ ad.block := fun ad h => by subst h; exact HE.out.lt _ rfl
          clear HE HS HE0
          generalize hLe : edg 0 a ++ edg 1 b = L at *
          go_wp2_with fail
          refine hC.mono ?_
          rintro e w9 ⟨rfl, l', h1, h2, h3, h4⟩
          have hl := h1.length_eq
          go_wp2_with fail
          go_ret
          exact ⟨p, cp, l', by rw [hl]; rfl, by rw [hLe]; exact h1, h2, h3, hpb, hB.trans h4⟩
end Go.Proofs.Ytjddmcecllhlhaa

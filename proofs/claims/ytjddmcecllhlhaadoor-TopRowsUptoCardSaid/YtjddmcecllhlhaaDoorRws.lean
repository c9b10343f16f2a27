/-
  TopRows: rows of fields, written line by line, are read as they were.
-/
import Derived.Test.YtjddmcecllhlhaaDoorFof
import Derived.Test.YtjddmcecllhlhaaDoorRol
import Derived.Test.YtjddmcecllhlhaaDoorLof
namespace Go.Proofs.YtjddmcecllhlhaaDoor
open Go.RowKit
attribute [local go_sem] BW.cell BW.frozen
/-- A row of fields, and where it lies. -/
structure Rw where
  p : Option Addr
  cap : Nat
  l : List ByteArray
def RowsAt (w : World) (b off : Nat) (R : List Rw) : Prop := ∀ (k : Nat) r, R[k]? = some r → w.cell? ⟨b, off + k, none⟩ = some (.slice r.p r.l.length r.cap) ∧ StrS w r.p r.l
def RowsS (w : World) (p : Option Addr) (R : List Rw) : Prop := R = [] ∨ ∃ b off, p = some ⟨b, off, none⟩ ∧ b < w.heap.size ∧ RowsAt w b off R
theorem RowsS.at {w w' : World} {p : Option Addr} {R : List Rw} (h : RowsS w p R) (hb : Below w.heap.size w w') {k : Nat} {r : Rw} (hk : R[k]? = some r) : ∃ b off, p = some ⟨b, off, none⟩ ∧ w'.cell? ⟨b, off + k, none⟩ = some (.slice r.p r.l.length r.cap) ∧ StrS w' r.p r.l := by
  rcases h with rfl | ⟨b, off, hp, hlt, hA⟩
  · cases hk
  · obtain ⟨h1, h2⟩ := hA k r hk
    exact ⟨b, off, hp, (hb.cell (p := ⟨b, off + k, none⟩) hlt).trans h1, h2.below hb⟩
theorem StrRow.toS {w : World} {B : Nat} {v : Value} {l : List ByteArray} (h : StrRow w B v l) : ∃ p cap, v = .slice p l.length cap ∧ StrS w p l := by
  obtain ⟨h1, h2⟩ := h
  rcases h2 with ⟨rfl, hn⟩ | ⟨g, cap, cur, rfl, hg, hh, hn, hc, hs, ht⟩
  · exact ⟨none, 0, by rw [hn], .inl (List.eq_nil_of_length_eq_zero hn)⟩
  · have hown : w.ownsRow B 9 1 (.slice (some ⟨g, 0, none⟩) l.length cap) l.length (l.map Value.string) := ⟨h1, .inr ⟨g, cap, cur, rfl, hg, hh, hn, hc, hs, ht⟩⟩
    refine ⟨_, cap, rfl, .inr ⟨g, 0, rfl, (Array.getElem?_eq_some_iff.1 hh).1, fun k x hk => ?_⟩⟩
    have hlt : k < l.length := (List.getElem?_eq_some_iff.1 hk).1
    rw [Nat.zero_add]
    refine (hown.cellAt _ (by omega)).trans ?_
    rw [List.getElem?_map, hk]
    rfl
theorem StrRow.below {w w' : World} {B : Nat} {v : Value} {l : List ByteArray} (h : StrRow w B v l) (hb : Below w.heap.size w w') : StrRow w' B v l := own_keep h hb
theorem StrS.at {w : World} {p : Option Addr} {l : List ByteArray} (h : StrS w p l) {k : Nat} {x : ByteArray} (hk : l[k]? = some x) : ∃ b off, p = some ⟨b, off, none⟩ ∧ b < w.heap.size ∧ w.cell? ⟨b, off + k, none⟩ = some (.string x) := by
  rcases h with rfl | ⟨b, off, hp, hlt, hA⟩
  · cases hk
  · exact ⟨b, off, hp, hlt, hA k x hk⟩
theorem ab_written : Wrt [⟨#[97]⟩, ⟨#[98]⟩] ⟨#[97, 32, 98]⟩ := by
  refine ⟨by decide, [[97], [98]], rfl, ?_, by decide⟩
  intro k f t hf ht
  match k, hf, ht with
  | 0, hf, ht =>
    cases hf; cases ht
    exact ⟨by decide, .inr ⟨rfl, by decide, by decide⟩⟩
  | 1, hf, ht =>
    cases hf; cases ht
    exact ⟨by decide, .inr ⟨rfl, by decide, by decide⟩⟩
  | k + 2, hf, ht => cases hf
/-- What stands for a row when it is written. -/
def Wr (r : Rw) (s : ByteArray) : Prop := Wrt r.l s ∧ s.size ≤ 2000 ∧ ∀ b ∈ s.data.toList, b ≠ 10
set_option maxRecDepth 100000 in
set_option maxHeartbeats 8000000 in
theorem TopRows_walk {w : World} {p : Option Addr} {R : List Rw} (cap : Nat) (h : RowsS w p R) (hf : ∀ r ∈ R, ∀ f ∈ r.l, f.size ≤ 1048576) : Calls Tryd.prog 3 #[.slice p R.length cap] w fun e w' => e = .returned (.bool true) ∧ Below w.heap.size w w' := by
  have HR := Lib.hid h
  have HF := Lib.hid hf
  clear h hf
  have hA := fields_Of [⟨#[97]⟩, ⟨#[98]⟩] ⟨#[97, 32, 98]⟩ ab_written (by decide) w
  go_enter Tryd.func3, Tryd.ntmps3
  go_wp2_with fail
  refine hA.mono ?_
  rintro e w1 ⟨v, rfl, hv, hb1⟩
  obtain ⟨pv, cv, rfl, -⟩ := hv.toS
  rw [show ([⟨#[97]⟩, ⟨#[98]⟩] : List ByteArray).length = 2 from rfl]
  clear hA hv
  by_cases h40 : 40 < R.length
  · have h40' : (40 : Int) < (R.length : Int) := by omega
    go_wp2_with fail
    go_ret
    exact ⟨rfl, hb1⟩
  have h40' : ¬ (40 : Int) < (R.length : Int) := by omega
  go_wp2_with fail
  go_loopw [33, 5, 7, 8, 9, 10] (fun i l _ _ _ _ wr => ∃ (k : Nat) (ss : List ByteArray), i = .int .i64 k ∧ k ≤ R.length ∧ ss.length = k ∧ Hid (StrRow wr w.heap.size l ss) ∧ Hid (∀ (j : Nat) r s, R[j]? = some r → ss[j]? = some s → Wr r s) ∧ Below w.heap.size w wr) (fun i _ _ _ _ _ _ => R.length - (intOf i).toNat)
  case atStart => exact ⟨0, [], rfl, Nat.zero_le _, rfl, Lib.hid (World.ownsRow_nil _ _ _ _), Lib.hid (fun j r s _ h => by simp at h), hb1⟩
  case round =>
    clear hb1
    obtain ⟨k, ss, rfl, hk, hsl, HS, HW, hB⟩ := hrel
    obtain ⟨pl, cl, hl9, -⟩ := StrRow.toS' HS.out
    rw [hsl] at hl9
    subst hl9
    have HSL := Lib.hid hsl
    clear hsl
    have hsz := hB.size
    by_cases hlt : k < R.length
    · have b0 : (k : Int) < (R.length : Int) := by omega
      have b1 : 0 ≤ (k : Int) := by omega
      obtain ⟨r, hrk⟩ : ∃ r, R[k]? = some r := ⟨R[k], List.getElem?_eq_getElem hlt⟩
      obtain ⟨bk, off, hp, d0, hs0⟩ := HR.out.at hB hrk
      subst hp
      have hJ := fields_Join r.cap hs0 (HF.out r (List.mem_of_getElem? hrk))
      clear hs0
      have HRK := Lib.hid hrk
      clear hrk
      go_wp2_with fail
      refine hJ.mono ?_
      rintro e w2 ⟨s, E, rfl, hE, hb2⟩
      have B2 := hB.trans (hb2.mono hsz)
      have HS2 := Lib.hid (StrRow.below HS.out hb2)
      clear hJ d0 HS
      rcases hE with hE | ⟨rfl, hwr⟩
      · have hE' : (E != 0) = true := by simpa using hE
        go_wp2_with fail
        go_ret
        exact ⟨rfl, B2⟩
      have HWR := Lib.hid hwr
      clear hwr
      by_cases h2k : 2000 < s.size
      · have h2k' : (2000 : Int) < (s.size : Int) := by omega
        go_wp2_with fail
        go_ret
        exact ⟨rfl, B2⟩
      have h2k' : ¬ (2000 : Int) < (s.size : Int) := by omega
      go_wp2_with fail
      go_loopw [10] (fun i wr => ∃ j : Nat, i = .int .i64 j ∧ j ≤ s.size ∧ Hid (∀ (m : Nat) b, m < j → s.data.toList[m]? = some b → b ≠ 10) ∧ wr = w2) (fun i _ => s.size - (intOf i).toNat)
      case atStart => exact ⟨0, rfl, Nat.zero_le _, Lib.hid (fun m b h => absurd h (Nat.not_lt_zero _)), rfl⟩
      case round =>
        obtain ⟨j, rfl, hj, HM, rfl⟩ := hrel
        by_cases hjl : j < s.size
        · have c0 : (j : Int) < (s.size : Int) := by omega
          have c1 : 0 ≤ (j : Int) := by omega
          have hx : (s[j]'hjl) = s.data.toList[j]'hjl := rfl
          by_cases h10 : (s[j]'hjl) = 10
          · have g0 : (((s[j]'hjl).toNat : Int) == 10) = true := by rw [h10]; rfl
            clear HM HS2 HW hx h10
            go_wp2_with fail
            go_ret
            exact ⟨rfl, B2⟩
          · have g0 : (((s[j]'hjl).toNat : Int) == 10) = false := byte_eql h10 10 rfl
            have HM' : Hid (∀ (m : Nat) b, m < j + 1 → s.data.toList[m]? = some b → b ≠ 10) := Lib.hid (by
              intro m b hm hb
              by_cases hmj : m < j
              · exact HM.out m b hmj hb
              · obtain rfl : m = j := by omega
                rw [List.getElem?_eq_getElem hjl, ← hx] at hb
                cases hb
                exact h10)
            clear HM hx h10
            go_wp2_with fail
            go_roundw
            case rel => exact ⟨j + 1, by go_num, by omega, HM', trivial⟩
            case measure => (try go_num); simp only [intOf]; omega
        · have c0 : ¬ (j : Int) < (s.size : Int) := by omega
          obtain rfl : j = s.size := by omega
          have HWR' : Hid (Wr r s) := Lib.hid ⟨HWR.out, by omega, fun b hb => by
            obtain ⟨m, hm⟩ := List.mem_iff_getElem?.1 hb
            exact HM.out m b (List.getElem?_eq_some_iff.1 hm).1 hm⟩
          have z2 := B2.size
          clear HM HWR
          go_wp2_with (at_builtin; go_loud (refine app_str rfl _ _ rfl w.heap.size _ ss rfl (own_keep HS2.out ?_) _ s rfl ?_ ?_ ?_ ?_; (focus (repeat' (first | exact Below.refl _ _ | refine Below.alloc ?_ ?_ _ | refine Below.setCell ?_ ?_ _ | refine Below.drew ?_ | refine below_drewN ?_ _ | refine Below.trans ?_ (Below.mono (by assumption) ?_) | refine Below.trans ?_ (Below.mono (BW.below _) ?_) | (simp; done) | (simp; omega) | omega))); (simp [Addr.add]); (rw [HSL.out]; omega); (simp; omega); intro v9 w9 own9 hb9; have z9 := hb9.size; (try simp at z9); obtain ⟨p9, c9, hv9, -⟩ := StrRow.toS' own9; have hl9 : (ss ++ [s]).length = k + 1 := (by rw [List.length_append, HSL.out]; rfl); rw [hl9] at hv9; subst hv9; have HO9 := Lib.hid own9; clear own9 hl9))
          go_roundw
          case rel => exact ⟨k + 1, ss ++ [s], by go_num, by omega, by simp [HSL.out], HO9, Lib.hid (fun j r' s' h1 h2 => by
              by_cases hj : j < ss.length
              · rw [List.getElem?_append_left hj] at h2
                exact HW.out j r' s' h1 h2
              · rw [List.getElem?_append_right (by omega)] at h2
                have hj0 : j = k := by
                  rcases Nat.lt_or_ge j (k + 1) with h | h
                  · have := HSL.out; omega
                  · rw [List.getElem?_eq_none (by have := HSL.out; simp; omega)] at h2; cases h2
                subst hj0
                rw [HSL.out, Nat.sub_self] at h2
                rw [HRK.out] at h1
                cases h1; cases h2
                exact HWR'.out), (B2.trans ((Below.refl _ _).alloc z2 _)).trans hb9⟩
          case measure => simp only [intOf]; omega
    · have b0 : ¬ (k : Int) < (R.length : Int) := by omega
      obtain rfl : k = R.length := by omega
      have hWall : ∀ x ∈ ss, x.size ≤ 2000 ∧ ∀ b ∈ x.data.toList, b ≠ 10 := by
        intro x hx
        obtain ⟨j, hj⟩ := List.mem_iff_getElem?.1 hx
        have hjl := (List.getElem?_eq_some_iff.1 hj).1
        have := HW.out j R[j] x (List.getElem?_eq_getElem (by have := HSL.out; omega)) hj
        exact this.2
      obtain ⟨p9, c9, e9, hS9⟩ := StrRow.toS HS.out
      have hJ := lines_Join c9 hS9 (by have := HSL.out; omega) (fun f hf => (hWall f hf).1)
      rw [← e9] at hJ
      have hO := lines_Of ss (by have := HSL.out; omega) hWall
      clear e9 hS9 hWall HS
      go_wp2_with fail
      refine hJ.mono ?_
      rintro e w2 ⟨rfl, hb2⟩
      have B2 := hB.trans (hb2.mono hsz)
      clear hJ hB hb2
      go_wp2_with fail
      refine (hO _).mono ?_
      rintro e w3 ⟨v3, rfl, hown, hb3⟩
      have hown : StrRow w3 w2.heap.size v3 ss := hown
      have B3 := B2.trans (hb3.mono B2.size)
      obtain ⟨pb, cb, hl9, hS3⟩ := hown.toS
      rw [HSL.out] at hl9
      subst hl9
      have HS3 := Lib.hid hS3
      clear hO hb3 hown hS3 B2
      go_wp2_with fail
      by_cases hne : False
      · exact hne.elim
      clear hne
      go_loopw [74, 12, 13, 14, 15, 16, 98] (fun i _ _ _ _ _ _ wr => ∃ k : Nat, i = .int .i64 k ∧ k ≤ R.length ∧ Below w3.heap.size w3 wr) (fun i _ _ _ _ _ _ _ => R.length - (intOf i).toNat)
      case atStart => exact ⟨0, rfl, Nat.zero_le _, Below.refl _ _⟩
      case round =>
        obtain ⟨k, rfl, hk2, hB4⟩ := hrel
        have B4 := B3.trans (hB4.mono B3.size)
        by_cases hlt2 : k < R.length
        · have q0 : (k : Int) < (R.length : Int) := by omega
          have q1 : 0 ≤ (k : Int) := by omega
          obtain ⟨r, hrk⟩ : ∃ r, R[k]? = some r := ⟨R[k], List.getElem?_eq_getElem hlt2⟩
          obtain ⟨s, hsk⟩ : ∃ s, ss[k]? = some s := ⟨ss[k]'(by rw [HSL.out]; exact hlt2), List.getElem?_eq_getElem _⟩
          obtain ⟨hwr, hsz2, -⟩ := HW.out k r s hrk hsk
          obtain ⟨bk, off, hp, d0, hs0⟩ := HR.out.at B4 hrk
          subst hp
          obtain ⟨bg, og, hpb, d1, e1⟩ := (HS3.out.below hB4).at hsk
          subst hpb
          have hO := fields_Of r.l s hwr hsz2
          have h16 := hwr.1
          have HS0 := Lib.hid hs0
          clear hwr hsz2 hs0 hrk hsk
          go_wp2_with fail
          refine (hO _).mono ?_
          rintro e w5 ⟨v5, rfl, hown5, hb5⟩
          obtain ⟨p5, c5, rfl, hS5⟩ := hown5.toS
          have B5 := B4.trans (hb5.mono B4.size)
          have B5' := hB4.trans (hb5.mono hB4.size)
          have HS5 := Lib.hid hS5
          have HS6 := Lib.hid (HS0.out.below hb5)
          clear hO hown5 hS5 HS0 d0 d1 e1 hb5
          go_wp2_with fail
          go_loopw [98, 16] (fun i _ wr => ∃ j : Nat, i = .int .i64 j ∧ j ≤ r.l.length ∧ Below w5.heap.size w5 wr) (fun i _ _ => r.l.length - (intOf i).toNat)
          case atStart => exact ⟨0, rfl, Nat.zero_le _, Below.refl _ _⟩
          case round =>
            obtain ⟨j, rfl, hj, hB6⟩ := hrel
            by_cases hjl : j < r.l.length
            · have u0 : (j : Int) < (r.l.length : Int) := by omega
              have u1 : 0 ≤ (j : Int) := by omega
              obtain ⟨x, hxj⟩ : ∃ x, r.l[j]? = some x := ⟨r.l[j], List.getElem?_eq_getElem hjl⟩
              obtain ⟨ba, oa, hpa, da, ea⟩ := (HS5.out.below hB6).at hxj
              obtain ⟨bc, oc, hpc, dc, ec⟩ := (HS6.out.below hB6).at hxj
              subst hpa
              rw [hpc]
              clear hxj
              go_wp2_with fail
              refine wp_region_bw (by kernel_rfl) (by kernel_rfl) ?_; (repeat (go_big_quiet_step (fail))); refine wpQuiet_nil ?_; intro _ hw'; obtain ⟨xq, hw''⟩ := hw'; subst hw''
              go_wp2_with fail
              go_roundw
              case rel => exact ⟨j + 1, by go_num, by omega, hB6.trans ((BW.below xq).mono hB6.size)⟩
              case measure => simp only [intOf]; omega
            · have u0 : ¬ (j : Int) < (r.l.length : Int) := by omega
              go_wp2_with fail
              go_roundw
              case rel => exact ⟨k + 1, by go_num, by omega, B5'.trans (hB6.mono B5'.size)⟩
              case measure => simp only [intOf]; omega
        · have q0 : ¬ (k : Int) < (R.length : Int) := by omega
          go_wp2_with fail
          go_ret
          exact ⟨rfl, B4⟩
end Go.Proofs.YtjddmcecllhlhaaDoor

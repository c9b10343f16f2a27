/-
  A rule that may be: its letters, its name.
-/
import Derived.Test.YtjddmcecllhlhaaDoorEyA
import Derived.Test.YtjddmcecllhlhaaDoorShT
import Derived.Lib.ConvBytes
namespace Go.Proofs.YtjddmcecllhlhaaDoor
open Go.RowKit Cal
attribute [local go_sem] BW.cell BW.frozen
def alnum : ByteArray := ⟨#[65, 66, 67, 68, 69, 70, 71, 72, 73, 74, 75, 76, 77, 78, 79, 80, 81, 82, 83, 84, 85, 86, 87, 88, 89, 90, 97, 98, 99, 100, 101, 102, 103, 104, 105, 106, 107, 108, 109, 110, 111, 112, 113, 114, 115, 116, 117, 118, 119, 120, 121, 122, 48, 49, 50, 51, 52, 53, 54, 55, 56, 57, 43, 45]⟩
theorem alnum_ascii : ∀ (j : Nat) b, alnum.data.toList[j]? = some b → b.toNat < 128 := by
  have h : ∀ b ∈ alnum.data.toList, b.toNat < 128 := by decide
  exact fun j b hb => h b (List.mem_of_getElem? hb)
theorem format_word_is (s : ByteArray) (hs : s.size ≤ 6) (w : World) : Calls Tryd.prog 60 #[.string s] w fun e w' => e = .returned (.bool (⟨(Lib.trimS s.data.toList alnum.data.toList).toArray⟩ : ByteArray).toList.isEmpty) ∧ Below w.heap.size w w' := by
  have hT := fun w => Any.strings_Trim_laid Tryd.lays160 (by kernel_rfl) s alnum w (by omega) (by decide) alnum_ascii
  have hT' : ∀ w, Calls Tryd.prog 92 #[.string s, .string alnum] w fun e w' => e = .returned (.string ⟨(Lib.trimS s.data.toList alnum.data.toList).toArray⟩) ∧ Below w.heap.size w w' := hT
  clear hT
  generalize (⟨(Lib.trimS s.data.toList alnum.data.toList).toArray⟩ : ByteArray) = t at *
  unfold alnum at hT'
  cases h : t.toList.isEmpty
  all_goals
    go_enter Tryd.func60, Tryd.ntmps60
    go_wp2_with (go_at_call 92; refine (hT' _).mono ?_; rintro e w1 ⟨rfl, hb⟩; obtain ⟨hc, hf⟩ := bcell hb; have z := hb.size; (try simp at z))
    go_ret
    exact ⟨rfl, by (focus (repeat' (first | exact Below.refl _ _ | refine Below.alloc ?_ ?_ _ | refine Below.setCell ?_ ?_ _ | refine Below.drew ?_ | refine below_drewN ?_ _ | refine Below.trans ?_ (Below.mono (by assumption) ?_) | refine Below.trans ?_ (Below.mono (BW.below _) ?_) | (simp; done) | (simp; omega) | omega)))⟩
theorem format_word (s : ByteArray) (hs : s.size ≤ 6) : ∃ b : Bool, ∀ w, Calls Tryd.prog 60 #[.string s] w fun e w' => e = .returned (.bool b) ∧ Below w.heap.size w w' := ⟨_, fun w => format_word_is s hs w⟩
/-- The letter S. -/
theorem letter_S (w : World) : Calls Tryd.prog 38 #[.string ⟨#[83]⟩] w fun e w' => ∃ t, e = .returned (.tuple #[.string t, .int .i64 0]) ∧ Below w.heap.size w w' := by
  have hW := fun w => format_word_is ⟨#[83]⟩ (by decide) w
  rw [show (⟨(Lib.trimS (⟨#[83]⟩ : ByteArray).data.toList alnum.data.toList).toArray⟩ : ByteArray).toList.isEmpty = true by rw [Lib.toList_data]; decide] at hW
  have hL : ∀ w, Calls Tryd.prog 66 #[.string ⟨#[83]⟩] w fun e w' => e = .returned (.tuple #[.string ⟨#[83]⟩, .int .i64 0]) ∧ Below w.heap.size w w' := by
    intro w
    go_enter Tryd.func66, Tryd.ntmps66
    go_wp2_with (go_at_call 60; refine (hW _).mono ?_; rintro e w1 ⟨rfl, hb⟩; obtain ⟨hc, hf⟩ := bcell hb; have z := hb.size; (try simp at z))
    go_ret2
    exact ⟨rfl, by (focus (repeat' (first | exact Below.refl _ _ | refine Below.alloc ?_ ?_ _ | refine Below.setCell ?_ ?_ _ | refine Below.drew ?_ | refine below_drewN ?_ _ | refine Below.trans ?_ (Below.mono (by assumption) ?_) | refine Below.trans ?_ (Below.mono (BW.below _) ?_) | (simp; done) | (simp; omega) | omega)))⟩
  clear hW
  go_enter Tryd.func38, Tryd.ntmps38
  go_wp2_with (go_at_call 66; refine (hL _).mono ?_; rintro e w1 ⟨rfl, hb⟩; obtain ⟨hc, hf⟩ := bcell hb; have z := hb.size; (try simp at z))
  go_ret2
  exact ⟨_, rfl, by (focus (repeat' (first | exact Below.refl _ _ | refine Below.alloc ?_ ?_ _ | refine Below.setCell ?_ ?_ _ | refine Below.drew ?_ | refine below_drewN ?_ _ | refine Below.trans ?_ (Below.mono (by assumption) ?_) | refine Below.trans ?_ (Below.mono (BW.below _) ?_) | (simp; done) | (simp; omega) | omega)))⟩
theorem format_Letter (s : ByteArray) : ∃ (t : ByteArray) (E : Int), ∀ w, Calls Tryd.prog 66 #[.string s] w fun e w' => e = .returned (.tuple #[.string t, .int .i64 E]) ∧ Below w.heap.size w w' := by
  cases h0 : (s.toList == [45])
  · by_cases h6 : 6 < s.size
    · have h6' : (6 : Int) < (s.size : Int) := by omega
      refine ⟨⟨#[]⟩, 9, fun w => ?_⟩
      go_enter Tryd.func66, Tryd.ntmps66
      go_wp2
      go_ret2
      exact ⟨rfl, Below.refl _ _⟩
    · obtain ⟨b, hW⟩ := format_word s (by omega)
      have h6' : ¬ (6 : Int) < (s.size : Int) := by omega
      cases he : s.toList.isEmpty
      · cases b
        · refine ⟨⟨#[]⟩, 4, fun w => ?_⟩
          go_enter Tryd.func66, Tryd.ntmps66
          go_wp2_with (go_at_call 60; refine (hW _).mono ?_; rintro e w1 ⟨rfl, hb⟩; obtain ⟨hc, hf⟩ := bcell hb; have z := hb.size; (try simp at z))
          go_ret2
          exact ⟨rfl, by (focus (repeat' (first | exact Below.refl _ _ | refine Below.alloc ?_ ?_ _ | refine Below.setCell ?_ ?_ _ | refine Below.drew ?_ | refine below_drewN ?_ _ | refine Below.trans ?_ (Below.mono (by assumption) ?_) | refine Below.trans ?_ (Below.mono (BW.below _) ?_) | (simp; done) | (simp; omega) | omega)))⟩
        · refine ⟨s, 0, fun w => ?_⟩
          go_enter Tryd.func66, Tryd.ntmps66
          go_wp2_with (go_at_call 60; refine (hW _).mono ?_; rintro e w1 ⟨rfl, hb⟩; obtain ⟨hc, hf⟩ := bcell hb; have z := hb.size; (try simp at z))
          go_ret2
          exact ⟨rfl, by (focus (repeat' (first | exact Below.refl _ _ | refine Below.alloc ?_ ?_ _ | refine Below.setCell ?_ ?_ _ | refine Below.drew ?_ | refine below_drewN ?_ _ | refine Below.trans ?_ (Below.mono (by assumption) ?_) | refine Below.trans ?_ (Below.mono (BW.below _) ?_) | (simp; done) | (simp; omega) | omega)))⟩
      · refine ⟨⟨#[]⟩, 4, fun w => ?_⟩
        go_enter Tryd.func66, Tryd.ntmps66
        go_wp2_with (go_at_call 60; refine (hW _).mono ?_; rintro e w1 ⟨rfl, hb⟩; obtain ⟨hc, hf⟩ := bcell hb; have z := hb.size; (try simp at z))
        go_ret2
        exact ⟨rfl, by (focus (repeat' (first | exact Below.refl _ _ | refine Below.alloc ?_ ?_ _ | refine Below.setCell ?_ ?_ _ | refine Below.drew ?_ | refine below_drewN ?_ _ | refine Below.trans ?_ (Below.mono (by assumption) ?_) | refine Below.trans ?_ (Below.mono (BW.below _) ?_) | (simp; done) | (simp; omega) | omega)))⟩
  · refine ⟨⟨#[]⟩, 0, fun w => ?_⟩
    go_enter Tryd.func66, Tryd.ntmps66
    go_wp2
    go_ret2
    exact ⟨rfl, Below.refl _ _⟩
theorem format_LetterText (s : ByteArray) : ∃ (t : ByteArray) (E : Int), ∀ w, Calls Tryd.prog 38 #[.string s] w fun e w' => e = .returned (.tuple #[.string t, .int .i64 E]) ∧ Below w.heap.size w w' := by
  cases he : s.toList.isEmpty
  · obtain ⟨t, E, hL⟩ := format_Letter s
    by_cases hE : E = 0
    · subst hE
      cases ht : (t.toList == s.toList)
      rotate_left
      · refine ⟨s, 0, fun w => ?_⟩
        go_enter Tryd.func38, Tryd.ntmps38
        go_wp2_with (go_at_call 66; refine (hL _).mono ?_; rintro e w1 ⟨rfl, hb⟩; obtain ⟨hc, hf⟩ := bcell hb; have z := hb.size; (try simp at z))
        go_ret2
        exact ⟨rfl, by (focus (repeat' (first | exact Below.refl _ _ | refine Below.alloc ?_ ?_ _ | refine Below.setCell ?_ ?_ _ | refine Below.drew ?_ | refine below_drewN ?_ _ | refine Below.trans ?_ (Below.mono (by assumption) ?_) | refine Below.trans ?_ (Below.mono (BW.below _) ?_) | (simp; done) | (simp; omega) | omega)))⟩
      · refine ⟨⟨#[]⟩, 4, fun w => ?_⟩
        go_enter Tryd.func38, Tryd.ntmps38
        go_wp2_with (go_at_call 66; refine (hL _).mono ?_; rintro e w1 ⟨rfl, hb⟩; obtain ⟨hc, hf⟩ := bcell hb; have z := hb.size; (try simp at z))
        go_ret2
        exact ⟨rfl, by (focus (repeat' (first | exact Below.refl _ _ | refine Below.alloc ?_ ?_ _ | refine Below.setCell ?_ ?_ _ | refine Below.drew ?_ | refine below_drewN ?_ _ | refine Below.trans ?_ (Below.mono (by assumption) ?_) | refine Below.trans ?_ (Below.mono (BW.below _) ?_) | (simp; done) | (simp; omega) | omega)))⟩
    · have hE' : (E != 0) = true := by simpa using hE
      refine ⟨⟨#[]⟩, 4, fun w => ?_⟩
      go_enter Tryd.func38, Tryd.ntmps38
      go_wp2_with (go_at_call 66; refine (hL _).mono ?_; rintro e w1 ⟨rfl, hb⟩; obtain ⟨hc, hf⟩ := bcell hb; have z := hb.size; (try simp at z))
      go_ret2
      exact ⟨rfl, by (focus (repeat' (first | exact Below.refl _ _ | refine Below.alloc ?_ ?_ _ | refine Below.setCell ?_ ?_ _ | refine Below.drew ?_ | refine below_drewN ?_ _ | refine Below.trans ?_ (Below.mono (by assumption) ?_) | refine Below.trans ?_ (Below.mono (BW.below _) ?_) | (simp; done) | (simp; omega) | omega)))⟩
  · refine ⟨⟨#[45]⟩, 0, fun w => ?_⟩
    go_enter Tryd.func38, Tryd.ntmps38
    go_wp2
    go_ret2
    exact ⟨rfl, Below.refl _ _⟩
theorem ey_bytes (w : World) (l : List UInt8) : ∃ cap w', (convert 9 70 (.string ⟨l.toArray⟩)).run Tryd.prog w = .ok (.slice (some ⟨w.heap.size, 0, none⟩) l.length cap) w' ∧
    (∀ j (hj : j < l.length), w'.cell? ⟨w.heap.size, j, none⟩ = some (.int .u8 (l[j].toNat : Int))) ∧ Below w.heap.size w w' := by
  refine ⟨_, _, Go.Lib.run_convert_string_bytes w _ _ _ _ Tryd.underlying9 Tryd.underlying70 Tryd.underlying5, fun j hj => ?_, ?_⟩
  · have h := Go.Lib.bytesWorld_at_new w 5 ⟨l.toArray⟩
    simp only [World.cell?, h]
    simp [Go.Lib.bytesCells]
    rw [Array.getElem?_append_left (by simpa using hj)]
    simp [hj]
  · exact ⟨rfl, rfl, rfl, by simp [Go.Lib.bytesWorld, World.freeze, World.alloc, World.drew, -World.alloc_eq, -World.drew_eq], fun j hj => Go.Lib.bytesWorld_at_old w _ _ j hj⟩
/-- What a byte of a name may be. -/
def nmP (k : Nat) (X I : Int) : Prop := (97 ≤ bits .or .u8 X 32 ∧ bits .or .u8 X 32 ≤ 122) ∨ X = 95 ∨ (0 < k ∧ ((48 ≤ X ∧ X ≤ 57) ∨ 0 ≤ I))
def nmB (i : Nat) (c : UInt8) : Prop := nmP i (c.toNat : Int) (Lib.indexByte [45, 43, 47, 46] c)
def nmOk (l : List UInt8) : Prop := l ≠ [] ∧ ∀ (j : Nat) (hj : j < l.length), nmB j l[j]
open Classical in
noncomputable def nmE (l : List UInt8) : Int := if nmOk l then 0 else 10
set_option maxRecDepth 100000 in
set_option maxHeartbeats 4000000 in
theorem rule_Name_is (l : List UInt8) (hl : l.length ≤ 64) (w : World) : Calls Tryd.prog 39 #[.string ⟨l.toArray⟩] w fun e w' => e = .returned (.int .i64 (nmE l)) ∧ Below w.heap.size w w' := by
  have h64 : ¬ 64 < (⟨l.toArray⟩ : ByteArray).size := by
    have : (⟨l.toArray⟩ : ByteArray).size = l.length := rfl
    omega
  have h64' : ¬ (64 : Int) < ((⟨l.toArray⟩ : ByteArray).size : Int) := by omega
  obtain ⟨cap, wb, e1, c1, B1⟩ := ey_bytes w l
  have C1 := Lib.hid c1
  have hI := fun c w => Tryd.strings_IndexByte ⟨#[45, 43, 47, 46]⟩ c w
  have hix : (⟨#[45, 43, 47, 46]⟩ : ByteArray).data.toList = [45, 43, 47, 46] := rfl
  simp only [hix] at hI
  have HE : l.toArray.toList = l := rfl
  clear c1 hix
  go_enter Tryd.func39, Tryd.ntmps39
  go_wp2_with fail
  clear e1
  go_loopw [11, 3, 4, 16, 29] (fun i _ _ _ _ wr => ∃ k : Nat, i = .int .i64 k ∧ k ≤ l.length ∧ Hid (∀ (j : Nat) (hj : j < l.length), j < k → nmB j l[j]) ∧ wr = wb) (fun i _ _ _ _ _ => l.length - (intOf i).toNat)
  case atStart => exact ⟨0, rfl, Nat.zero_le _, Lib.hid (fun j hj h => absurd h (Nat.not_lt_zero _)), rfl⟩
  case round =>
    obtain ⟨k, rfl, hk, HM, rfl⟩ := hrel
    by_cases hlt : k < l.length
    · have b0 : (k : Int) < (l.length : Int) := by omega
      have b1 : 0 ≤ (k : Int) := by omega
      have ck := C1.out k hlt
      obtain ⟨x, hx⟩ : ∃ x, x = l[k] := ⟨_, rfl⟩
      rw [← hx] at ck
      have HX := Lib.hid hx
      have hIx := fun w => hI (x.toNat : Int) w
      have hxx : ((x.toNat : Int).toNat.toUInt8) = x := by simp
      rw [hxx] at hIx
      obtain ⟨J, hJ⟩ : ∃ J, J = Lib.indexByte [45, 43, 47, 46] x := ⟨_, rfl⟩
      rw [← hJ] at hIx
      obtain ⟨X, hX⟩ : ∃ X, X = (x.toNat : Int) := ⟨_, rfl⟩
      rw [← hX] at hIx ck
      have HP : Hid (nmP k X J ↔ nmB k l[k]) := Lib.hid (by unfold nmB; rw [← hx, ← hX, ← hJ])
      clear hx hI hxx hX hJ HX
      go_wp2_with (go_at_call 55; refine (hIx _).mono ?_; rintro e w1 ⟨rfl, rfl⟩)
      all_goals first
        | (go_ret
           have hP : ¬ nmP k X J := (by (try simp only [beq_iff_eq, beq_eq_false_iff_ne, ne_eq] at *); unfold nmP; omega)
           have hE : nmE l = 10 := (by unfold nmE; rw [if_neg]; intro ho; exact hP (HP.out.2 (ho.2 k hlt)))
           exact ⟨by first | (rw [hE]; rfl) | rfl, B1⟩)
        | (have hP : nmP k X J := (by (try simp only [beq_iff_eq, beq_eq_false_iff_ne, ne_eq] at *); unfold nmP; omega)
           have HM' : Hid (∀ (j : Nat) (hj : j < l.length), j < k + 1 → nmB j l[j]) := Lib.hid (by
             intro j hj h
             by_cases hjk : j < k
             · exact HM.out j hj hjk
             · obtain rfl : j = k := by omega
               exact HP.out.1 hP)
           go_roundw
           case rel => exact ⟨k + 1, by go_num, by omega, HM', trivial⟩
           case measure => simp only [intOf]; omega)
    · have b0 : ¬ (k : Int) < (l.length : Int) := by omega
      obtain rfl : k = l.length := by omega
      cases he : l with
      | nil =>
        subst he
        have hE : nmE [] = 10 := by unfold nmE; rw [if_neg]; intro ho; exact ho.1 rfl
        go_wp2_with fail
        go_ret
        exact ⟨by first | (rw [hE]; rfl) | rfl, B1⟩
      | cons c l' =>
        have hE : nmE l = 0 := by
          unfold nmE
          rw [if_pos]
          exact ⟨by rw [he]; simp, fun j hj => HM.out j hj hj⟩
        have hem : l.isEmpty = false := by rw [he]; rfl
        rw [← he]
        clear he
        go_wp2_with fail
        go_ret
        exact ⟨by first | (rw [hE]; rfl) | rfl, B1⟩
theorem rule_Name (s : ByteArray) : ∃ E : Int, ∀ w, Calls Tryd.prog 39 #[.string s] w fun e w' => e = .returned (.int .i64 E) ∧ Below w.heap.size w w' := by
  by_cases h64 : 64 < s.size
  · have h64' : (64 : Int) < (s.size : Int) := by omega
    refine ⟨9, fun w => ?_⟩
    go_enter Tryd.func39, Tryd.ntmps39
    go_wp2
    go_ret
    exact ⟨rfl, Below.refl _ _⟩
  · obtain ⟨l, rfl⟩ : ∃ l : List UInt8, s = ⟨l.toArray⟩ := ⟨s.data.toList, by simp⟩
    exact ⟨nmE l, fun w => rule_Name_is l (by have : (⟨l.toArray⟩ : ByteArray).size = l.length := rfl; omega) w⟩
theorem name_EU : nmE [69, 85] = 0 := by
  unfold nmE
  rw [if_pos]
  refine ⟨by simp, fun j hj => ?_⟩
  match j, hj with
  | 0, _ => exact .inl (show 97 ≤ bits .or .u8 69 32 ∧ bits .or .u8 69 32 ≤ 122 by decide)
  | 1, _ => exact .inl (show 97 ≤ bits .or .u8 85 32 ∧ bits .or .u8 85 32 ≤ 122 by decide)
/-- A rule. -/
structure Ru where
  nm : ByteArray
  f : Int
  t : Int
  m : Int
  k : Int
  wk : Int
  d : Int
  s : Int
  b : Int
  sv : Int
  lt : ByteArray
abbrev ruV (r : Ru) : Value := .agg #[.string r.nm, .int .i64 r.f, .int .i64 r.t, .int .i64 r.m, .int .i64 r.k, .int .i64 r.wk, .int .i64 r.d, .int .i64 r.s, .int .i64 r.b, .int .i64 r.sv, .string r.lt]
/-- What a rule that may be has. -/
def RuFine (r : Ru) : Prop := -32767 ≤ r.f ∧ r.f ≤ r.t ∧ r.t ≤ 32767 ∧ onFits r.k r.wk r.d r.m = true ∧ hourOk r.s r.b = true ∧ -10800 ≤ r.sv ∧ r.sv ≤ 10800
def RuI (r : Ru) : Prop := I64 r.f ∧ I64 r.t
def RightIs (r : Ru) (b : Bool) : Prop := ∀ w, Calls Tryd.prog 15 #[ruV r] w fun e w' => e = .returned (.bool b) ∧ Below w.heap.size w w'
set_option maxRecDepth 100000 in
set_option maxHeartbeats 4000000 in
theorem rule_Right_at (r : Ru) (kr : RuI r) (E3 E4 : Int) (hL : ∀ w, Calls Tryd.prog 38 #[.string r.lt] w fun e w' => ∃ t, e = .returned (.tuple #[.string t, .int .i64 E3]) ∧ Below w.heap.size w w') (hN : ∀ w, Calls Tryd.prog 39 #[.string r.nm] w fun e w' => e = .returned (.int .i64 E4) ∧ Below w.heap.size w w') :
    RightIs r ((toE r.f r.t == 0) && (fromE r.f == 0) && (E3 == 0) && (E4 == 0) && onFits r.k r.wk r.d r.m && hourOk r.s r.b && inB r.sv (-10800) 10800) := by
  obtain ⟨kf, kt⟩ := kr
  intro w
  have hT := fun w => year_ToText r.f r.t kt w
  have hF := fun w => year_FromText r.f kf w
  have hD := fun w => dayrule_Fits r.k r.wk r.d r.m w
  have hH := fun w => clock_Right r.s r.b w
  have hS := fun w => rule_saves r.sv w
  generalize toE r.f r.t = E1 at *
  generalize fromE r.f = E2 at *
  clear kf kt
  generalize onFits r.k r.wk r.d r.m = B1 at *
  generalize hourOk r.s r.b = B2 at *
  generalize inB r.sv (-10800) 10800 = B3 at *
  obtain ⟨nm, f, t, m, k, wk, d, s, b, sv, l⟩ := r
  dsimp only at hT hF hL hN hD hH hS
  go_enter Tryd.func15, Tryd.ntmps15
  go_wp2_with (first | (go_at_call 36; refine (hT _).mono ?_; rintro e w1 ⟨_, rfl, hb⟩; obtain ⟨hc, hf⟩ := bcell hb; have z := hb.size; (try simp at z); have z0 : w.heap.size < w1.heap.size := (by omega)) | (go_at_call 37; refine (hF _).mono ?_; rintro e w2 ⟨_, rfl, hb⟩; obtain ⟨hc, hf⟩ := bcell hb; have z := hb.size; (try simp at z); have z0 : w.heap.size < w2.heap.size := (by omega)) | (go_at_call 38; refine (hL _).mono ?_; rintro e w3 ⟨_, rfl, hb⟩; obtain ⟨hc, hf⟩ := bcell hb; have z := hb.size; (try simp at z); have z0 : w.heap.size < w3.heap.size := (by omega)) | (go_at_call 39; refine (hN _).mono ?_; rintro e w4 ⟨rfl, hb⟩; obtain ⟨hc, hf⟩ := bcell hb; have z := hb.size; (try simp at z); have z0 : w.heap.size < w4.heap.size := (by omega)) | (go_at_call 40; refine (hD _).mono ?_; rintro e w5 ⟨rfl, hb⟩; obtain ⟨hc, hf⟩ := bcell hb; have z := hb.size; (try simp at z); have z0 : w.heap.size < w5.heap.size := (by omega)) | (go_at_call 28; refine (hH _).mono ?_; rintro e w6 ⟨rfl, hb⟩; obtain ⟨hc, hf⟩ := bcell hb; have z := hb.size; (try simp at z); have z0 : w.heap.size < w6.heap.size := (by omega)) | (go_at_call 41; refine (hS _).mono ?_; rintro e w' ⟨rfl, rfl⟩))
  all_goals go_ret
  all_goals exact ⟨ret_bool (by simp [*]), by (focus (repeat' (first | exact Below.refl _ _ | refine Below.alloc ?_ ?_ _ | refine Below.setCell ?_ ?_ _ | refine Below.drew ?_ | refine below_drewN ?_ _ | refine Below.trans ?_ (Below.mono (by assumption) ?_) | refine Below.trans ?_ (Below.mono (BW.below _) ?_) | (simp; done) | (simp; omega) | omega)))⟩
theorem right_fine {r : Ru} {E3 E4 : Int} (h : ((toE r.f r.t == 0) && (fromE r.f == 0) && (E3 == 0) && (E4 == 0) && onFits r.k r.wk r.d r.m && hourOk r.s r.b && inB r.sv (-10800) 10800) = true) : RuFine r := by
  have e1 : toE r.f r.t = 0 ↔ (inB r.t (-32767) 32767 = true ∧ r.f ≤ r.t) := by
    unfold toE; split
    · rename_i h; simp [h]
    · rename_i h; split <;> simp_all
  have e2 : fromE r.f = 0 ↔ inB r.f (-32767) 32767 = true := by
    unfold fromE; split <;> simp_all
  simp only [Bool.and_eq_true, beq_iff_eq] at h
  obtain ⟨⟨⟨⟨⟨⟨h1, h2⟩, h3⟩, h4⟩, h5⟩, h6⟩, h7⟩ := h
  have := inB_iff.1 (e1.1 h1).1
  have := inB_iff.1 (e2.1 h2)
  have := inB_iff.1 h7
  exact ⟨by omega, (e1.1 h1).2, by omega, h5, h6, by omega, by omega⟩
theorem rule_Right (r : Ru) (kr : RuI r) : ∃ b, RightIs r b ∧ (b = true → RuFine r) := by
  obtain ⟨lt, E3, hL⟩ := format_LetterText r.lt
  obtain ⟨E4, hN⟩ := rule_Name r.nm
  exact ⟨_, rule_Right_at r kr E3 E4 (fun w => (hL w).mono fun e w' h => ⟨lt, h⟩) hN, right_fine⟩
/-- The rule that there was. -/
def euR : Ru := ⟨⟨#[69, 85]⟩, 1981, 32767, 3, 1, 0, 0, 3600, 2, 3600, ⟨#[83]⟩⟩
theorem eu_right : RightIs euR true ∧ RuFine euR := by
  have h := rule_Right_at euR ⟨show I64 1981 by unfold I64; omega, show I64 32767 by unfold I64; omega⟩ 0 0 letter_S (fun w => by
    have := rule_Name_is [69, 85] (by decide) w
    rw [name_EU] at this
    exact this)
  have e : ((toE euR.f euR.t == 0) && (fromE euR.f == 0) && ((0 : Int) == 0) && ((0 : Int) == 0) && onFits euR.k euR.wk euR.d euR.m && hourOk euR.s euR.b && inB euR.sv (-10800) 10800) = true := by decide
  rw [e] at h
  exact ⟨h, right_fine e⟩
end Go.Proofs.YtjddmcecllhlhaaDoor

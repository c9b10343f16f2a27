/-
  The cutter's next field: one that stands plain.
-/
import Derived.Test.YtjddmcecllhlhaaDoorNxu
namespace Go.Proofs.YtjddmcecllhlhaaDoor
open Go.RowKit
theorem drop_at {f : List UInt8} {k : Nat} (h : k < f.length) (rest : List UInt8) : f.drop k ++ rest = f[k] :: (f.drop (k + 1) ++ rest) := by
  rw [List.drop_eq_getElem_cons h]
  rfl
theorem take_at {f : List UInt8} {k : Nat} (h : k < f.length) : Lib.byteCells (f.take k) ++ [.int .u8 (f[k].toNat : Int)] = Lib.byteCells (f.take (k + 1)) := by
  rw [List.take_succ_eq_append_getElem h, Lib.byteCells_append]
  rfl
theorem byte_neq {x k : UInt8} (h : x ≠ k) (n : Int) (hn : (k.toNat : Int) = n) : ((x.toNat : Int) != n) = true := by
  subst hn
  rw [bne_iff_ne]
  intro e
  exact h (UInt8.toNat_inj.1 (Int.ofNat.inj e))
theorem byte_eql {x k : UInt8} (h : x ≠ k) (n : Int) (hn : (k.toNat : Int) = n) : ((x.toNat : Int) == n) = false := by
  subst hn
  rw [beq_eq_false_iff_ne]
  intro e
  exact h (UInt8.toNat_inj.1 (Int.ofNat.inj e))
set_option maxRecDepth 100000 in
set_option maxHeartbeats 8000000 in
theorem next_plain (c : Nat) (sep f rest : List UInt8) (hsep : sep = [] ∨ sep = [32]) (hf0 : f ≠ []) (hf : ∀ b ∈ f, b ≠ 34 ∧ b ≠ 32 ∧ b ≠ 9 ∧ b ≠ 35) (hr : rest = [] ∨ ∃ r, rest = 32 :: r) (hl : f.length + rest.length ≤ 4294967000) (w : World) (h : w.cell? ⟨c, 0, none⟩ = some (.string (bts (sep ++ (f ++ rest)))))
    (hz : w.frozen? ⟨c, 0, none⟩ = false) (hc : c < w.heap.size) : Calls Tryd.prog 20 #[.pointer (some ⟨c, 0, none⟩)] w (NextGives w c f true rest) := by
  obtain ⟨y, f', rfl⟩ : ∃ y f', f = y :: f' := by
    cases f with
    | nil => exact absurd rfl hf0
    | cons y f' => exact ⟨y, f', rfl⟩
  have hy := hf y List.mem_cons_self
  have hT := TrimLeft_at (sep ++ (y :: f' ++ rest)) (by rcases hsep with rfl | rfl <;> simp only [List.length_append, List.length_cons, List.length_nil, List.nil_append] at hl ⊢ <;> omega) w
  rw [show Lib.trimLeftS (sep ++ (y :: f' ++ rest)) [32, 9] = y :: (f' ++ rest) from trim_sep hsep y ⟨hy.2.1, hy.2.2.1⟩ (f' ++ rest)] at hT
  have HF := Lib.hid hf
  have hb := beg y (f' ++ rest)
  have hlr : (bts rest).size = rest.length := rfl
  have hB := fun x w => blank_at x w
  have hB32 := fun w => blank_at 32 w
  unfold blanks at hB hB32
  rw [show ((32 : UInt8).toNat : Int) = 32 by decide, show ((32 : UInt8) == 32 || (32 : UInt8) == 9) = true by decide] at hB32
  have HR : Hid ((rest = [] ∧ (bts rest).toList.isEmpty = true) ∨ ∃ T, Beg (bts rest) 32 T) := Lib.hid (by
    rcases hr with rfl | ⟨r, rfl⟩
    · exact .inl ⟨rfl, by rw [Lib.toList_data]; rfl⟩
    · exact .inr ⟨_, beg 32 r⟩)
  unfold NextGives
  obtain ⟨f, hfd⟩ : ∃ f, f = y :: f' := ⟨_, rfl⟩
  have hS0 : bts (y :: (f' ++ rest)) = bts (f.drop 0 ++ rest) := by rw [hfd]; rfl
  have hfl : f.length = f'.length + 1 := by rw [hfd]; rfl
  rw [← hfd] at HF h hT
  have HFd := Lib.hid hfd
  rw [hS0] at hT hb
  simp only [List.length_cons] at hl
  clear hfd hf hr hf0 hS0
  have hyn : ((y.toNat : Int) == 35) = false := byte_eql hy.2.2.2 35 rfl
  obtain ⟨S, hS⟩ : ∃ S, S = bts (f.drop 0 ++ rest) := ⟨_, rfl⟩
  rw [← hS] at hT hb
  have HS := Lib.hid hS
  obtain ⟨b1, b2, b3, b4⟩ := hb
  have hz0 : 0 < S.size := by omega
  have b5 := b3 hz0
  have q0 : (0 : Int) < (S.size : Int) := by omega
  generalize bts (sep ++ (f ++ rest)) = S0 at *
  have b2' : S.size = f'.length + rest.length + 1 := by rw [b2, bts_size, List.length_append]
  have HB := Lib.hid hB
  have HB32 := Lib.hid hB32
  have HFL := Lib.hid hfl
  have HLR := Lib.hid hlr
  clear b3 b4 hS hsep b2 hB hB32 hy hfl hlr
  rw [← HFd.out]
  go_enter Tryd.func20, Tryd.ntmps20
  go_wp2_with fail
  refine hT.mono ?_
  rintro e w1 ⟨rfl, hb1⟩
  have c1 := (hb1.cell (p := ⟨c, 0, none⟩) hc).trans h
  have z1 := (hb1.frozen (p := ⟨c, 0, none⟩) hc).trans hz
  have hc1 := Nat.lt_of_lt_of_le hc hb1.size
  clear hT h hz
  go_wp2_with fail
  have c2 : ((w1.setCell ⟨c, 0, none⟩ (.string S)).alloc (.cells #[.pointer none, .slice none 0 0] 72)).cell? ⟨c, 0, none⟩ = some (.string S) := by go_simp
  have z2 : ((w1.setCell ⟨c, 0, none⟩ (.string S)).alloc (.cells #[.pointer none, .slice none 0 0] 72)).frozen? ⟨c, 0, none⟩ = false := by go_simp
  have I2 : Hid (Lib.IsBuilder 72 5 w1.heap.size w1.heap.size [] ((w1.setCell ⟨c, 0, none⟩ (.string S)).alloc (.cells #[.pointer none, .slice none 0 0] 72))) := Lib.hid (by
    have := new_builder (w1.setCell ⟨c, 0, none⟩ (.string S)) w1.heap.size (by simp)
    simpa using this)
  have K2 : Cut w.heap.size c w ((w1.setCell ⟨c, 0, none⟩ (.string S)).alloc (.cells #[.pointer none, .slice none 0 0] 72)) := ((Cut.of hb1).setCell _ _).trans (Cut.of ((Below.refl _ _).alloc (by simpa using hb1.size) _))
  have hw1 := hb1.size
  clear hb1 c1 z1 b1 b2' b5 q0 hyn hz0
  have hcb : c < w1.heap.size := by omega
  generalize w1.heap.size = b at *
  generalize (w1.setCell ⟨c, 0, none⟩ (.string S)).alloc (.cells #[.pointer none, .slice none 0 0] 72) = w2 at *
  go_loopw [5] (fun _ wr => ∃ k : Nat, k ≤ f.length ∧ wr.cell? ⟨c, 0, none⟩ = some (.string (bts (f.drop k ++ rest))) ∧ wr.frozen? ⟨c, 0, none⟩ = false ∧ Hid (Lib.IsBuilder 72 5 b b (Lib.byteCells (f.take k)) wr) ∧ Cut w.heap.size c w wr) (fun _ wr => cellLen wr c)
  case atStart => exact ⟨0, Nat.zero_le _, c2.trans (by rw [HS.out]), z2, I2, K2⟩
  case round =>
    clear c2 z2 I2 K2
    obtain ⟨k, hk, c6, z6, I6, K6⟩ := hrel
    have hsz6 := size_pos I6.out
    have hc6 : c < wr.heap.size := by omega
    by_cases hlt : k < f.length
    · have hm := HF.out f[k] (List.getElem_mem hlt)
      have e0 := drop_at hlt rest
      have ht := take_at hlt
      have hb := beg f[k] (f.drop (k + 1) ++ rest)
      rw [← e0] at hb
      have m1 := cellLen_is c6
      have hBx := HB.out f[k]
      have hfl := HFL.out
      have hsT : (bts (f.drop (k + 1) ++ rest)).size = f.length - (k + 1) + rest.length := by rw [bts_size]; simp
      obtain ⟨T, hTT⟩ : ∃ T, T = bts (f.drop (k + 1) ++ rest) := ⟨_, rfl⟩
      rw [← hTT] at hb hsT
      have HTT := Lib.hid hTT
      have HTk := Lib.hid ht
      obtain ⟨x, hx⟩ : ∃ x, x = f[k] := ⟨_, rfl⟩
      rw [← hx] at hm hb hBx HTk
      generalize bts (f.drop k ++ rest) = S1 at *
      obtain ⟨b1, b2, b3, b4⟩ := hb
      have hz0 : 0 < S1.size := by omega
      have b5 := b3 hz0
      have q0 : (0 : Int) < (S1.size : Int) := by omega
      have q1 : (1 : Int) ≤ (S1.size : Int) := by omega
      have q2 : (S1.size : Int) ≤ 4294967295 := by omega
      have hx256 : x.toNat < 256 := x.toNat_lt
      have hw32 : wrap32 (x.toNat : Int) = (x.toNat : Int) := by unfold wrap32; omega
      have n1 : ((x.toNat : Int) != 35) = true := byte_neq hm.2.2.2 35 rfl
      have n2 : ((x.toNat : Int) == 34) = false := byte_eql hm.1 34 rfl
      rw [show (x == 32 || x == 9) = false by simp [hm.2.1, hm.2.2.1]] at hBx
      have W5 := fun w5 h1 h2 => Tryd.Builder_WriteByte b b (Lib.byteCells (f.take k)) (x.toNat : Int) w5 h1 (by rw [Lib.byteCells_length, List.length_take]; omega) h2
      rw [hsT] at b2 b4
      clear b3 hx e0 ht hm hTT hfl
      go_wp2_with fail
      refine (hBx _).mono ?_
      rintro e w7 ⟨rfl, hb7⟩
      have c7 := (hb7.cell (p := ⟨c, 0, none⟩) hc6).trans c6
      have z7 := (hb7.frozen (p := ⟨c, 0, none⟩) hc6).trans z6
      have I7 := Lib.hid (IsBuilder.below I6.out hb7)
      have K7 := K6.trans ((Cut.of hb7).mono K6.size)
      have hc7 := Nat.lt_of_lt_of_le hc6 hb7.size
      clear c6 z6 I6 K6 hc6 hb7 hsz6
      go_wp2_with fail
      have c8 : (w7.setCell ⟨c, 0, none⟩ (.string T)).cell? ⟨c, 0, none⟩ = some (.string T) := by go_simp
      have z8 : (w7.setCell ⟨c, 0, none⟩ (.string T)).frozen? ⟨c, 0, none⟩ = false := by go_simp
      have I8 := Lib.hid (IsBuilder.other (j := 0) (u := .string T) I7.out hcb)
      have K8 := K7.setCell 0 (.string T)
      have hb8 := Nat.le_of_lt (size_pos I8.out)
      clear c7 z7 I7 K7 hc7
      generalize w7.setCell ⟨c, 0, none⟩ (.string T) = w8 at *
      refine (W5 w8 I8.out hb8).mono ?_
      rintro e w9 ⟨rfl, hAt, hb9⟩
      have c9 := (hb9.cell (p := ⟨c, 0, none⟩) hcb).trans c8
      have z9 := (hb9.frozen (p := ⟨c, 0, none⟩) hcb).trans z8
      rw [HTk.out] at hAt
      have I9 : Hid (Lib.IsBuilder 72 5 b b (Lib.byteCells (f.take (k + 1))) w9) := Lib.hid (.inr hAt)
      have K9 := K8.trans ((Cut.of hb9).mono hw1)
      have m2 := cellLen_is c9
      rw [HTT.out] at c9
      clear W5 hAt hb9 c8 z8 I8 K8 hb8
      go_wp2_with fail
      go_roundw
      case rel => exact ⟨k + 1, hlt, c9, z9, I9, K9⟩
      case measure => rw [m1, m2]; omega
    · obtain rfl : k = f.length := by omega
      rw [List.take_length] at I6
      rw [List.drop_length, List.nil_append] at c6
      clear hlt hk HB HS HF HFd HFL
      rcases HR.out with ⟨hre, hem⟩ | ⟨U, u1, u2, u3, u4⟩
      · have hS := Tryd.Builder_String_any b b f wr I6.out (Nat.le_of_lt hsz6)
        clear HR
        subst hre
        generalize hRe : bts [] = R at *
        go_wp2_with fail
        refine hS.mono ?_
        rintro e w7 ⟨rfl, hb7⟩
        go_wp2_with fail
        go_ret2
        exact ⟨rfl, (hb7.cell (p := ⟨c, 0, none⟩) hcb).trans (by rw [hRe]; exact c6), (hb7.frozen (p := ⟨c, 0, none⟩) hcb).trans z6, K6.trans ((Cut.of hb7).mono hw1)⟩
      · have hzr : 0 < (bts rest).size := by omega
        have u5 := u3 hzr
        have q2 : (0 : Int) < ((bts rest).size : Int) := by omega
        have hB32 := HB32.out
        clear u3 HR u4
        generalize hRe : bts rest = R at *
        go_wp2_with fail
        refine (hB32 _).mono ?_
        rintro e w7 ⟨rfl, hb7⟩
        have c7 := (hb7.cell (p := ⟨c, 0, none⟩) hc6).trans c6
        have z7 := (hb7.frozen (p := ⟨c, 0, none⟩) hc6).trans z6
        have I7 := Lib.hid (IsBuilder.below I6.out hb7)
        have K7 := K6.trans ((Cut.of hb7).mono K6.size)
        have hc7 := Nat.lt_of_lt_of_le hc6 hb7.size
        clear c6 z6 I6 K6 hc6 hb7
        have hS := Tryd.Builder_String_any b b f w7 I7.out (Nat.le_of_lt (size_pos I7.out))
        go_wp2_with fail
        refine hS.mono ?_
        rintro e w8 ⟨rfl, hb8⟩
        go_wp2_with fail
        go_ret2
        exact ⟨rfl, (hb8.cell (p := ⟨c, 0, none⟩) hcb).trans (by rw [hRe]; exact c7), (hb8.frozen (p := ⟨c, 0, none⟩) hcb).trans z7, K7.trans ((Cut.of hb8).mono hw1)⟩
end Go.Proofs.YtjddmcecllhlhaaDoor

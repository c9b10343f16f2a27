/-
  amount.Read of texts of two and of three parts.
-/
import Derived.Test.YtjddmcecllhlhaaDoorAmtC
namespace Go.Proofs.YtjddmcecllhlhaaDoor
open Go.RowKit Go.Lib
set_option maxRecDepth 100000 in
set_option maxHeartbeats 4000000 in
theorem amount_Read2 (neg : Bool) (b : UInt8) (l y : List UInt8) (hd : ∀ x ∈ b :: l, isDig x) (hl : (b :: l).length ≤ 3) (hN : natOf (b :: l) ≤ 99) (hy : ∀ c ∈ y, isDig c) (ly : y.length = 2) (ny : natOf y < 60) (w : World) (K : AKept w) : Calls Tryd.prog 12 #[.string (bts (sgn neg (b :: (l ++ 58 :: y))))] w fun e w' => e = .returned (.tuple #[.int .i64 (sumV neg (natOf (b :: l) * 3600 + natOf y * 60)), .int .i64 0]) ∧ Below w.heap.size w w' := by
  have hC := fun w => cut_sgn neg b (l ++ 58 :: y) (hd b (by simp)) w
  obtain ⟨m, hm⟩ := K.m
  have hS := Tryd.strings_Split (bts (b :: (l ++ 58 :: y))) ⟨#[58]⟩ m w (by show (b :: (l ++ 58 :: y)).length < _; simp at hl ⊢; omega) hm (by decide)
  have hsp := split_two (x := b :: l) (fun c hc => dig_ne (hd c hc)) (fun c hc => dig_ne (hy c hc))
  unfold bts at hS hsp
  rw [List.cons_append] at hsp
  rw [hsp.1, hsp.2] at hS
  have hP := fun w => part_read 1 3 3600 (b :: l) hd (by simp; omega) (by omega) hl w
  have hP2 := fun w => part_read 2 2 60 y hy (by omega) (by omega) (by omega) w
  unfold bts at hC ⊢
  generalize (⟨(sgn neg (b :: (l ++ 58 :: y))).toArray⟩ : ByteArray) = S at *
  generalize hs : (⟨(b :: (l ++ 58 :: y)).toArray⟩ : ByteArray) = s at *
  have hse : s.toList.isEmpty = false := by rw [← hs, toList_data]; rfl
  generalize natOf (b :: l) = N at *
  generalize natOf y = M at *
  generalize (⟨(b :: l).toArray⟩ : ByteArray) = s1 at *
  generalize (⟨y.toArray⟩ : ByteArray) = s2 at *
  obtain ⟨R, hR⟩ : ∃ R : Int, (N : Int) * 3600 = R := ⟨_, rfl⟩
  obtain ⟨T, hT⟩ : ∃ R : Int, (M : Int) * 60 = R := ⟨_, rfl⟩
  obtain ⟨U, hU⟩ : ∃ U : Int, R + T = U := ⟨_, rfl⟩
  have r0 : 0 ≤ R := by omega
  have r1 : R ≤ 356400 := by omega
  have t0 : 0 ≤ T := by omega
  have t1 : T ≤ 3540 := by omega
  have u0 : 0 ≤ U := by omega
  have u1 : U < 604800 := by omega
  have m0 : 0 ≤ (M : Int) := by omega
  have m1 : ¬ 60 ≤ (M : Int) := by omega
  have m2 : (M : Int) ≤ 59 := by omega
  have n0 : 0 ≤ (N : Int) := by omega
  have n1 : (N : Int) ≤ 99 := by omega
  rw [hR, hT, hU]
  have c0 := K.c0
  have c1 := K.c1
  have c2 := K.c2
  have c3 := K.c3
  have c4 := K.c4
  have c5 := K.c5
  have lg := cell_in c0
  clear hs hd hl hsp K hm hy ly ny
  simp only [List.map_cons, List.map_nil] at hS
  cases neg
  all_goals
    go_enter Tryd.func12, Tryd.ntmps12
    go_wp2_with (go_at_call 32; with_reducible refine (hC _).mono ?_; rintro e w' ⟨rfl, rfl⟩)
    refine hS.mono ?_
    rintro e w1 ⟨rfl, rfl⟩
    go_wp2_with fail
    refine wp_loop_rounds 3 ?_
    rw [rounds_succ]
    go_wp2_with ((go_at_call 34; refine (hP _).mono ?_; rintro e w2 ⟨rfl, hb⟩; obtain ⟨hc, hf⟩ := bcell hb; have z := hb.size; (try simp at z); have z0 : w.heap.size < w2.heap.size := (by omega)); have q2 : 0 < w2.heap.size := by omega)
    rw [rounds_succ]
    go_wp2_with ((go_at_call 34; refine (hP2 _).mono ?_; rintro e w3 ⟨rfl, hb⟩; obtain ⟨hc, hf⟩ := bcell hb; have z := hb.size; (try simp at z); have z0 : w.heap.size < w3.heap.size := (by omega)); have q3 : 0 < w3.heap.size := by omega)
    rw [rounds_succ]
    go_wp2_with fail
    go_ret2
    exact ⟨rfl, by (focus (repeat' (first | exact Below.refl _ _ | refine Below.alloc ?_ ?_ _ | refine Below.setCell ?_ ?_ _ | refine Below.drew ?_ | refine below_drewN ?_ _ | refine Below.trans ?_ (Below.mono (by assumption) ?_) | refine Below.trans ?_ (Below.mono (BW.below _) ?_) | (simp; done) | (simp; omega) | omega)))⟩
set_option maxRecDepth 100000 in
set_option maxHeartbeats 4000000 in
theorem amount_Read3 (neg : Bool) (b : UInt8) (l y z : List UInt8) (hd : ∀ x ∈ b :: l, isDig x) (hl : (b :: l).length ≤ 3) (hN : natOf (b :: l) ≤ 99) (hy : ∀ c ∈ y, isDig c) (ly : y.length = 2) (ny : natOf y < 60) (hz : ∀ c ∈ z, isDig c) (lz : z.length = 2) (nz : natOf z < 60) (w : World) (K : AKept w) : Calls Tryd.prog 12 #[.string (bts (sgn neg (b :: (l ++ 58 :: (y ++ 58 :: z)))))] w fun e w' => e = .returned (.tuple #[.int .i64 (sumV neg (natOf (b :: l) * 3600 + natOf y * 60 + natOf z)), .int .i64 0]) ∧ Below w.heap.size w w' := by
  have hC := fun w => cut_sgn neg b (l ++ 58 :: (y ++ 58 :: z)) (hd b (by simp)) w
  obtain ⟨m, hm⟩ := K.m
  have hS := Tryd.strings_Split (bts (b :: (l ++ 58 :: (y ++ 58 :: z)))) ⟨#[58]⟩ m w (by show (b :: (l ++ 58 :: (y ++ 58 :: z))).length < _; simp at hl ⊢; omega) hm (by decide)
  have hsp := split_three (x := b :: l) (fun c hc => dig_ne (hd c hc)) (fun c hc => dig_ne (hy c hc)) (fun c hc => dig_ne (hz c hc))
  unfold bts at hS hsp
  rw [List.cons_append] at hsp
  rw [hsp.1, hsp.2] at hS
  have hP := fun w => part_read 1 3 3600 (b :: l) hd (by simp; omega) (by omega) hl w
  have hP2 := fun w => part_read 2 2 60 y hy (by omega) (by omega) (by omega) w
  have hP3 := fun w => part_read 2 2 1 z hz (by omega) (by omega) (by omega) w
  unfold bts at hC ⊢
  generalize (⟨(sgn neg (b :: (l ++ 58 :: (y ++ 58 :: z)))).toArray⟩ : ByteArray) = S at *
  generalize hs : (⟨(b :: (l ++ 58 :: (y ++ 58 :: z))).toArray⟩ : ByteArray) = s at *
  have hse : s.toList.isEmpty = false := by rw [← hs, toList_data]; rfl
  generalize natOf (b :: l) = N at *
  generalize natOf y = M at *
  generalize natOf z = L at *
  generalize (⟨(b :: l).toArray⟩ : ByteArray) = s1 at *
  generalize (⟨y.toArray⟩ : ByteArray) = s2 at *
  generalize (⟨z.toArray⟩ : ByteArray) = s3 at *
  obtain ⟨R, hR⟩ : ∃ R : Int, (N : Int) * 3600 = R := ⟨_, rfl⟩
  obtain ⟨T, hT⟩ : ∃ R : Int, (M : Int) * 60 = R := ⟨_, rfl⟩
  obtain ⟨U, hU⟩ : ∃ U : Int, R + T = U := ⟨_, rfl⟩
  obtain ⟨X, hX⟩ : ∃ X : Int, U + (L : Int) = X := ⟨_, rfl⟩
  have r0 : 0 ≤ R := by omega
  have r1 : R ≤ 356400 := by omega
  have t0 : 0 ≤ T := by omega
  have t1 : T ≤ 3540 := by omega
  have u0 : 0 ≤ U := by omega
  have u1 : U < 604800 := by omega
  have m0 : 0 ≤ (M : Int) := by omega
  have m1 : ¬ 60 ≤ (M : Int) := by omega
  have m2 : (M : Int) ≤ 59 := by omega
  have n0 : 0 ≤ (N : Int) := by omega
  have n1 : (N : Int) ≤ 99 := by omega
  have x0 : 0 ≤ X := by omega
  have x1 : X < 604800 := by omega
  have l0 : 0 ≤ (L : Int) := by omega
  have l1 : ¬ 60 ≤ (L : Int) := by omega
  have l2 : (L : Int) ≤ 59 := by omega
  rw [hR, hT, hU, hX]
  have c0 := K.c0
  have c1 := K.c1
  have c2 := K.c2
  have c3 := K.c3
  have c4 := K.c4
  have c5 := K.c5
  have c6 := K.c6
  have c7 := K.c7
  have c8 := K.c8
  have lg := cell_in c0
  clear hs hd hl hsp K hm hy hz ly lz ny nz
  simp only [List.map_cons, List.map_nil] at hS
  cases neg
  all_goals
    go_enter Tryd.func12, Tryd.ntmps12
    go_wp2_with (go_at_call 32; with_reducible refine (hC _).mono ?_; rintro e w' ⟨rfl, rfl⟩)
    refine hS.mono ?_
    rintro e w1 ⟨rfl, rfl⟩
    go_wp2_with fail
    refine wp_loop_rounds 4 ?_
    rw [rounds_succ]
    go_wp2_with ((go_at_call 34; refine (hP _).mono ?_; rintro e w2 ⟨rfl, hb⟩; obtain ⟨hc, hf⟩ := bcell hb; have z := hb.size; (try simp at z); have z0 : w.heap.size < w2.heap.size := (by omega)); have q2 : 0 < w2.heap.size := by omega)
    rw [rounds_succ]
    go_wp2_with ((go_at_call 34; refine (hP2 _).mono ?_; rintro e w3 ⟨rfl, hb⟩; obtain ⟨hc, hf⟩ := bcell hb; have z := hb.size; (try simp at z); have z0 : w.heap.size < w3.heap.size := (by omega)); have q3 : 0 < w3.heap.size := by omega)
    rw [rounds_succ]
    go_wp2_with ((go_at_call 34; refine (hP3 _).mono ?_; rintro e w4 ⟨rfl, hb⟩; obtain ⟨hc, hf⟩ := bcell hb; have z := hb.size; (try simp at z); have z0 : w.heap.size < w4.heap.size := (by omega)); have q4 : 0 < w4.heap.size := by omega)
    rw [rounds_succ]
    go_wp2_with fail
    go_ret2
    exact ⟨rfl, by (focus (repeat' (first | exact Below.refl _ _ | refine Below.alloc ?_ ?_ _ | refine Below.setCell ?_ ?_ _ | refine Below.drew ?_ | refine below_drewN ?_ _ | refine Below.trans ?_ (Below.mono (by assumption) ?_) | refine Below.trans ?_ (Below.mono (BW.below _) ?_) | (simp; done) | (simp; omega) | omega)))⟩
end Go.Proofs.YtjddmcecllhlhaaDoor

/-
  The iterator over the parts that count in a span.
-/
import Derived.RangeFuncNested
import Derived.RangeFuncBound
import Derived.RangeFuncCalls
import Derived.RangeFuncLeaves
import Derived.RangeFuncBox
import Derived.Shelf.Abstract
import Derived.Shelf.RegionOpen
import Derived.WalkKit
import Derived.OwnWalkIn
import Derived.TacticsInMore
import Derived.LoopNIn
import Derived.LoopIn
import Derived.Maps.AppendAt
import Derived.Test.YtjddmcecllhlhaaMenA
namespace Go.Proofs.Ytjddmcecllhlhaa
open Go.RowKit Go.Shelf
attribute [local go_sem] Oper.semAt_some
instance (x : Int) : Decidable (I64 x) := by unfold I64; infer_instance
/-- What the iterator hands on: how long, and the value. -/
abbrev Ct := { x : Int × Int // 1 ≤ x.1 ∧ x.1 ≤ 18446744073709551616 ∧ I64 x.2 }
def meetP (a b : Int) (p : Pt) : Bool := meetB p.1 p.2.1 a b
def ctRaw (a b : Int) (p : Pt) : Int × Int := (bothT p.1 p.2.1 a b - bothF p.1 p.2.1 a b, p.2.2)
def ct (a b : Int) (p : Pt) : Ct := if h : 1 ≤ (ctRaw a b p).1 ∧ (ctRaw a b p).1 ≤ 18446744073709551616 ∧ I64 (ctRaw a b p).2 then ⟨ctRaw a b p, h⟩ else ⟨(1, 0), by omega, by omega, by unfold I64; omega⟩
def PtI (p : Pt) : Prop := I64 p.1 ∧ I64 p.2.1 ∧ I64 p.2.2
theorem meet_bd {f t a b : Int} (h : meetB f t a b = true) (hf : I64 f) (ht : I64 t) : I64 (bothF f t a b) ∧ I64 (bothT f t a b) ∧ bothF f t a b < bothT f t a b ∧ f ≤ bothF f t a b ∧ bothT f t a b ≤ t := by
  unfold bothF bothT
  rw [h]
  simp only [if_true]
  unfold meetB at h
  simp only [decide_eq_true_eq] at h
  unfold I64 at *
  omega
theorem ct_val {a b : Int} {p : Pt} (h : meetP a b p = true) (hp : PtI p) : (ct a b p).1 = ctRaw a b p := by
  obtain ⟨h1, h2, h3, _, _⟩ := meet_bd h hp.1 hp.2.1
  have : 1 ≤ (ctRaw a b p).1 ∧ (ctRaw a b p).1 ≤ 18446744073709551616 ∧ I64 (ctRaw a b p).2 := by
    refine ⟨?_, ?_, hp.2.2⟩
    · show 1 ≤ bothT p.1 p.2.1 a b - bothF p.1 p.2.1 a b
      omega
    · show bothT p.1 p.2.1 a b - bothF p.1 p.2.1 a b ≤ _
      unfold I64 at h1 h2
      omega
  unfold ct
  rw [dif_pos this]
/-- What has come when k rounds are over. -/
def cnt (l : List Pt) (a b : Int) (k : Nat) : List Ct := ((l.take k).filter (meetP a b)).map (ct a b)
theorem cnt_take {l : List Pt} {k : Nat} (hk : k < l.length) : l.take (k + 1) = l.take k ++ [pt l k] := by
  rw [List.take_succ_eq_append_getElem hk, pt_get hk]
theorem cnt_y {l : List Pt} {a b : Int} {k : Nat} (hk : k < l.length) (h : meetP a b (pt l k) = true) : cnt l a b (k + 1) = cnt l a b k ++ [ct a b (pt l k)] := by
  unfold cnt
  rw [cnt_take hk]
  simp [h]
theorem cnt_n {l : List Pt} {a b : Int} {k : Nat} (hk : k < l.length) (h : meetP a b (pt l k) = false) : cnt l a b (k + 1) = cnt l a b k := by
  unfold cnt
  rw [cnt_take hk]
  simp [h]
theorem cnt_len (l : List Pt) (a b : Int) (k : Nat) : (cnt l a b k).length ≤ k := by
  unfold cnt
  rw [List.length_map]
  exact Nat.le_trans (List.length_filter_le _ _) (by simp; omega)
theorem grown_of_below {W W' : World} (h : Below W.heap.size W W') : W.grownBy W' none := ⟨h.os, h.tape, h.output, h.size, fun k hk _ => h.block k hk⟩
theorem u64_sub {T F : Int} (hF : I64 F) (hT : I64 T) (h : F < T) : IntKind.u64.wrap (IntKind.u64.wrap T - IntKind.u64.wrap F) = T - F := by
  unfold I64 at hF hT
  simp [IntKind.wrap, IntKind.bits, IntKind.signed]
  omega
def ctEnc (x : Ct) : Array Value := #[.float .f64 (Go.floatOfInt .f64 x.1.1), .int .i64 x.1.2]

/-- What a round that goes on keeps: what lay below n₀, and the one block. -/
def Kb (n₀ B : Nat) (W W' : World) : Prop := Below n₀ W W' ∧ W'.heap[B]? = W.heap[B]?
theorem Kb.t {n₀ B : Nat} {X Y Z : World} (h : Kb n₀ B X Y) (k : Kb n₀ B Y Z) : Kb n₀ B X Z := ⟨h.1.trans k.1, k.2.trans h.2⟩
theorem Kb.b {n₀ B : Nat} {w : World} (hn : n₀ ≤ w.heap.size) (hB : B < w.heap.size) (W : World) (l : Nat) (o o' : Obj) (hl : w.heap.size ≤ l) (h : W.heap[l]? = some o) (h1 : o.isCells = false) (h2 : o.isWalk = false) : Kb n₀ B W (W.putObj l o') :=
  ⟨belowK_b hn W l o o' hl h h1 h2, World.putObj_heap_other (fun e => by omega)⟩
theorem Kb.cell {n₀ B o : Nat} {W W' : World} (h : Kb n₀ B W W') : W'.cell? ⟨B, o, none⟩ = W.cell? ⟨B, o, none⟩ := World.cell?_of_block h.2
theorem Kb.of_below {n₀ B : Nat} {W W' : World} (h : Below W.heap.size W W') (hn : n₀ ≤ W.heap.size) (hB : B < W.heap.size) : Kb n₀ B W W' := ⟨h.mono hn, h.block B hB⟩
theorem mean_counts (p : Option Addr) (len cap : Nat) (a b : Int) (w : World) : Calls Try.prog 18 #[.slice p len cap, spn a b] w fun e w' => e = .returned (.func (.func 25) #[] #[.pointer (some ⟨w.heap.size, 0, none⟩), .pointer (some ⟨w.heap.size + 1, 0, none⟩)]) ∧ w' = (w.alloc (.cells #[.slice p len cap] 31)).alloc (.cells #[.int .i64 a, .int .i64 b] 24) := by
  go_enter Try.func18, Try.ntmps18
  go_wp2
  go_ret
  exact ⟨rfl, rfl⟩

set_option maxRecDepth 100000 in
set_option maxHeartbeats 2000000 in
theorem counts1_in (n : Nat) (hn : 1 ≤ n) (lp Bl Bs n₀ : Nat) (bk off cap : Nat) (l : List Pt) (a b : Int) (hl : l.length ≤ 1000000000000000) (hI : ∀ k, k < l.length → PtI (pt l k)) (hb : bk < n₀) (J Jx : List Ct → World → Prop)
    (W : World) (hn0 : n₀ ≤ W.heap.size) (hs0 : Bs < W.heap.size) (hJ : AbidesFrom W.heap.size J)
    (hY : ∀ pre x W, J pre W → pre.length < l.length → YieldAt Fence.wide (n - 1) Try.prog lp (ctEnc x) W fun e W' =>
      (e = .returned (.bool true) ∧ J (pre ++ [x]) W' ∧ Kb n₀ Bs W W') ∨ (e = .returned (.bool false) ∧ Jx (pre ++ [x]) W'))
    (hBl : W.cell? ⟨Bl, 0, none⟩ = some (.slice (some ⟨bk, off, none⟩) l.length cap)) (hs1 : W.cell? ⟨Bs, 0, none⟩ = some (.int .i64 a)) (hs2 : W.cell? ⟨Bs, 1, none⟩ = some (.int .i64 b)) (hc : PtAt W bk off l) (h0 : J [] W) :
    CallsIn Fence.wide n Try.prog 25 #[.func (.yield lp) #[] #[], .pointer (some ⟨Bl, 0, none⟩), .pointer (some ⟨Bs, 0, none⟩)] W fun e W' => (∃ v, e = .returned v) ∧
      ((∃ ys, ys = cnt l a b l.length ∧ J ys W') ∨ (∃ pre, (∃ k, k ≤ l.length ∧ pre = cnt l a b k) ∧ Jx pre W')) := by
  have HC := Lib.hid hc
  have HI := Lib.hid hI
  have HY := Lib.hid hY
  have HJ := Lib.hid hJ
  clear hc hI hY hJ
  refine callsIn_of_wp Try.func25 rfl trivial ?_ rfl
  simp only [Try.ntmps25, List.size_toArray, List.length_cons, List.length_nil, Nat.reduceAdd, Nat.reduceSub, Array.replicate_succ, Array.replicate_zero, List.push_toArray, List.append_toArray, List.nil_append, List.cons_append]
  gi_wp2
  gi_loopw [10] (fun i wr => ∃ k : Nat, k ≤ l.length ∧ i = .int .i64 k ∧ J (cnt l a b k) wr ∧ Kb n₀ Bs W wr)
    (fun i _ => l.length - (intOf i).toNat)
  case atStart => exact ⟨0, Nat.zero_le _, rfl, h0, Below.refl _ _, rfl⟩
  case round =>
    obtain ⟨k, hk, rfl, hJs, hnx⟩ := hrel
    by_cases hlt : k < l.length
    · obtain ⟨c0, c1, c2⟩ := HC.out k hlt
      have zr : n₀ ≤ wr.heap.size := Nat.le_trans hn0 hnx.1.size
      have d0 := (hnx.1.cell (p := ⟨bk, off + k * 3, none⟩) hb).trans c0
      have d1 := (hnx.1.cell (p := ⟨bk, off + k * 3 + 1, none⟩) hb).trans c1
      have d2 := (hnx.1.cell (p := ⟨bk, off + k * 3 + 2, none⟩) hb).trans c2
      have sa := hnx.cell.trans hs1
      have sb := hnx.cell.trans hs2
      clear c0 c1 c2
      have zBs : Bs < wr.heap.size := Nat.lt_of_lt_of_le hs0 hnx.1.size
      have zbk : bk < wr.heap.size := Nat.lt_of_lt_of_le hb zr
      have hR := fun w => span_Both (pt l k).1 (pt l k).2.1 a b w
      have hpi := HI.out k hlt
      have hlen : (cnt l a b k).length < l.length := Nat.lt_of_le_of_lt (cnt_len l a b k) hlt
      have HYk := Lib.hid (fun W1 h => HY.out (cnt l a b k) (ct a b (pt l k)) W1 h hlen)
      have b0 : (k : Int) < (l.length : Int) := by omega
      have b1 : 0 ≤ (k : Int) := by omega
      cases hm : meetP a b (pt l k)
      · have hc1 := cnt_n hlt hm
        unfold meetP at hm
        rw [hm] at hR
        generalize bothF (pt l k).1 (pt l k).2.1 a b = F at *
        generalize bothT (pt l k).1 (pt l k).2.1 a b = T at *
        clear HYk hpi hm hlen
        generalize (pt l k).1 = f at *
        generalize (pt l k).2.1 = t at *
        generalize (pt l k).2.2 = v at *
        gi_wp2_with (refine ⟨trivial, ?_⟩; gi_at_call 26; refine (callsIn_wide.2 (hR _)).mono ?_; rintro e w1 ⟨rfl, hb1⟩; have v1 : w1.cell? ⟨wr.heap.size, 2, none⟩ = some (.int .i64 v) := (hb1.cell (p := ⟨wr.heap.size, 2, none⟩) (by simp)).trans (by go_simp); have z1 : wr.heap.size < w1.heap.size := Nat.lt_of_lt_of_le (by simp) hb1.size; have B1 : Below wr.heap.size wr w1 := (Below.alloc (Below.refl _ _) (Nat.le_refl _) _).trans (hb1.mono (by simp)))
        have BY : Below wr.heap.size wr (w1.alloc (.cells #[.int .i64 F, .int .i64 T] 24)) := B1.alloc (by omega) _
        have hJ2 := HJ.out _ wr _ none hJs (grown_of_below BY) (fun r e => by cases e)
        refine ⟨fun _ h => (by cases h), ?_⟩
        gi_wp2
        go_roundw
        case rel => exact ⟨k + 1, by omega, by go_num, by rw [hc1]; exact hJ2, hnx.t (Kb.of_below BY zr zBs)⟩
        case measure => simp [intOf]; omega
      · have hc1 := cnt_y hlt hm
        have hv := ct_val hm hpi
        obtain ⟨m1, m2, m3, _, _⟩ := meet_bd hm hpi.1 hpi.2.1
        have hen : ctEnc (ct a b (pt l k)) = #[.float .f64 (Go.floatOfInt .f64 (bothT (pt l k).1 (pt l k).2.1 a b - bothF (pt l k).1 (pt l k).2.1 a b)), .int .i64 (pt l k).2.2] := by unfold ctEnc; rw [hv]; rfl
        unfold meetP at hm
        rw [hm] at hR
        generalize ct a b (pt l k) = cx at *
        clear hv hpi hm
        generalize bothF (pt l k).1 (pt l k).2.1 a b = F at *
        generalize bothT (pt l k).1 (pt l k).2.1 a b = T at *
        generalize (pt l k).1 = f at *
        generalize (pt l k).2.1 = t at *
        generalize (pt l k).2.2 = v at *
        gi_wp2_with fail
        refine ⟨trivial, ?_⟩
        refine (callsIn_wide.2 (hR _)).mono ?_
        rintro e w1 ⟨rfl, hb1⟩
        have v1 : w1.cell? ⟨wr.heap.size, 2, none⟩ = some (.int .i64 v) := (hb1.cell (p := ⟨wr.heap.size, 2, none⟩) (by simp)).trans (by go_simp)
        have z1 : wr.heap.size < w1.heap.size := Nat.lt_of_lt_of_le (by simp) hb1.size
        have B1 : Below wr.heap.size wr w1 := (Below.alloc (Below.refl _ _) (Nat.le_refl _) _).trans (hb1.mono (by simp))
        have BY : Below wr.heap.size wr (w1.alloc (.cells #[.int .i64 F, .int .i64 T] 24)) := B1.alloc (by omega) _
        obtain ⟨fn, tmps, assign, body, hy, hR2⟩ := HYk.out _ (HJ.out _ wr _ none hJs (grown_of_below BY) (fun r e => by cases e))
        rw [hen] at hy
        have u0 := u64_sub m1 m2 m3
        gi_wp2
        refine hR2.mono ?_
        rintro e W3 (⟨rfl, hJ3, hk3⟩ | ⟨rfl, hJx3⟩)
        · gi_wp2
          go_roundw
          case rel => exact ⟨k + 1, by omega, by go_num, by rw [hc1]; exact hJ3, (hnx.t (Kb.of_below BY zr zBs)).t hk3⟩
          case measure => simp [intOf]; omega
        · gi_wp2
          refine bodyPost_ret (results_none rfl _ _ _) rfl ?_
          exact ⟨⟨_, rfl⟩, .inr ⟨_, ⟨k + 1, by omega, hc1.symm⟩, hJx3⟩⟩
    · obtain rfl : k = l.length := by omega
      gi_wp2
      go_end0
      exact ⟨⟨_, rfl⟩, .inl ⟨_, rfl, hJs⟩⟩
set_option maxRecDepth 100000 in
set_option maxHeartbeats 1000000 in
theorem counts1_nil (n : Nat) (lp Bl Bs : Nat) (p : Option Addr) (cap : Nat) (J : List Ct → World → Prop) (W : World) (hBl : W.cell? ⟨Bl, 0, none⟩ = some (.slice p 0 cap)) (h0 : J [] W) :
    CallsIn Fence.wide n Try.prog 25 #[.func (.yield lp) #[] #[], .pointer (some ⟨Bl, 0, none⟩), .pointer (some ⟨Bs, 0, none⟩)] W fun e W' => (∃ v, e = .returned v) ∧ J [] W' := by
  refine callsIn_of_wp Try.func25 rfl trivial ?_ rfl
  simp only [Try.ntmps25, List.size_toArray, List.length_cons, List.length_nil, Nat.reduceAdd, Nat.reduceSub, Array.replicate_succ, Array.replicate_zero, List.push_toArray, List.append_toArray, List.nil_append, List.cons_append]
  gi_wp2
  gi_loopw [10] (fun i wr => i = .int .i64 0 ∧ J [] wr) (fun _ _ => 0)
  case atStart => exact ⟨rfl, h0⟩
  case round =>
    obtain ⟨rfl, hJs⟩ := hrel
    gi_wp2
    go_end0
    exact ⟨⟨_, rfl⟩, hJs⟩
/-- The iterator's contract: all that count, in their order; or the first of them. -/
theorem counts_stops (n : Nat) (hn : 1 ≤ n) (Bl Bs n₀ : Nat) (p : Option Addr) (cap : Nat) (l : List Pt) (a b : Int) (hl : l.length ≤ 1000000000000000) (hI : ∀ k, k < l.length → PtI (pt l k)) (w : World) (hn0 : n₀ ≤ w.heap.size) (hBl : Bl < w.heap.size) (hBs : Bs < w.heap.size)
    (h1 : w.cell? ⟨Bl, 0, none⟩ = some (.slice p l.length cap)) (h2 : w.cell? ⟨Bs, 0, none⟩ = some (.int .i64 a)) (h3 : w.cell? ⟨Bs, 1, none⟩ = some (.int .i64 b)) (hp : l = [] ∨ ∃ bk off, p = some ⟨bk, off, none⟩ ∧ bk < n₀ ∧ PtAt w bk off l) :
    SeqStopsK Fence.wide n Try.prog 25 #[.pointer (some ⟨Bl, 0, none⟩), .pointer (some ⟨Bs, 0, none⟩)] ctEnc (Kb n₀ Bs) (fun ys => ys = cnt l a b l.length) (fun pre => ∃ k, k ≤ l.length ∧ pre = cnt l a b k) l.length w := fun lp J Jx W hW hJ _ hY h0 => by
  have h1' := (hW.cell (p := ⟨Bl, 0, none⟩) hBl).trans h1
  have h2' := (hW.cell (p := ⟨Bs, 0, none⟩) hBs).trans h2
  have h3' := (hW.cell (p := ⟨Bs, 1, none⟩) hBs).trans h3
  rcases hp with rfl | ⟨bk, off, rfl, hb, hc⟩
  · exact (counts1_nil n lp Bl Bs p cap J W h1' h0).mono fun e W' ⟨he, hj⟩ => ⟨he, .inl ⟨_, rfl, hj⟩⟩
  · exact counts1_in n hn lp Bl Bs n₀ bk off cap l a b hl hI hb J Jx W (Nat.le_trans hn0 hW.size) (Nat.lt_of_lt_of_le hBs hW.size) hJ hY h1' h2' h3' (hc.below hW (Nat.lt_of_lt_of_le hb hn0)) h0
end Go.Proofs.Ytjddmcecllhlhaa

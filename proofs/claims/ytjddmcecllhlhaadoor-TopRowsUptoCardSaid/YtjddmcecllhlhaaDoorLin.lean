/-
  strings.Lines over lines that end in a feed.
-/
import Derived.Test.YtjddmcecllhlhaaDoorRng
import Derived.Test.YtjddmcecllhlhaaDoorRol
namespace Go.Proofs.YtjddmcecllhlhaaDoor
open Go.RowKit Go.Shelf
attribute [local go_sem] Oper.semAt_some
/-- A line that is handed on. -/
abbrev Ln := { x : ByteArray // x.size ≤ 1048576 }
def lnEnc (x : Ln) : Array Value := #[.string x.1]
def fed (x : ByteArray) : ByteArray := ⟨(x.data.toList ++ [10]).toArray⟩
/-- Lines without feeds. -/
def NoFeed (l : List ByteArray) : Prop := ∀ x ∈ l, x.size ≤ 2000 ∧ ∀ b ∈ x.data.toList, b ≠ 10
def fedL (x : ByteArray) : Ln := if h : (fed x).size ≤ 1048576 then ⟨fed x, h⟩ else ⟨⟨#[]⟩, by decide⟩
theorem fedL_val {x : ByteArray} (h : x.size ≤ 2000) : (fedL x).1 = fed x := by
  have hs : (fed x).size = x.size + 1 := by
    show (x.data.toList ++ [10]).length = _
    rw [List.length_append]
    have : x.data.toList.length = x.size := by simp
    simp only [List.length_cons, List.length_nil]
    omega
  unfold fedL
  rw [dif_pos (by omega)]
theorem lnl_drop {l : List ByteArray} {k : Nat} {x : ByteArray} (h : l[k]? = some x) : lnl (l.drop k) = x.data.toList ++ 10 :: lnl (l.drop (k + 1)) := by
  obtain ⟨hk, rfl⟩ := List.getElem?_eq_some_iff.1 h
  have e := List.drop_eq_getElem_cons hk
  rw [e]
  unfold lnl
  rw [List.map_cons, List.flatten_cons, List.append_assoc]
  rfl
theorem index_first {x r : List UInt8} {c : UInt8} (h : ∀ b ∈ x, b ≠ c) : Lib.indexByte (x ++ c :: r) c = x.length := by
  induction x with
  | nil => simp [Lib.indexByte]
  | cons y x ih =>
    have h1 := ih (fun b hb => h b (List.mem_cons_of_mem _ hb))
    have hy := h y List.mem_cons_self
    have : (((x.length : Int) == -1)) = false := by
      rw [beq_eq_false_iff_ne]
      omega
    rw [List.cons_append, Lib.indexByte, if_neg (by simpa using hy), h1, if_neg (by rw [this]; decide), List.length_cons]
    omega
theorem ext_is (s : ByteArray) (a b : Nat) (l : List UInt8) (h : (s.data.toList.drop a).take (b - a) = l) : s.extract a b = ⟨l.toArray⟩ := by
  apply ByteArray.ext
  apply Array.ext'
  rw [ByteArray.data_extract]
  simp
  exact h
theorem strings_Lines (s : ByteArray) (w : World) : Calls Tryd.prog 23 #[.string s] w fun e w' => e = .returned (.func (.func 54) #[] #[.pointer (some ⟨w.heap.size, 0, none⟩)]) ∧ w' = w.alloc (.cells #[.string s] 9) := by
  go_enter Tryd.func23, Tryd.ntmps23
  go_wp2
  go_ret
  exact ⟨rfl, rfl⟩
/-- How long the text in the cell is. -/
def cellLen (w : World) (b : Nat) : Nat := match w.cell? ⟨b, 0, none⟩ with | some (.string s) => s.size | _ => 0
theorem cellLen_is {w : World} {b : Nat} {s : ByteArray} (h : w.cell? ⟨b, 0, none⟩ = some (.string s)) : cellLen w b = s.size := by unfold cellLen; rw [h]
set_option maxRecDepth 100000 in
set_option maxHeartbeats 4000000 in
theorem lines_in (n : Nat) (hn : 1 ≤ n) (lp Bs : Nat) (l : List ByteArray) (hl : l.length ≤ 40) (hf : NoFeed l) (J : List Ln → World → Prop) (W : World) (hBs : Bs < W.heap.size) (hJ : ∀ s A B, J s A → A.grownBy B (some Bs) → J s B)
    (hY : ∀ pre x W1, J pre W1 → pre.length < l.length → YieldAt Fence.wide (n - 1) Tryd.prog lp (lnEnc x) W1 fun e W' => e = .returned (.bool true) ∧ J (pre ++ [x]) W' ∧ W1.heap.size ≤ W'.heap.size ∧ W'.heap[Bs]? = W1.heap[Bs]?)
    (h0 : J [] W) (hc : W.cell? ⟨Bs, 0, none⟩ = some (.string ⟨(lnl l).toArray⟩)) (hz : W.frozen? ⟨Bs, 0, none⟩ = false) :
    CallsIn Fence.wide n Tryd.prog 54 #[.func (.yield lp) #[] #[], .pointer (some ⟨Bs, 0, none⟩)] W fun e W' => (∃ v, e = .returned v) ∧ ∃ xs, xs = l.map fedL ∧ J xs W' := by
  have HY := Lib.hid hY
  have HJ := Lib.hid hJ
  have HF := Lib.hid hf
  clear hY hJ hf
  refine callsIn_of_wp Tryd.func54 rfl trivial ?_ rfl
  simp only [Tryd.ntmps54, List.size_toArray, List.length_cons, List.length_nil, Nat.reduceAdd, Nat.reduceSub, Array.replicate_succ, Array.replicate_zero, List.push_toArray, List.append_toArray, List.nil_append, List.cons_append]
  gi_wp2
  gi_loopw [3, 4] (fun _ _ wr => ∃ k : Nat, k ≤ l.length ∧ wr.cell? ⟨Bs, 0, none⟩ = some (.string ⟨(lnl (l.drop k)).toArray⟩) ∧ wr.frozen? ⟨Bs, 0, none⟩ = false ∧ Bs < wr.heap.size ∧ J ((l.take k).map fedL) wr) (fun _ _ wr => cellLen wr Bs)
  case atStart => exact ⟨0, Nat.zero_le _, by rw [List.drop_zero]; exact hc, hz, hBs, h0⟩
  case round =>
    clear hc hz hBs
    obtain ⟨k, hk, hc, hz, hb, hJk⟩ := hrel
    by_cases hlt : k < l.length
    · obtain ⟨x, hx⟩ : ∃ x, l[k]? = some x := ⟨l[k], List.getElem?_eq_getElem hlt⟩
      have hxf := HF.out x (List.mem_of_getElem? hx)
      have hx2 := hxf.1
      have hS := lnl_drop hx
      have hfv := fedL_val hxf.1
      have hfsz : x.data.toList.length = x.size := by simp
      obtain ⟨s, hs⟩ : ∃ s : ByteArray, s = ⟨(lnl (l.drop k)).toArray⟩ := ⟨_, rfl⟩
      obtain ⟨r, hr⟩ : ∃ r : ByteArray, r = ⟨(lnl (l.drop (k + 1))).toArray⟩ := ⟨_, rfl⟩
      have hsl : s.data.toList = x.data.toList ++ 10 :: r.data.toList := by rw [hs, hr]; exact hS
      have hsz : s.size = x.size + 1 + r.size := by
        have := congrArg List.length hsl
        simp at this
        have h2 : s.data.toList.length = s.size := by simp
        simp at h2
        omega
      have hix := index_first (r := r.data.toList) hxf.2
      rw [← hsl, hfsz] at hix
      have hI := fun w => Tryd.strings_IndexByte s 10 w
      rw [show (10 : Int).toNat.toUInt8 = 10 by decide, hix] at hI
      have e1 : s.extract 0 (x.size + 1) = (fedL x).1 := by
        rw [hfv]
        refine ext_is s 0 (x.size + 1) _ ?_
        rw [hsl, List.drop_zero, Nat.sub_zero, show x.data.toList ++ 10 :: r.data.toList = (x.data.toList ++ [10]) ++ r.data.toList by simp]
        exact List.take_left' (by rw [List.length_append, hfsz]; rfl)
      have e2 : s.extract (x.size + 1) s.size = r := by
        refine (ext_is s (x.size + 1) s.size r.data.toList ?_).trans (by cases r; simp)
        rw [hsl, show x.data.toList ++ 10 :: r.data.toList = (x.data.toList ++ [10]) ++ r.data.toList by simp, List.drop_left' (by rw [List.length_append, hfsz]; rfl)]
        exact List.take_of_length_le (by simp; omega)
      rw [← hs] at hc
      rw [hsz] at e2
      clear hs hsl hix hS hfv hfsz
      have HK := Lib.hid hx
      have HR := Lib.hid hr
      clear hx hr hxf
      have hX : (x.size : Int) + 1 ≤ (s.size : Int) := by omega
      have hX0 : (0 : Int) < (s.size : Int) := by omega
      have hX1 : x.size ≤ 2000 := hx2
      generalize hA : (fedL x) = A at *
      have HA := Lib.hid hA
      clear hA
      generalize x.size = X at *
      have HYk := Lib.hid (fun W1 h => HY.out ((l.take k).map fedL) A W1 h (by simp; omega))
      gi_wp2_with fail
      refine ⟨trivial, ?_⟩
      refine (callsIn_wide.2 (hI _)).mono ?_
      rintro e w1 ⟨rfl, rfl⟩
      gi_wp2_with fail
      gi_region
      have hg : w1.grownBy ((w1.setCell ⟨Bs, 0, none⟩ (.string r)).drew) (some Bs) := ⟨rfl, rfl, rfl, by simp, fun k _ hne => Below.heap_setCell _ _ _ _ (fun e => hne (by rw [e]))⟩
      have c2 : ((w1.setCell ⟨Bs, 0, none⟩ (.string r)).drew).cell? ⟨Bs, 0, none⟩ = some (.string r) := by go_simp
      have z2 : ((w1.setCell ⟨Bs, 0, none⟩ (.string r)).drew).frozen? ⟨Bs, 0, none⟩ = false := by go_simp
      have b2 : Bs < ((w1.setCell ⟨Bs, 0, none⟩ (.string r)).drew).heap.size := by simpa using hb
      have j2 := HJ.out _ _ _ hJk hg
      have m1 := cellLen_is hc
      clear hc hz hb hJk hI e1 e2 hg
      generalize (w1.setCell ⟨Bs, 0, none⟩ (.string r)).drew = w2 at *
      obtain ⟨fn, tmps, assign, body, hy, hR2⟩ := HYk.out _ j2
      unfold lnEnc at hy
      gi_wp2_with fail
      refine hR2.mono ?_
      rintro e W3 ⟨rfl, hJ3, hz3, hb3⟩
      have c3 := (World.cell?_of_block (a := ⟨Bs, 0, none⟩) hb3).trans c2
      have z3 := (World.frozen?_of_block (a := ⟨Bs, 0, none⟩) hb3).trans z2
      gi_wp2_with fail
      go_roundw
      case rel => exact ⟨k + 1, by omega, by rw [c3, HR.out], z3, by omega, by
        have e : l.take (k + 1) = l.take k ++ [x] := by
          obtain ⟨h1, h2⟩ := List.getElem?_eq_some_iff.1 HK.out
          rw [List.take_succ_eq_append_getElem h1, h2]
        rw [e, List.map_append, List.map_cons, List.map_nil, HA.out]
        exact hJ3⟩
      case measure => rw [cellLen_is c3, m1]; omega
    · obtain rfl : k = l.length := by omega
      rw [List.drop_length] at hc
      have hc' : wr.cell? ⟨Bs, 0, none⟩ = some (.string ⟨#[]⟩) := hc
      clear hc
      rw [List.take_length] at hJk
      gi_wp2_with fail
      go_end0
      exact ⟨⟨_, rfl⟩, _, rfl, hJk⟩
end Go.Proofs.YtjddmcecllhlhaaDoor

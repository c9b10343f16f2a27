/-
  A slice of parts that came in, opened.
-/
import Derived.Test.YtlnfffenahjcnaaMenA
import Derived.Test.YtlnfffenahjcnaaMenB
import Derived.Deep.Slices
import Derived.WideKeyArgs
import Derived.Lib.SmallJoins
namespace Go.Proofs.Ytlnfffenahjcnaa
open Go.RowKit Go.ChangeShapes Go.WideShapes Go.Deep
theorem choose_pts {p : Nat → Pt → Prop} : ∀ n : Nat, (∀ i, i < n → ∃ b, p i b) → ∃ l : List Pt, l.length = n ∧ ∀ i, i < l.length → p i (pt l i)
  | 0, _ => ⟨[], rfl, fun i hi => by simp at hi⟩
  | n + 1, h => by
    obtain ⟨l, hl, hp⟩ := choose_pts n (fun i hi => h i (by omega))
    obtain ⟨b, hb⟩ := h n (by omega)
    refine ⟨l ++ [b], by simp [hl], fun i hi => ?_⟩
    unfold pt
    rw [List.getElem?_append]
    split
    · exact hp i (by assumption)
    · have : i = n := by simp at hi; omega
      subst this
      simpa [hl] using hb
set_option maxRecDepth 100000 in
theorem part_cells {H : Type} {enc : TypeId × Value → H} {w : World} {base : Nat} {sp : Nat → Bool} {hd : Bool} {n : Nat} {cs : List Value} {x : DataW H × List MemPlace} (h : DataW.trod enc Try.prog w base sp hd n 39 cs = some x) :
    ∃ a b c, cs = [.int .i64 a, .int .i64 b, .int .i64 c] ∧ PtI (a, b, c) := by
  have c1 : Try.prog.cellsOf 2 = 1 := by kernel_rfl
  have c2 : Try.prog.cellsOf 24 = 2 := by kernel_rfl
  have c3 : Try.prog.cellsOf 39 = 3 := by kernel_rfl
  obtain ⟨y0, y1, n1, _, hl, h0, h1⟩ := trod_struct2 Try.underlying39 h
  rw [c3] at hl
  match cs, hl with
  | [u0, u1, u2], _ =>
    rw [c2] at h0
    rw [c1] at h1
    simp at h0 h1
    obtain ⟨z0, z1, n2, _, _, k0, k1⟩ := trod_struct2 Try.underlying24 h0
    rw [c1] at k0 k1
    simp at k0 k1
    obtain ⟨a, e0, _, w0⟩ := DataW.trod_int Try.underlying2 k0
    obtain ⟨b, e1, _, w1⟩ := DataW.trod_int Try.underlying2 k1
    obtain ⟨c, e2, _, w2⟩ := DataW.trod_int Try.underlying2 h1
    simp at e0 e1 e2
    subst e0 e1 e2
    exact ⟨a, b, c, rfl, I64.of_wf w0, I64.of_wf w1, I64.of_wf w2⟩
set_option maxRecDepth 100000 in
theorem parts_of {H : Type} {enc : TypeId × Value → H} {w : World} {v : Value} {d : DataW H} {ps : List MemPlace} (hv : ∃ a len cap, v = .slice a len cap) (h : DataW.Trod enc Try.prog w 0 (fun _ => true) true 22 v d ps) :
    ∃ (p : Option Addr) (cap : Nat) (l : List Pt), v = .slice p l.length cap ∧ (∀ k, k < l.length → PtI (pt l k)) ∧ PtS w p l := by
  have c3 : Try.prog.cellsOf 39 = 3 := by kernel_rfl
  obtain ⟨a, len, cap, rfl⟩ := hv
  obtain ⟨n, hn⟩ := h
  rcases open_slice Try.underlying22 (by simpa [Value.cells] using hn) with ⟨hcs, _⟩ | ⟨a', len', cap', m, n', D, Pl, hcs, _, hl, hm, hmm, _, hcell⟩
  · simp at hcs
    obtain ⟨rfl, rfl, rfl⟩ := hcs
    exact ⟨none, 0, [], rfl, fun k hk => by simp at hk, .inl rfl⟩
  · simp at hcs
    obtain ⟨rfl, rfl, rfl⟩ := hcs
    simp at hmm
    subst hmm
    rw [c3] at hcell
    obtain ⟨l, hll, hp⟩ := choose_pts (p := fun i b => PtI b ∧ w.cell? (a'.add (i * 3)) = some (.int .i64 b.1) ∧ w.cell? (a'.add (i * 3 + 1)) = some (.int .i64 b.2.1) ∧ w.cell? (a'.add (i * 3 + 2)) = some (.int .i64 b.2.2)) len (fun i hi => by
      obtain ⟨cs', h1, h2⟩ := hcell i (by omega)
      obtain ⟨x, y, z, rfl, hI⟩ := part_cells h2
      obtain ⟨_, _, hc⟩ := World.cells?_some h1
      exact ⟨(x, y, z), hI, by simpa [Addr.add_add] using hc 0 (by simp), by simpa [Addr.add_add] using hc 1 (by simp), by simpa [Addr.add_add] using hc 2 (by simp)⟩)
    subst hll
    refine ⟨some a', _, l, rfl, fun k hk => (hp k hk).1, ?_⟩
    by_cases h0 : l = []
    · exact .inl h0
    · refine .inr ?_
      have hpos : 0 < l.length := List.length_pos_iff.2 h0
      obtain ⟨b, o, k⟩ := a'
      have hc0 := (hp 0 hpos).2.1
      have hs : k = none := by simpa [Addr.add] using World.cell?_spot hc0
      subst hs
      have hlt : b < w.heap.size := by
        simp [Addr.add, World.cell?] at hc0
        split at hc0
        · rename_i hb; exact (Array.getElem?_eq_some_iff.1 hb).1
        · cases hc0
      exact ⟨b, o, rfl, hlt, fun i hi => by obtain ⟨_, k1, k2, k3⟩ := hp i hi; rw [add_plain] at k1 k2 k3; exact ⟨k1, by rw [← Nat.add_assoc] at k2; exact k2, by rw [← Nat.add_assoc] at k3; exact k3⟩⟩
/-- How long it can be. -/
theorem parts_len {H : Type} {enc : TypeId × Value → H} {w : World} {p : Option Addr} {len cap : Nat} {d : DataW H} {ps : List MemPlace} (h : DataW.Trod enc Try.prog w 0 (fun _ => true) true 22 (.slice p len cap) d ps) (hz : (DataW.weights Try.prog 22 d).all (· ≤ reachBytes) = true) : len ≤ 6000000000000 := by
  have hb : Try.prog.bytesOf 39 = 24 := by kernel_rfl
  obtain ⟨n, hn⟩ := h
  rcases open_slice Try.underlying22 (by simpa [Value.cells] using hn) with ⟨hcs, _⟩ | ⟨a', len', cap', m, n', D, Pl, hcs, _, hl, hm, hmm, hx, hcell⟩
  · simp at hcs
    omega
  · simp at hcs
    obtain ⟨rfl, rfl, rfl⟩ := hcs
    obtain rfl := congrArg Prod.fst hx
    simp only [DataW.weights, Try.underlying22, hb, List.all_cons, Bool.and_eq_true, decide_eq_true_eq, List.length_map, List.length_range] at hz
    have := hz.1
    unfold reachBytes at this
    omega
end Go.Proofs.Ytlnfffenahjcnaa

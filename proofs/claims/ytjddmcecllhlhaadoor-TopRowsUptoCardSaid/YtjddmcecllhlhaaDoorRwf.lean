/-
  A slice of slices of strings that came in, opened; a row with a condition of its own.
-/
import Derived.Test.YtjddmcecllhlhaaDoorRws
import Derived.Test.YtjddmcecllhlhaaDoorRows
import Derived.Deep.Slices
import Derived.SliceStrings
import Derived.WideKeyArgs
import Derived.Lib.SmallJoins
import Derived.JoinedCond
import Derived.LaidMore
namespace Go.Proofs.YtjddmcecllhlhaaDoor
open Go.RowKit Go.ChangeShapes Go.WideShapes Go.Deep
theorem choose_list {α : Type} {p : Nat → α → Prop} : ∀ n : Nat, (∀ i, i < n → ∃ b, p i b) → ∃ l : List α, l.length = n ∧ ∀ i b, l[i]? = some b → p i b
  | 0, _ => ⟨[], rfl, fun i b hi => by simp at hi⟩
  | n + 1, h => by
    obtain ⟨l, hl, hp⟩ := choose_list n (fun i hi => h i (by omega))
    obtain ⟨b, hb⟩ := h n (by omega)
    refine ⟨l ++ [b], by simp [hl], fun i c hi => ?_⟩
    rw [List.getElem?_append] at hi
    split at hi
    · exact hp i c hi
    · have e : i = n := by
        have := (List.getElem?_eq_some_iff.1 hi).1
        simp at this
        omega
      subst e
      simp [hl] at hi
      subst hi
      exact hb
theorem bulk_mem {H : Type} {d : DataW H} : ∀ {l : List (DataW H)}, d ∈ l → Rows.uptoBulk d ≤ Rows.uptoBulkAll l
  | x :: l, h => by
    rw [Rows.uptoBulkAll]
    rcases List.mem_cons.1 h with rfl | h
    · omega
    · have := bulk_mem h
      omega
theorem plain_addr {w : World} {a : Addr} {v : Value} (h : w.cell? (a.add 0) = some v) : ∃ b off, a = ⟨b, off, none⟩ ∧ b < w.heap.size := by
  rw [show a.add 0 = a by unfold Addr.add; simp] at h
  obtain ⟨b, o, k⟩ := a
  have hs : k = none := World.cell?_spot h
  subst hs
  refine ⟨b, o, rfl, ?_⟩
  unfold World.cell? at h
  split at h
  · rename_i hq; exact (Array.getElem?_eq_some_iff.1 hq).1
  · cases h
set_option maxRecDepth 100000 in
theorem row_of {H : Type} {enc : TypeId × Value → H} {w : World} {n : Nat} {v : Value} {d : DataW H} {pl : List MemPlace} (h : DataW.trod enc Tryd.prog w 0 (fun _ => true) true n 23 [v] = some (d, pl)) (hu : Rows.uptoBulk d ≤ 1048576) :
    ∃ r : Rw, v = .slice r.p r.l.length r.cap ∧ StrS w r.p r.l ∧ ∀ f ∈ r.l, f.size ≤ 1048576 := by
  rcases open_strings Tryd.underlying23 Tryd.underlying9 (by kernel_rfl) h with ⟨hcs, _⟩ | ⟨a, len, cap, ss, hcs, _, hl, hm, hss, hx, hcell, _⟩
  · simp at hcs
    subst hcs
    exact ⟨⟨none, 0, []⟩, rfl, .inl rfl, fun f hf => by cases hf⟩
  · simp at hcs hss hx
    obtain ⟨rfl, -⟩ := hx
    subst hcs
    have hlen : (ss.take len).length = len := by rw [List.length_take]; omega
    refine ⟨⟨some a, cap, ss.take len⟩, by rw [hlen], ?_, ?_⟩
    · by_cases h0 : len = 0
      · exact .inl (List.eq_nil_of_length_eq_zero (by show (ss.take len).length = 0; omega))
      · obtain ⟨b, off, rfl, hb⟩ := plain_addr (hcell 0 (by omega))
        refine .inr ⟨b, off, rfl, hb, fun k x hk => ?_⟩
        have hk' : ss[k]? = some x := by
          have := List.getElem?_take_of_lt (l := ss) (i := k) (j := len) (by have hkk : k < (ss.take len).length := (List.getElem?_eq_some_iff.1 hk).1; omega)
          rw [← this]
          exact hk
        have hlt := (List.getElem?_eq_some_iff.1 hk').1
        have := hcell k hlt
        rw [List.getD_eq_getElem?_getD, hk'] at this
        rw [← Go.WideShapes.add_plain]
        exact this
    · intro f hf
      rw [Rows.uptoBulk] at hu
      have := bulk_mem (H := H) (d := .lit (.string f.data.toList)) (l := strs (ss.take len)) (List.mem_map.2 ⟨f, hf, rfl⟩)
      rw [Rows.uptoBulk] at this
      have e : f.data.toList.length = f.size := rfl
      omega
set_option maxRecDepth 100000 in
theorem rows_of {H : Type} {enc : TypeId × Value → H} {w : World} {v : Value} {d : DataW H} {ps : List MemPlace} (hv : ∃ a len cap, v = .slice a len cap) (h : DataW.Trod enc Tryd.prog w 0 (fun _ => true) true 22 v d ps) (hu : Rows.uptoBulk d ≤ 1048576) :
    ∃ (p : Option Addr) (cap : Nat) (R : List Rw), v = .slice p R.length cap ∧ RowsS w p R ∧ ∀ r ∈ R, ∀ f ∈ r.l, f.size ≤ 1048576 := by
  obtain ⟨a, len, cap, rfl⟩ := hv
  obtain ⟨n, hn⟩ := h
  rcases open_slice1 Tryd.underlying22 (by kernel_rfl) (by simpa [Value.cells] using hn) with ⟨hcs, _⟩ | ⟨a', len', cap', m, n', V, D, Pl, hcs, _, hl, hm, hmm, hx, hcell⟩
  · simp at hcs
    obtain ⟨rfl, rfl, rfl⟩ := hcs
    exact ⟨none, 0, [], rfl, .inl rfl, fun r hr => by cases hr⟩
  · simp at hcs
    obtain ⟨rfl, rfl, rfl⟩ := hcs
    simp at hmm
    subst hmm
    obtain rfl := congrArg Prod.fst hx
    rw [Rows.uptoBulk] at hu
    obtain ⟨R, hR, hp⟩ := choose_list (α := Rw) (p := fun i r => w.cell? (a'.add i) = some (.slice r.p r.l.length r.cap) ∧ StrS w r.p r.l ∧ ∀ f ∈ r.l, f.size ≤ 1048576) len (fun i hi => by
      obtain ⟨h1, h2⟩ := hcell i (by omega)
      have hb := bulk_mem (d := D i) (l := (List.range len).map D) (List.mem_map.2 ⟨i, List.mem_range.2 hi, rfl⟩)
      obtain ⟨r, e, h3, h4⟩ := row_of h2 (by omega)
      exact ⟨r, by rw [h1, e], h3, h4⟩)
    subst hR
    refine ⟨some a', _, R, rfl, ?_, fun r hr => ?_⟩
    · by_cases h0 : R.length = 0
      · exact .inl (List.eq_nil_of_length_eq_zero h0)
      · obtain ⟨b, off, rfl, hb⟩ := plain_addr (hp 0 _ (List.getElem?_eq_getElem (by omega))).1
        refine .inr ⟨b, off, rfl, hb, fun k r hk => ?_⟩
        obtain ⟨h1, h2, _⟩ := hp k r hk
        rw [Go.WideShapes.add_plain] at h1
        exact ⟨h1, h2⟩
    · obtain ⟨i, hi⟩ := List.mem_iff_getElem?.1 hr
      exact (hp i r hi).2.2
theorem witness_upto {H : Type} {enc : TypeId × Value → H} {C : Checked} {os : Os} {f : FuncId} {fn : Func} {s : OpenSpec} {k : (H : Type) → List (DataW H) → Bool} (hk : s.cond = some k) {conds : List PathCond} {apart : Bool} {X : World → Array Value → Prop} (modest : Bool) (w0 : World) (args : Array Value) (fuel : Nat) (hos : w0.os = os)
    (hsh : (w0.forCall (fun _ _ => 0) ⟨#[], args, []⟩).Shaped C.prog)
    (hok : Input.okWideB C.prog (w0.forCall (fun _ _ => 0) ⟨#[], args, []⟩) f ⟨#[], args, []⟩ = true)
    {x : List (DataW H) × List (DataW H) × List MemPlace} (hx' : DataW.whole enc C.prog (w0.forCall (fun _ _ => 0) ⟨#[], args, []⟩).memory fn.params.toList s.vars apart args.toList fuel = some x)
    (hconds : conds.all (PathCond.test C.prog ⟨fn.params.toList, x.1, s.bare.plain.varTypes C.prog, x.2.1⟩) = true) (hkk : k H (x.1 ++ x.2.1) = true)
    (hsz : s.bare.sizedB enc C.prog fn apart (w0.forCall (fun _ _ => 0) ⟨#[], args, []⟩).memory args fuel = true)
    (hx : X (w0.forCall (fun _ _ => 0) ⟨#[], args, []⟩).memory args) :
    ∃ (w : World) (tape : Tape) (i : Input), w.os = os ∧ (w.forCall tape i).Shaped C.prog ∧ i.vars = [] ∧ Input.okWide C.prog (w.forCall tape i) .any w.heap.size f i ∧
      ((s.pre enc C.prog fn conds apart (w.forCall tape i).memory i.args ∧ X (w.forCall tape i).memory i.args) ∧ sizedMet enc C.prog fn s apart (w.forCall tape i).memory i.args) ∧ ({ modest := modest } : Assume).holds C.prog (lone (Frame.enter C.prog f i.args .normal) [] (w.forCall tape i)) :=
  ⟨w0, fun _ _ => 0, ⟨#[], args, []⟩, hos, hsh, (Input.okWide_of_okWideB (base := 0) hok).1, (Input.okWide_of_okWideB hok).2, ⟨⟨(OpenSpec.pre_some hk conds apart _ _).2 ⟨x.1, x.2.1, x.2.2, DataW.Whole_of_whole hx', hconds, hkk⟩, hx⟩, sizedMet_of_sizedB hsz⟩, by
    simp only [Assume.holds]
    exact ⟨by simp, by simp, fun _ => Modest.zero, by simp, by simp⟩⟩
end Go.Proofs.YtjddmcecllhlhaaDoor

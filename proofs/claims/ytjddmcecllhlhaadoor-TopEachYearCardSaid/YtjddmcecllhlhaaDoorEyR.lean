/-
  A range over an iterator that makes a cell of its own when it is called: the rounds leave that cell, and others, alone.
-/
import Derived.Test.YtjddmcecllhlhaaDoorBase
import Derived.RangeFuncWrites
import Derived.RangeFuncNested
import Derived.RangeFuncBound
import Derived.RangeFuncCalls
import Derived.RangeFuncLeaves
import Derived.RangeFuncBox
import Derived.Shelf.Abstract
import Derived.Shelf.RegionOpen
import Derived.OwnWalkIn
import Derived.TacticsInMore
import Derived.LoopNIn
import Derived.LoopIn
import Derived.Maps.AppendAt
namespace Go.Proofs.YtjddmcecllhlhaaDoor
open Go.RowKit
/-- Blocks that stay as they are. -/
def KeptK (ks : List Nat) (W W' : World) : Prop := ∀ k ∈ ks, W'.heap[k]? = W.heap[k]?
theorem KeptK.refl (ks : List Nat) (W : World) : KeptK ks W W := fun _ _ => rfl
theorem KeptK.trans {ks : List Nat} {A B C : World} (h : KeptK ks A B) (g : KeptK ks B C) : KeptK ks A C := fun k hk => (g k hk).trans (h k hk)
/-- What such an iterator promises. -/
def SeqKs {α : Type} (F : Fence) (n : Nat) (P : Program) (g : Nat) (lb : Array Value) (encs : α → Array Value) (n₀ : Nat) (ks0 : List Nat) (S Sx : List α → Prop) (w : World) : Prop :=
  ∀ (l : Nat) (J : List Nat → List α → World → Prop) (Jx : List α → World → Prop) (W : World), Below w.heap.size w W →
    (∀ ks s A B c, c ∈ ks → J ks s A → A.grownBy B (some c) → J ks s B) →
    (∀ ks c A B, J ks [] A → A.grownBy B none → A.heap.size ≤ c → c < B.heap.size → J (c :: ks) [] B) →
    (∀ ks pre x W1, J ks pre W1 → YieldAt F (n - 1) P l (encs x) W1 fun e W' => (e = .returned (.bool true) ∧ J ks (pre ++ [x]) W' ∧ Below n₀ W1 W' ∧ KeptK ks W1 W') ∨ (e = .returned (.bool false) ∧ Jx (pre ++ [x]) W')) →
    J ks0 [] W → CallsIn F n P g (#[.func (.yield l) #[] #[]] ++ lb) W fun e W' => (∃ v, e = .returned v) ∧ ((∃ xs ks, S xs ∧ J ks xs W') ∨ (∃ pre, Sx pre ∧ Jx pre W'))
/-- What the body of a round leaves. -/
def ksPost {α : Type} (D n₀ : Nat) (ks : List Nat) (I : List Nat → List α → World → Prop) (Ix : Nat → List α → World → Prop) (xs : List α) (W : World) : Exit → Act → World → Prop
  | .normal, _, W' => KeepsFrom D W W' ∧ Below n₀ W W' ∧ KeptK ks W W' ∧ I ks xs W'
  | .exit id, _, W' => KeepsFrom D W W' ∧ Ix id xs W'
  | _, _, _ => False
theorem wpIn_range_ks {α : Type} {F : Fence} {n : Nat} {P : Program} {g : Operand} {ps : Array Tmp} {assign body : Code} {Q : Exit → Act → World → Prop} {a : Act} {w : World} (hro : F.round = none) (h1 : 1 ≤ n) {gf : Nat} {lb : Array Value}
    (hg : a.eval g = .func (.func gf) #[] lb) (hFg : F.fn gf) (eg : ∀ args w, (callFunc gf args).run P w = .ok (.enter gf args) w) {encs : α → Array Value} {n₀ : Nat} {ks0 : List Nat} {S Sx : List α → Prop} (hseq : SeqKs F (n - 1) P gf lb encs n₀ ks0 S Sx w) (hn₀ : n₀ ≤ w.heap.size) (hks : ∀ k ∈ ks0, k < w.heap.size) (hps : ∀ x, (encs x).size = ps.size)
    (I : List Nat → List α → World → Prop) (Ix : Nat → List α → World → Prop) (hI : ∀ ks, OwnFrom w.heap.size (I ks)) (hIx : ∀ id, OwnFrom w.heap.size (Ix id)) (hI2 : ∀ ks s A B c, c ∈ ks → I ks s A → A.grownBy B (some c) → I ks s B)
    (hI3 : ∀ ks c A B, I ks [] A → A.grownBy B none → A.heap.size ≤ c → c < B.heap.size → I (c :: ks) [] B) (h0 : I ks0 [] w)
    (hround : ∀ (l : Nat) (ks : List Nat) (pre : List α) (x : α) (W : World), I ks pre W → w.heap.size ≤ l → l < W.heap.size → (∀ k ∈ ks, k ≠ l) →
      assign.wpIn (F.inRound l) (n - 1 - 1) P (Exit.then (fun a' Wa => KeepsFrom w.heap.size W Wa ∧ Below n₀ W Wa ∧ KeptK ks W Wa ∧ I ks pre Wa ∧ ∀ Wb, I ks pre Wb → Wb.heap.size = Wa.heap.size → (∀ k, k ≠ l → Wb.heap[k]? = Wa.heap[k]?) → body.wpIn (F.inRound l) (n - 1 - 1) P (ksPost w.heap.size n₀ ks I Ix (pre ++ [x]) Wb) a' Wb) (fun _ _ _ => False)) { tmps := (ps.zip (encs x)).foldl (fun t (p, v) => t.setIfInBounds p v) a.tmps, defers := [] } W)
    (hdone : ∀ (xs : List α) (ks : List Nat) (W : World), S xs → I ks xs W → W.heap[w.heap.size]? = some (.deferred (some [])) → Q .normal { a with defers := { target := .collected w.heap.size, args := #[] } :: a.defers } W)
    (hstop : ∀ (id : Nat) (pre : List α) (W : World), Sx pre → Ix id pre W → W.heap[w.heap.size]? = some (.deferred (some [])) → (Code.exit id).wpIn F n P Q { a with defers := { target := .collected w.heap.size, args := #[] } :: a.defers } W) :
    (Code.rangeFunc g ps assign body).wpIn F n P Q a w := by
  refine wpIn_rangeFunc ?_
  intro fn hfn
  rw [hro]
  let rec_ : LoopState → Option Code → Loop := fun st pe => { state := st, pending := pe, fn, tmps := a.tmps, params := ps, assign, body, defers := w.heap.size }
  let V := (w.alloc (.deferred (some []))).alloc (.loop (rec_ .ready none))
  have vL : V.heap[w.heap.size + 1]? = some (.loop (rec_ .ready none)) := by
    have := World.alloc_heap_new (w.alloc (.deferred (some []))) (.loop (rec_ .ready none))
    rwa [World.size_alloc] at this
  have vK : V.heap[w.heap.size]? = some (.deferred (some [])) := (Below.heap_alloc _ _ _ (by simp)).trans (World.alloc_heap_new w _)
  have vI : I ks0 [] V := (hI _).alloc _ ((hI _).alloc _ h0)
  have vB : Below w.heap.size w V := ((Below.refl _ w).alloc (Nat.le_refl _) _).alloc (by simp) _
  have other : ∀ {A B : World} {k c : Nat} {o : Obj}, A.grownBy B (some c) → k ≠ c → A.heap[k]? = some o → B.heap[k]? = some o := fun hg hk ho => (hg.block _ (Array.getElem?_eq_some_iff.1 ho).1 (fun e => hk (by simpa using e))).trans ho
  have other0 : ∀ {A B : World} {k : Nat} {o : Obj}, A.grownBy B none → A.heap[k]? = some o → B.heap[k]? = some o := fun hg ho => (hg.block _ (Array.getElem?_eq_some_iff.1 ho).1 (fun e => by cases e)).trans ho
  refine ⟨w.heap.size + 1, [{ target := .collected w.heap.size, args := #[] }], V, { target := .fn (.func gf) lb, args := #[.func (.yield (w.heap.size + 1)) #[] #[]] }, V, gf, #[.func (.yield (w.heap.size + 1)) #[] #[]] ++ lb, V, ?_, ?_, ?_, ?_, fun _ => h1, ?_⟩
  · exact run_enterLoop_outer _ _ _ _ _
  · simp only [resolve, hg]
    simp [go_sem]
  · intro f' hf'
    simp [Target.leads] at hf'
    subst hf'
    exact hFg
  · simp [invoke, go_sem, eg]
  · refine (hseq (w.heap.size + 1) (fun ks pre W => I ks pre W ∧ W.heap[w.heap.size + 1]? = some (.loop (rec_ .ready none)) ∧ W.heap[w.heap.size]? = some (.deferred (some [])) ∧ ∀ k ∈ ks, k ≠ w.heap.size ∧ k ≠ w.heap.size + 1)
      (fun pre W => ∃ id, Ix id pre W ∧ W.heap[w.heap.size + 1]? = some (.loop (rec_ .done (some (.exit id)))) ∧ W.heap[w.heap.size]? = some (.deferred (some []))) V vB
      (fun ks s A B c hc h hg' => ⟨hI2 ks s A B c hc h.1 hg', other hg' (fun e => (h.2.2.2 c hc).2 e.symm) h.2.1, other hg' (fun e => (h.2.2.2 c hc).1 e.symm) h.2.2.1, h.2.2.2⟩)
      (fun ks c A B h hg' hc1 hc2 => ⟨hI3 ks c A B h.1 hg' hc1 hc2, other0 hg' h.2.1, other0 hg' h.2.2.1, fun k hk => by
        rcases List.mem_cons.1 hk with rfl | hk
        · have := (Array.getElem?_eq_some_iff.1 h.2.1).1
          omega
        · exact h.2.2.2 k hk⟩) ?_ ⟨vI, vL, vK, fun k hk => by have := hks k hk; omega⟩).mono ?_
    · rintro ks pre x W ⟨hi, hl, hk, hkk⟩
      have hlt : w.heap.size + 1 < W.heap.size := (Array.getElem?_eq_some_iff.1 hl).1
      have hy := run_yield (P := P) (args := encs x) hl (hps x)
      refine ⟨fn, _, assign, body, hy, roundIn_of_wpIn hfn (wpIn_mono (hround (w.heap.size + 1) ks pre x W hi (by omega) hlt (fun k h => (hkk k h).2)) ?_)⟩
      rintro e a' Wa hp
      cases e with
      | normal =>
        obtain ⟨hka, hba, hpa, hia, hbody⟩ := hp
        have hla := hka.same _ _ (by omega) hl rfl
        have hda := hka.same _ _ (Nat.le_refl _) hk rfl
        have hlta : w.heap.size + 1 < Wa.heap.size := (Array.getElem?_eq_some_iff.1 hla).1
        refine ⟨_, run_beginRound hla rfl, ?_⟩
        have hl2 : (Wa.putObj (w.heap.size + 1) (.loop { rec_ .ready none with state := .busy })).heap[w.heap.size + 1]? = some (.loop { rec_ .ready none with state := .busy }) := World.putObj_heap_same hlta
        have hk2 : (Wa.putObj (w.heap.size + 1) (.loop { rec_ .ready none with state := .busy })).heap[w.heap.size]? = some (.deferred (some [])) := (World.putObj_heap_other (by omega)).trans hda
        have hkp : ∀ (X : World) (o : Obj), KeptK ks X (X.putObj (w.heap.size + 1) o) := fun X o k h => World.putObj_heap_other (fun e => (hkk k h).2 e)
        refine wpIn_mono (hbody _ ((hI _).putObj _ hia (by omega) hla rfl) (by simp) (fun k hk => World.putObj_heap_other (fun e => hk e))) ?_
        rintro e a3 W3 hp
        cases e with
        | normal =>
          obtain ⟨hk3, hb3, hp3, hi3⟩ := hp
          have hl3 := hk3.same _ _ (by omega) hl2 rfl
          have hd3 := hk3.same _ _ (Nat.le_refl _) hk2 rfl
          refine ⟨_, _, run_endRound (P := P) none hl3, .inl ⟨rfl, ⟨(hI _).putObj _ hi3 (by omega) hl3 rfl, World.putObj_heap_same (Array.getElem?_eq_some_iff.1 hl3).1, (World.putObj_heap_other (by omega)).trans hd3, hkk⟩, ?_, ?_⟩⟩
          · exact ((hba.trans (belowK_b (w := w) hn₀ _ _ _ _ (by omega) hla rfl rfl)).trans hb3).trans (belowK_b (w := w) hn₀ _ _ _ _ (by omega) hl3 rfl rfl)
          · exact ((hpa.trans (hkp _ _)).trans hp3).trans (hkp _ _)
        | exit id =>
          obtain ⟨hk3, hi3⟩ := hp
          have hl3 := hk3.same _ _ (by omega) hl2 rfl
          have hd3 := hk3.same _ _ (Nat.le_refl _) hk2 rfl
          exact ⟨_, _, run_endRound (P := P) (some (.exit id)) hl3, .inr ⟨rfl, id, (hIx id).putObj _ hi3 (by omega) hl3 rfl, World.putObj_heap_same (Array.getElem?_eq_some_iff.1 hl3).1, (World.putObj_heap_other (by omega)).trans hd3⟩⟩
        | ret => exact hp.elim
        | goto t => exact hp.elim
        | panic ch => exact hp.elim
        | outgrown => exact hp.elim
      | ret => exact hp.elim
      | exit id => exact hp.elim
      | goto t => exact hp.elim
      | panic ch => exact hp.elim
      | outgrown => exact hp.elim
    · rintro e W2 ⟨⟨v, rfl⟩, ⟨xs, ks, hS, hi, hl, hk, _⟩ | ⟨pre, hSp, id, hi, hl, hk⟩⟩
      · exact ⟨none, _, run_endLoop (P := P) hl (by simp [rec_]), hdone xs ks _ hS ((hI _).putObj _ hi (by omega) hl rfl) ((World.putObj_heap_other (by omega)).trans hk)⟩
      · exact ⟨some (.exit id), _, run_endLoop (P := P) hl (by simp [rec_]), hstop id pre _ hSp ((hIx id).putObj _ hi (by omega) hl rfl) ((World.putObj_heap_other (by omega)).trans hk)⟩
end Go.Proofs.YtjddmcecllhlhaaDoor

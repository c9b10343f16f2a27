/-
  fields.Of: a row that was written is read as it was.
-/
import Derived.Test.YtjddmcecllhlhaaDoorPln
import Derived.Defers
import Derived.Recover
namespace Go.Proofs.YtjddmcecllhlhaaDoor
open Go.RowKit
theorem own_high {w w' : World} {B : Nat} {e : TypeId} {size : Nat} {v : Value} {n : Nat} {xs : List Value} (h : w.ownsRow B e size v n xs) (hk : ∀ k, B ≤ k → k < w.heap.size → w'.heap[k]? = w.heap[k]?) : w'.ownsRow B e size v n xs := by
  obtain ⟨h1, h2⟩ := h
  refine ⟨h1, ?_⟩
  rcases h2 with h2 | ⟨g, cap, cur, hv, hg, hh, r⟩
  · exact .inl h2
  · exact .inr ⟨g, cap, cur, hv, hg, (hk g hg (Array.getElem?_eq_some_iff.1 hh).1).trans hh, r⟩
theorem own_mono {w : World} {B B' : Nat} {e : TypeId} {size : Nat} {v : Value} {n : Nat} {xs : List Value} (h : w.ownsRow B e size v n xs) (hB : B' ≤ B) : w.ownsRow B' e size v n xs := by
  obtain ⟨h1, h2⟩ := h
  refine ⟨h1, ?_⟩
  rcases h2 with h2 | ⟨g, cap, cur, hv, hg, hh, r⟩
  · exact .inl h2
  · exact .inr ⟨g, cap, cur, hv, Nat.le_trans hB hg, hh, r⟩
/-- v is a slice of strings that reads as l, in memory from block B on. -/
def StrRow (w : World) (B : Nat) (v : Value) (l : List ByteArray) : Prop := w.ownsRow B 9 1 v l.length (l.map Value.string)
theorem StrRow.cut {w w' : World} {B c : Nat} {v : Value} {l : List ByteArray} (h : StrRow w B v l) (hk : Cut w.heap.size c w w') (hc : c < B) : StrRow w' B v l := own_high h fun k h1 h2 => hk.block k h2 (by omega)
theorem StrRow.low {w : World} {B c j : Nat} {v u : Value} {l : List ByteArray} (h : StrRow w B v l) (hc : c < B) : StrRow (w.setCell ⟨c, j, none⟩ u) B v l := own_high h fun k h1 h2 => Below.heap_setCell _ _ _ _ (show k ≠ c by omega)
theorem bts_self (f : ByteArray) : bts f.data.toList = f := by
  unfold bts
  rw [Array.toArray_toList]
theorem app_str {Q : Exit → Act → World → Prop} {ops : Array Oper} {rest : List Oper} {o : Oper} {a : Act} {w : World} (hgd : o.guard = none) (s x : Operand)
    (ho : o.op = .call { callee := .builtin .append, args := #[s, x], argTypes := #[23, 23] }) (B : Nat) (v : Value) (l : List ByteArray) (hs : a.eval s = v) (hown : StrRow w B v l) (ad : Addr) (p : ByteArray)
    (hx : a.eval x = .slice (some ad) 1 1) (h0 : w.cell? (ad.add 0) = some (.string p)) (hn : l.length ≤ 400000) (hB : B ≤ w.heap.size)
    (h : ∀ v' w', StrRow w' B v' (l ++ [p]) → Below B w w' → wpList Tryd.prog ops Q rest (a.put o.dst v') w') : wpList Tryd.prog ops Q (o :: rest) a w := by
  obtain ⟨i, hi, hz0, hz1, hz2⟩ := info_parts Tryd.infoStr
  refine wpList_append_own w hgd s x 23 ho B 9 i _ 1 16 Tryd.underlying23 hi hz0 hz1 hz2 rfl (by decide) v l.length (l.map Value.string) hs hown ad 1 1 [.string p] hx rfl ?_ ?_ (by unfold maxLen; omega) (by omega) hB ?_
  · intro j u hj
    match j, hj with
    | 0, hj => simp at hj; rw [h0, hj]
  · intro u hu; simp at hu; subst hu; rfl
  · intro v' w' h2 h3 _
    refine h v' w' ?_ ((Below.refl _ _).grown h3 hB (fun k hk => (World.ownsRow.lt hown k hk).1))
    unfold StrRow
    rw [List.length_append, List.map_append]
    simpa using h2
theorem Tryd.of_idle (p q : Addr) (w : World) : CallsD Tryd.prog 19 #[.pointer (some p), .pointer (some q)] .returning w fun e u' w' => e = .returned (.tuple #[]) ∧ u' = .returning ∧ w' = w := by
  refine callsD_of_wpS Tryd.func19 rfl fun c₀ cs hu => ?_
  apply wpS_seq
  apply wpS_region
  simp [wpOpsS, go_sem, recoverD, hu, Tryd.ntmps19, Exit.thenS]
  refine wpS_of_wp ?_
  go_wp2
  cases c₀
  simp_all [bodyPostS, results, Tryd.results19]
theorem cut_cell {B c : Nat} {w w' : World} {p : Addr} (h : Cut B c w w') (hp : p.block < B) (hc : p.block ≠ c) : w'.cell? p = w.cell? p := by
  unfold World.cell?
  rw [h.block _ hp hc]
theorem cut_frozen {B c : Nat} {w w' : World} {p : Addr} (h : Cut B c w w') (hp : p.block < B) (hc : p.block ≠ c) : w'.frozen? p = w.frozen? p := by
  unfold World.frozen?
  rw [h.block _ hp hc]
theorem cut_below {B c B' : Nat} {w w' : World} (h : Cut B c w w') (hB : B' ≤ B) (hc : B' ≤ c) : Below B' w w' := ⟨h.os, h.tape, h.output, h.size, fun k hk => h.block k (by omega) (by omega)⟩
/-- How long a slice in a cell is. -/
def lenAt (w : World) (b : Nat) : Nat := match w.cell? ⟨b, 0, none⟩ with | some (.slice _ n _) => n | _ => 0
theorem lenAt_is {w : World} {b : Nat} {p : Option Addr} {n c : Nat} (h : w.cell? ⟨b, 0, none⟩ = some (.slice p n c)) : lenAt w b = n := by unfold lenAt; rw [h]
theorem StrRow.toS' {w : World} {B : Nat} {v : Value} {l : List ByteArray} (h : StrRow w B v l) : ∃ p cap, v = .slice p l.length cap ∧ True := by
  obtain ⟨h1, h2⟩ := h
  rcases h2 with ⟨rfl, hn⟩ | ⟨g, cap, cur, rfl, hg, hh, hn, hc, hs, ht⟩
  · exact ⟨none, 0, by rw [hn], trivial⟩
  · exact ⟨_, cap, rfl, trivial⟩
set_option maxRecDepth 100000 in
set_option maxHeartbeats 8000000 in
theorem fields_Of (row : List ByteArray) (s : ByteArray) (hw : Wrt row s) (hs : s.size ≤ 2000) (w : World) : Calls Tryd.prog 6 #[.string s] w fun e w' => ∃ v, e = .returned (.tuple #[v, .int .i64 0]) ∧ StrRow w' w.heap.size v row ∧ Below w.heap.size w w' := by
  obtain ⟨h16, ts, htl, hft, hsd⟩ := hw
  have hmf : ∀ (fn : Fn) (first cap : Array Value) (w : World), (Instr.makeFunc fn first cap).run Tryd.prog w = .ok (.func fn first cap) w := fun _ _ _ _ => rfl
  have hlen : (Lib.join ts [32]).length ≤ 2000 := by
    rw [hsd] at hs
    exact hs
  have HN : Hid (∀ (k : Nat) (f : ByteArray), row[k]? = some f → ∀ (c : Nat) (w : World), w.cell? ⟨c, 0, none⟩ = some (.string (bts (lft ts k))) → w.frozen? ⟨c, 0, none⟩ = false → c < w.heap.size → Calls Tryd.prog 20 #[.pointer (some ⟨c, 0, none⟩)] w (NextGives w c f.data.toList true (lft ts (k + 1)))) := Lib.hid (by
    intro k f hk c w h1 h2 h3
    have hlt : k < ts.length := by rw [htl]; exact (List.getElem?_eq_some_iff.1 hk).1
    exact next_row c ts k f.data.toList ts[k] (List.getElem?_eq_getElem hlt) (hft k f _ hk (List.getElem?_eq_getElem hlt)) hlen w h1 h2 h3)
  have HE : Hid (∀ (c : Nat) (w : World), w.cell? ⟨c, 0, none⟩ = some (.string (bts (lft ts row.length))) → w.frozen? ⟨c, 0, none⟩ = false → c < w.heap.size → Calls Tryd.prog 20 #[.pointer (some ⟨c, 0, none⟩)] w (NextGives w c [] false [])) := Lib.hid (by
    intro c w h1 h2 h3
    rw [← htl, lft_end] at h1
    exact next_none c w h1 h2 h3)
  have e0 : s = bts (lft ts 0) := by rw [hsd]; rfl
  have HS := Lib.hid e0
  clear hft htl hlen hsd e0
  -- either way the next call gives this
  have HX : Hid (∀ (k : Nat), k ≤ row.length → ∀ (c : Nat) (w : World), w.cell? ⟨c, 0, none⟩ = some (.string (bts (lft ts k))) → w.frozen? ⟨c, 0, none⟩ = false → c < w.heap.size → Calls Tryd.prog 20 #[.pointer (some ⟨c, 0, none⟩)] w fun e w' => ∃ (f : ByteArray) (m : Bool), e = .returned (.tuple #[.string f, .bool m]) ∧ (m = true → k < row.length ∧ row[k]? = some f ∧ w'.cell? ⟨c, 0, none⟩ = some (.string (bts (lft ts (k + 1))))) ∧ (m = false → k = row.length) ∧ w'.frozen? ⟨c, 0, none⟩ = false ∧ Cut w.heap.size c w w') := Lib.hid (by
    intro k hk c w h1 h2 h3
    by_cases hlt : k < row.length
    · refine (HN.out k row[k] (List.getElem?_eq_getElem hlt) c w h1 h2 h3).mono ?_
      rintro e w' ⟨rfl, d1, d2, d3⟩
      exact ⟨row[k], true, by rw [bts_self], fun _ => ⟨hlt, List.getElem?_eq_getElem hlt, d1⟩, (fun h => by cases h), d2, d3⟩
    · obtain rfl : k = row.length := by omega
      refine (HE.out c w h1 h2 h3).mono ?_
      rintro e w' ⟨rfl, d1, d2, d3⟩
      exact ⟨_, false, rfl, (fun h => by cases h), fun _ => rfl, d2, d3⟩)
  clear HN HE
  go_enter_defers Tryd.func6, Tryd.ntmps6
  go_wp2_with fail
  have a2 : (((w.alloc (.cells #[.slice none 0 0] 23)).alloc (.cells #[.int .i64 0] 24)).alloc (.cells #[.string s] 60)).cell? ⟨w.heap.size, 0, none⟩ = some (.slice none 0 0) := by go_simp
  have z2 : (((w.alloc (.cells #[.slice none 0 0] 23)).alloc (.cells #[.int .i64 0] 24)).alloc (.cells #[.string s] 60)).frozen? ⟨w.heap.size, 0, none⟩ = false := by go_simp
  have a3 : (((w.alloc (.cells #[.slice none 0 0] 23)).alloc (.cells #[.int .i64 0] 24)).alloc (.cells #[.string s] 60)).cell? ⟨w.heap.size + 1, 0, none⟩ = some (.int .i64 0) := by go_simp
  have z3 : (((w.alloc (.cells #[.slice none 0 0] 23)).alloc (.cells #[.int .i64 0] 24)).alloc (.cells #[.string s] 60)).frozen? ⟨w.heap.size + 1, 0, none⟩ = false := by go_simp
  have a4 : (((w.alloc (.cells #[.slice none 0 0] 23)).alloc (.cells #[.int .i64 0] 24)).alloc (.cells #[.string s] 60)).cell? ⟨w.heap.size + 1 + 1, 0, none⟩ = some (.string s) := by go_simp
  have z4 : (((w.alloc (.cells #[.slice none 0 0] 23)).alloc (.cells #[.int .i64 0] 24)).alloc (.cells #[.string s] 60)).frozen? ⟨w.heap.size + 1 + 1, 0, none⟩ = false := by go_simp
  have hB0 : Below w.heap.size w (((w.alloc (.cells #[.slice none 0 0] 23)).alloc (.cells #[.int .i64 0] 24)).alloc (.cells #[.string s] 60)) := by (focus (repeat' (first | exact Below.refl _ _ | refine Below.alloc ?_ ?_ _ | refine Below.setCell ?_ ?_ _ | refine Below.drew ?_ | refine below_drewN ?_ _ | refine Below.trans ?_ (Below.mono (by assumption) ?_) | refine Below.trans ?_ (Below.mono (BW.below _) ?_) | (simp; done) | (simp; omega) | omega)))
  have hs0 : (((w.alloc (.cells #[.slice none 0 0] 23)).alloc (.cells #[.int .i64 0] 24)).alloc (.cells #[.string s] 60)).heap.size = w.heap.size + 3 := by simp
  generalize ((w.alloc (.cells #[.slice none 0 0] 23)).alloc (.cells #[.int .i64 0] 24)).alloc (.cells #[.string s] 60) = W0 at *
  refine (HX.out 0 (Nat.zero_le _) _ _ (a4.trans (by rw [HS.out])) z4 (by omega)).mono ?_
  rintro e w1 ⟨f, m, rfl, ht, hf, hz, hk⟩
  have k2 := (hk.block w.heap.size (by omega) (by omega))
  have b2 : w1.cell? ⟨w.heap.size, 0, none⟩ = some (.slice none 0 0) := (cut_cell hk (p := ⟨w.heap.size, 0, none⟩) (show w.heap.size < _ by omega) (show w.heap.size ≠ _ by omega)).trans a2
  have y2 : w1.frozen? ⟨w.heap.size, 0, none⟩ = false := (cut_frozen hk (p := ⟨w.heap.size, 0, none⟩) (show w.heap.size < _ by omega) (show w.heap.size ≠ _ by omega)).trans z2
  have b3 : w1.cell? ⟨w.heap.size + 1, 0, none⟩ = some (.int .i64 0) := (cut_cell hk (p := ⟨w.heap.size + 1, 0, none⟩) (show w.heap.size + 1 < _ by omega) (show w.heap.size + 1 ≠ _ by omega)).trans a3
  have y3 : w1.frozen? ⟨w.heap.size + 1, 0, none⟩ = false := (cut_frozen hk (p := ⟨w.heap.size + 1, 0, none⟩) (show w.heap.size + 1 < _ by omega) (show w.heap.size + 1 ≠ _ by omega)).trans z3
  have hB1 : Below w.heap.size w w1 := hB0.trans (cut_below hk (by omega) (by omega))
  have hs1 : w.heap.size + 3 ≤ w1.heap.size := by have := hk.size; omega
  clear a2 z2 a3 z3 a4 z4 hB0 hs0 k2 hk
  go_wp2_with fail
  go_loopw [5, 6] (fun f m wr => ∃ (k : Nat) (v : Value) (fs : ByteArray) (mm : Bool), f = .string fs ∧ m = .bool mm ∧ k ≤ row.length ∧ (mm = true → k < row.length ∧ row[k]? = some fs ∧ wr.cell? ⟨w.heap.size + 1 + 1, 0, none⟩ = some (.string (bts (lft ts (k + 1))))) ∧ (mm = false → k = row.length) ∧ wr.frozen? ⟨w.heap.size + 1 + 1, 0, none⟩ = false ∧ wr.cell? ⟨w.heap.size, 0, none⟩ = some v ∧ wr.frozen? ⟨w.heap.size, 0, none⟩ = false ∧ wr.cell? ⟨w.heap.size + 1, 0, none⟩ = some (.int .i64 0) ∧ wr.frozen? ⟨w.heap.size + 1, 0, none⟩ = false ∧ Hid (StrRow wr (w.heap.size + 3) v (row.take k)) ∧ Below w.heap.size w wr ∧ w.heap.size + 3 ≤ wr.heap.size) (fun _ _ wr => row.length - lenAt wr w.heap.size)
  case atStart => exact ⟨0, _, f, m, rfl, rfl, Nat.zero_le _, ht, hf, hz, b2, y2, b3, y3, Lib.hid (by rw [List.take_zero]; exact World.ownsRow_nil _ _ _ _), hB1, hs1⟩
  case round =>
    clear b2 y2 b3 y3 hB1 hs1 ht hf hz
    obtain ⟨k, v, fs, mm, rfl, rfl, hk, ht, hf, hz, b2, y2, b3, y3, HO, hB, hs1⟩ := hrel
    obtain ⟨pv, cv, rfl, -⟩ := StrRow.toS' HO.out
    have hlk : (row.take k).length = k := by rw [List.length_take]; omega
    have m1 : lenAt wr w.heap.size = k := by rw [lenAt_is b2, hlk]
    have HO2 : Hid (StrRow wr (w.heap.size + 3) (.slice pv k cv) (row.take k)) := Lib.hid (by have := HO.out; rwa [hlk] at this)
    rw [hlk] at b2
    have HL := Lib.hid hlk
    clear HO hlk
    cases mm with
    | true =>
      obtain ⟨hkl, hrk, a4⟩ := ht rfl
      clear ht hf
      have hrt : row.take k ++ [fs] = row.take (k + 1) := by
        rw [List.take_add_one, hrk]
        rfl
      have HL9 : Hid ((row.take (k + 1)).length = k + 1) := Lib.hid (by rw [List.length_take]; omega)
      have HRT := Lib.hid hrt
      have hAl : Below wr.heap.size wr (wr.alloc (.cells #[.string fs] 9)) := (Below.refl _ _).alloc (Nat.le_refl _) _
      clear hrt
      go_wp2_with (at_builtin; go_loud (refine app_str rfl _ _ rfl (w.heap.size + 3) _ (row.take k) rfl (own_keep HO2.out ?_) _ fs rfl ?_ ?_ ?_ ?_; (focus (repeat' (first | exact Below.refl _ _ | refine Below.alloc ?_ ?_ _ | refine Below.setCell ?_ ?_ _ | refine Below.drew ?_ | refine below_drewN ?_ _ | refine Below.trans ?_ (Below.mono (by assumption) ?_) | refine Below.trans ?_ (Below.mono (BW.below _) ?_) | (simp; done) | (simp; omega) | omega))); (simp [Addr.add]); (rw [HL.out]; omega); (simp; omega); intro v9 w9 own9 hb9; have z9 := hb9.size; (try simp at z9); rw [HRT.out] at own9; obtain ⟨p9, c9, rfl, -⟩ := StrRow.toS' own9; rw [HL9.out] at own9 ⊢; have HO9 := Lib.hid own9; clear own9; have HT := Lib.hid (show ∀ p : Addr, p.block < w.heap.size + 3 → w9.cell? p = wr.cell? p ∧ w9.frozen? p = wr.frozen? p from fun p hp => ⟨(hb9.cell hp).trans (hAl.cell (by omega)), (hb9.frozen hp).trans (hAl.frozen (by omega))⟩); have v2 : w9.cell? ⟨w.heap.size, 0, none⟩ = some (.slice pv k cv) := (HT.out ⟨w.heap.size, 0, none⟩ (show w.heap.size < _ by omega)).1.trans b2; have f2 : w9.frozen? ⟨w.heap.size, 0, none⟩ = false := (HT.out ⟨w.heap.size, 0, none⟩ (show w.heap.size < _ by omega)).2.trans y2))
      have v3 := (HT.out ⟨w.heap.size + 1, 0, none⟩ (show w.heap.size + 1 < _ by omega)).1.trans b3
      have f3 := (HT.out ⟨w.heap.size + 1, 0, none⟩ (show w.heap.size + 1 < _ by omega)).2.trans y3
      have v4 := (HT.out ⟨w.heap.size + 1 + 1, 0, none⟩ (show w.heap.size + 1 + 1 < _ by omega)).1.trans a4
      have f4 := (HT.out ⟨w.heap.size + 1 + 1, 0, none⟩ (show w.heap.size + 1 + 1 < _ by omega)).2.trans hz
      have hB9 : Below w.heap.size w (w9.setCell ⟨w.heap.size, 0, none⟩ (.slice p9 (k + 1) c9)) := ((hB.trans (hAl.mono (by omega))).trans (hb9.mono (by omega))).setCell (show w.heap.size ≤ w.heap.size from Nat.le_refl _) _
      have HR9 := Lib.hid (StrRow.low (c := w.heap.size) (j := 0) (u := .slice p9 (k + 1) c9) HO9.out (by omega))
      have c2 : (w9.setCell ⟨w.heap.size, 0, none⟩ (.slice p9 (k + 1) c9)).cell? ⟨w.heap.size, 0, none⟩ = some (.slice p9 (k + 1) c9) := by go_simp
      have g2 : (w9.setCell ⟨w.heap.size, 0, none⟩ (.slice p9 (k + 1) c9)).frozen? ⟨w.heap.size, 0, none⟩ = false := by go_simp
      have c3 : (w9.setCell ⟨w.heap.size, 0, none⟩ (.slice p9 (k + 1) c9)).cell? ⟨w.heap.size + 1, 0, none⟩ = some (.int .i64 0) := by go_simp
      have g3 : (w9.setCell ⟨w.heap.size, 0, none⟩ (.slice p9 (k + 1) c9)).frozen? ⟨w.heap.size + 1, 0, none⟩ = false := by go_simp
      have c4 : (w9.setCell ⟨w.heap.size, 0, none⟩ (.slice p9 (k + 1) c9)).cell? ⟨w.heap.size + 1 + 1, 0, none⟩ = some (.string (bts (lft ts (k + 1)))) := by go_simp
      have g4 : (w9.setCell ⟨w.heap.size, 0, none⟩ (.slice p9 (k + 1) c9)).frozen? ⟨w.heap.size + 1 + 1, 0, none⟩ = false := by go_simp
      have z8 : w.heap.size + 3 ≤ (w9.setCell ⟨w.heap.size, 0, none⟩ (.slice p9 (k + 1) c9)).heap.size := by simp; omega
      clear v2 f2 v3 f3 v4 f4 HT hb9 z9 HO9 a4 b2 y2 b3 y3 hz hAl
      generalize w9.setCell ⟨w.heap.size, 0, none⟩ (.slice p9 (k + 1) c9) = w8 at *
      refine (HX.out (k + 1) hkl _ _ c4 g4 (by omega)).mono ?_
      rintro e w10 ⟨f1, m1', rfl, ht', hf', hz', hk'⟩
      have d2 := (cut_cell hk' (p := ⟨w.heap.size, 0, none⟩) (show w.heap.size < _ by omega) (show w.heap.size ≠ _ by omega)).trans c2
      have e2 := (cut_frozen hk' (p := ⟨w.heap.size, 0, none⟩) (show w.heap.size < _ by omega) (show w.heap.size ≠ _ by omega)).trans g2
      have d3 := (cut_cell hk' (p := ⟨w.heap.size + 1, 0, none⟩) (show w.heap.size + 1 < _ by omega) (show w.heap.size + 1 ≠ _ by omega)).trans c3
      have e3 := (cut_frozen hk' (p := ⟨w.heap.size + 1, 0, none⟩) (show w.heap.size + 1 < _ by omega) (show w.heap.size + 1 ≠ _ by omega)).trans g3
      have HR10 := Lib.hid (StrRow.cut HR9.out hk' (by omega))
      have hB10 := hB9.trans (cut_below hk' (by omega) (by omega))
      have z10 : w.heap.size + 3 ≤ w10.heap.size := by have := hk'.size; omega
      clear c2 g2 c3 g3 c4 g4 HR9 hB9 hk'
      go_wp2_with fail
      go_roundw
      case rel => exact ⟨k + 1, _, f1, m1', rfl, rfl, hkl, ht', hf', hz', d2, e2, d3, e3, HR10, hB10, z10⟩
      case measure => rw [m1, lenAt_is d2]; omega
    | false =>
      obtain rfl := hf rfl
      clear ht hf
      have h16' : ¬ (16 : Int) < (row.length : Int) := by omega
      rw [List.take_length] at HO2
      go_wp2_with fail
      refine leaves_cons (f := 19) (args := #[.pointer (some ⟨w.heap.size, 0, none⟩), .pointer (some ⟨w.heap.size + 1, 0, none⟩)]) (by simp) (by simp [go_sem]) ?_
      refine (Tryd.of_idle _ _ _).mono ?_
      rintro e u' w'' ⟨rfl, rfl, rfl⟩
      have r2 : ((wr.setCell ⟨w.heap.size, 0, none⟩ (.slice pv row.length cv)).setCell ⟨w.heap.size + 1, 0, none⟩ (.int .i64 0)).cell? ⟨w.heap.size, 0, none⟩ = some (.slice pv row.length cv) := by go_simp
      have r3 : ((wr.setCell ⟨w.heap.size, 0, none⟩ (.slice pv row.length cv)).setCell ⟨w.heap.size + 1, 0, none⟩ (.int .i64 0)).cell? ⟨w.heap.size + 1, 0, none⟩ = some (.int .i64 0) := by go_simp
      refine ⟨.tuple #[.slice pv row.length cv, .int .i64 0], by simp [results, Tryd.results6, go_sem, r2, r3], _, rfl, own_mono (StrRow.low (StrRow.low HO2.out (by omega)) (by omega)) (by omega), (hB.setCell (show w.heap.size ≤ w.heap.size from Nat.le_refl _) _).setCell (show w.heap.size ≤ w.heap.size + 1 by omega) _⟩
end Go.Proofs.YtjddmcecllhlhaaDoor

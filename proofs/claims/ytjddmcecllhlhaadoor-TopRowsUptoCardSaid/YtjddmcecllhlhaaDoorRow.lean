/-
  fields.Text and fields.Join: how rows are written.
-/
import Derived.Test.YtjddmcecllhlhaaDoorIdy
import Derived.Laws.OwnMore
namespace Go.Proofs.YtjddmcecllhlhaaDoor
open Go.RowKit
/-- How a field may be written. -/
def Ft (f t : List UInt8) : Prop := (∀ b ∈ f, b ≠ 34) ∧ (t = 34 :: (f ++ [34]) ∨ (t = f ∧ f ≠ [] ∧ ∀ b ∈ f, b ≠ 32 ∧ b ≠ 9 ∧ b ≠ 35))
theorem index_neg {l : List UInt8} {c : UInt8} (h : Lib.indexByte l c < 0) : ∀ b ∈ l, b ≠ c := by
  induction l with
  | nil => intro b hb; cases hb
  | cons x l ih =>
    rw [Lib.indexByte] at h
    intro b hb
    by_cases hx : x = c
    · rw [if_pos (by simpa using hx)] at h
      omega
    · rw [if_neg (by simpa using hx)] at h
      rcases List.mem_cons.1 hb with rfl | hb
      · exact hx
      · refine ih ?_ b hb
        split at h
        · rename_i e
          have := eq_of_beq e
          omega
        · omega
set_option maxRecDepth 100000 in
theorem fields_Text (f : ByteArray) (hf : f.size ≤ 4294967280) (w : World) : Calls Tryd.prog 21 #[.string f] w fun e w' => ∃ t E, e = .returned (.tuple #[.string t, .int .i64 E]) ∧ (E = 8 ∨ (E = 0 ∧ Ft f.data.toList t.data.toList ∧ t.size ≤ f.size + 2)) ∧ Below w.heap.size w w' := by
  have hR : ∀ W : World, Calls Tryd.prog 49 #[.string f, .int .i32 34] W fun e w' => e = .returned (.bool (decide (0 ≤ Lib.indexByte f.data.toList 34))) ∧ W = w' := fun W => by
    have := Tryd.strings_ContainsRune_ascii f 34 W (by omega) (by omega)
    exact this.mono fun _ _ ⟨h1, h2⟩ => ⟨h1, h2.symm⟩
  by_cases h0 : 0 ≤ Lib.indexByte f.data.toList 34
  · rw [decide_eq_true h0] at hR
    clear h0
    go_enter Tryd.func21, Tryd.ntmps21
    go_wp2_with (go_at_call 49; refine (hR _).mono ?_; rintro e w' ⟨rfl, rfl⟩)
    go_ret2
    exact ⟨_, _, rfl, .inl rfl, Below.refl _ _⟩
  · rw [decide_eq_false h0] at hR
    have HN := Lib.hid (index_neg (show Lib.indexByte f.data.toList 34 < 0 by omega))
    clear h0
    have hQ : Ft f.data.toList ((⟨#[34]⟩ : ByteArray) ++ f ++ ⟨#[34]⟩).data.toList ∧ ((⟨#[34]⟩ : ByteArray) ++ f ++ ⟨#[34]⟩).size ≤ f.size + 2 := by
      refine ⟨⟨HN.out, .inl ?_⟩, ?_⟩
      · simp [ByteArray.data_append]
      · simp only [ByteArray.size_append]
        show 1 + f.size + 1 ≤ _
        omega
    have HQ := Lib.hid hQ
    clear hQ
    by_cases he : f.toList.isEmpty = true
    · go_enter Tryd.func21, Tryd.ntmps21
      go_wp2_with (go_at_call 49; refine (hR _).mono ?_; rintro e w' ⟨rfl, rfl⟩)
      go_ret2
      exact ⟨_, _, rfl, .inr ⟨rfl, HQ.out⟩, Below.refl _ _⟩
    · have he' : f.toList.isEmpty = false := by simpa using he
      have hC := ContainsAny_marks f hf w
      go_enter Tryd.func21, Tryd.ntmps21
      go_wp2_with (go_at_call 49; refine (hR _).mono ?_; rintro e w' ⟨rfl, rfl⟩)
      refine hC.mono ?_
      rintro e w1 ⟨⟨v, rfl, hv⟩, hb⟩
      cases v with
      | true =>
        clear hv
        go_wp2_with fail
        go_ret2
        exact ⟨_, _, rfl, .inr ⟨rfl, HQ.out⟩, hb⟩
      | false =>
        have HV := Lib.hid (hv rfl)
        clear hv
        go_wp2_with fail
        go_ret2
        refine ⟨_, _, rfl, .inr ⟨rfl, ⟨HN.out, .inr ⟨rfl, ?_, HV.out⟩⟩, by omega⟩, hb⟩
        intro h
        rw [Lib.toList_data, h] at he'
        cases he'
/-- Where a slice's texts lie. -/
def StrAt (w : World) (b off : Nat) (l : List ByteArray) : Prop := ∀ (k : Nat) x, l[k]? = some x → w.cell? ⟨b, off + k, none⟩ = some (.string x)
def StrS (w : World) (p : Option Addr) (l : List ByteArray) : Prop := l = [] ∨ ∃ b off, p = some ⟨b, off, none⟩ ∧ b < w.heap.size ∧ StrAt w b off l
theorem StrAt.below {w w' : World} {b off B : Nat} {l : List ByteArray} (h : StrAt w b off l) (hb : Below B w w') (hB : b < B) : StrAt w' b off l := fun k x hx => (hb.cell (p := ⟨b, _, none⟩) hB).trans (h k x hx)
theorem StrS.below {w w' : World} {p : Option Addr} {l : List ByteArray} (h : StrS w p l) (hb : Below w.heap.size w w') : StrS w' p l := by
  rcases h with h | ⟨b, off, e, hl, hc⟩
  · exact .inl h
  · exact .inr ⟨b, off, e, Nat.lt_of_lt_of_le hl hb.size, hc.below hb hl⟩
/-- How a row is written. -/
def Wrt (row : List ByteArray) (s : ByteArray) : Prop := row.length ≤ 16 ∧ ∃ ts : List (List UInt8), ts.length = row.length ∧ (∀ (k : Nat) f t, row[k]? = some f → ts[k]? = some t → Ft f.data.toList t) ∧ s = ⟨(Lib.join ts [32]).toArray⟩
theorem join_cc (t u : List UInt8) (ts : List (List UInt8)) (s : List UInt8) : Lib.join (t :: u :: ts) s = t ++ (s ++ Lib.join (u :: ts) s) := by
  simp [Lib.join, List.intercalate, List.intersperse]
theorem join_one (t : List UInt8) (s : List UInt8) : Lib.join [t] s = t := by
  simp [Lib.join, List.intercalate, List.intersperse]
theorem join_len (ts : List (List UInt8)) (M : Nat) (h : ∀ t ∈ ts, t.length ≤ M) : (Lib.join ts [32]).length ≤ ts.length * (M + 1) := by
  induction ts with
  | nil => simp [Lib.join]
  | cons t ts ih =>
    have h1 := h t List.mem_cons_self
    have h2 := ih (fun x hx => h x (List.mem_cons_of_mem _ hx))
    cases ts with
    | nil => rw [join_one]; simp; omega
    | cons u ts =>
      rw [join_cc, List.length_append, List.length_append, List.length_cons (a := t), Nat.add_mul _ 1, Nat.one_mul]
      simp only [List.length_cons, List.length_nil] at *
      omega
theorem Tryd.infoStr : (Tryd.prog.info? 9).map (fun i => (i.zero, i.size, i.bytes)) = some (some (.string ⟨#[]⟩), 1, 16) := by kernel_rfl
theorem own_keep {w w' : World} {B : Nat} {e : TypeId} {size : Nat} {v : Value} {n : Nat} {xs : List Value} (h : w.ownsRow B e size v n xs) (hb : Below w.heap.size w w') : w'.ownsRow B e size v n xs := by
  obtain ⟨h1, h2⟩ := h
  refine ⟨h1, ?_⟩
  rcases h2 with h2 | ⟨g, cap, cur, hv, hg, hh, r⟩
  · exact .inl h2
  · exact .inr ⟨g, cap, cur, hv, hg, by rw [hb.block g (Array.getElem?_eq_some_iff.1 hh).1]; exact hh, r⟩
set_option maxRecDepth 100000 in
set_option maxHeartbeats 4000000 in
theorem fields_Join {w : World} {p : Option Addr} {row : List ByteArray} (cap : Nat) (h : StrS w p row) (hf : ∀ f ∈ row, f.size ≤ 1048576) : Calls Tryd.prog 7 #[.slice p row.length cap] w fun e w' => ∃ s E, e = .returned (.tuple #[.string s, .int .i64 E]) ∧ (E ≠ 0 ∨ (E = 0 ∧ Wrt row s)) ∧ Below w.heap.size w w' := by
  by_cases h16 : 16 < row.length
  · have h16' : (16 : Int) < (row.length : Int) := by omega
    clear h
    go_enter Tryd.func7, Tryd.ntmps7
    go_wp2_with fail
    go_ret2
    exact ⟨_, _, rfl, .inl (by decide), Below.refl _ _⟩
  have h16' : ¬ (16 : Int) < (row.length : Int) := by omega
  obtain ⟨i0, hi, hz0, hz1, hz2⟩ := info_parts Tryd.infoStr
  obtain ⟨w1, hrun, hown, hgrow⟩ := run_make_full (P := Tryd.prog) w w.heap.size 23 9 i0 _ 1 Tryd.underlying23 hi hz0 hz1 .i64 .i64 row.length (by rw [hz2]; omega) (by unfold maxLen; omega) (Nat.le_refl _)
  have hB1 : Below w.heap.size w w1 := (Below.refl _ _).grown hgrow (Nat.le_refl _) (fun k hk => by cases hk)
  have HR := Lib.hid h
  have HF := Lib.hid hf
  have hown0 := Lib.hid hown
  clear h hf hgrow hi hz0 hz1 hz2 hown
  have hlen : (madeCells (Value.string ⟨#[]⟩).cells (row.length * 1)).toList.length = row.length := by have := hown0.out.1; omega
  go_enter Tryd.func7, Tryd.ntmps7
  go_wp2_with fail
  go_loopw [17, 5, 6, 7, 8] (fun i _ _ _ _ wr => ∃ (k : Nat) (ts : List ByteArray) (rest : List Value), i = .int .i64 k ∧ k + rest.length = row.length ∧ ts.length = k ∧ Hid (wr.ownsRow w.heap.size 9 1 (.slice (some ⟨w.heap.size, 0, none⟩) row.length row.length) row.length (ts.map Value.string ++ rest)) ∧ Hid (∀ (j : Nat) f t, row[j]? = some f → ts[j]? = some t → Ft f.data.toList t.data.toList ∧ t.size ≤ f.size + 2) ∧ Below w.heap.size w wr) (fun i _ _ _ _ _ => row.length - (intOf i).toNat)
  case atStart => exact ⟨0, [], _, rfl, by rw [Nat.zero_add]; exact hlen, rfl, Lib.hid hown0.out, Lib.hid (fun j f t _ h => by simp at h), hB1⟩
  case round =>
    obtain ⟨k, ts, rest, rfl, hkr, htk, HO, HT, hB⟩ := hrel
    have hsz := hB.size
    by_cases hlt : k < row.length
    · have b0 : (k : Int) < (row.length : Int) := by omega
      have b1 : 0 ≤ (k : Int) := by omega
      obtain ⟨f, hfk⟩ : ∃ f, row[k]? = some f := ⟨row[k], List.getElem?_eq_getElem hlt⟩
      obtain ⟨bk, off, hp, hbk, hc⟩ : ∃ b off, p = some ⟨b, off, none⟩ ∧ b < w.heap.size ∧ StrAt w b off row := by
        rcases HR.out with h | h
        · rw [h] at hlt; cases hlt
        · exact h
      subst hp
      have d0 := (hB.cell (p := ⟨bk, off + k, none⟩) hbk).trans (hc k f hfk)
      have hbk' := Nat.lt_of_lt_of_le hbk hsz
      clear hc
      cases rest with
      | nil => simp at hkr; omega
      | cons r rest =>
        have c0 := (HO.out.cellAt k (by omega)).trans (show (ts.map Value.string ++ r :: rest)[k]? = some r by rw [List.getElem?_append_right (by simp; omega)]; simp [htk])
        have hfz := HO.out.frozenAt k
        have zb : w.heap.size < wr.heap.size := by
          obtain ⟨_, h2⟩ := HO.out
          rcases h2 with ⟨h, _⟩ | ⟨g, c, cu, hv, hg, hh, _⟩
          · cases h
          · have := (Array.getElem?_eq_some_iff.1 hh).1
            simp at hv
            omega
        have hTx := fields_Text f (by have := HF.out f (List.mem_of_getElem? hfk); omega)
        have HK := Lib.hid hfk
        clear hfk
        go_wp2_with fail
        refine (hTx _).mono ?_
        rintro e w2 ⟨t, E, rfl, hE, hb2⟩
        rcases hE with rfl | ⟨rfl, hE⟩
        · go_wp2_with fail
          go_ret2
          exact ⟨_, _, rfl, .inl (by decide), hB.trans (hb2.mono hB.size)⟩
        · have HE := Lib.hid hE
          have HO2 := Lib.hid (own_keep HO.out hb2)
          have c2 := (hb2.cell (p := ⟨w.heap.size, k, none⟩) zb).trans c0
          have f2 := (hb2.frozen (p := ⟨w.heap.size, k, none⟩) zb).trans hfz
          have B2 : Below w.heap.size w w2 := hB.trans (hb2.mono hB.size)
          clear hE c0 hfz hb2 d0
          go_wp2_with fail
          go_roundw
          case rel => exact ⟨k + 1, ts ++ [t], rest, by go_num, by simp at hkr ⊢; omega, by simp [htk], Lib.hid (by
            have h := (HO2.out.stored k (.string t)).1
            rw [List.set_append_right _ _ (by simp [htk])] at h
            simpa [htk] using h), Lib.hid (fun j f' t' h1 h2 => by
              by_cases hj : j < ts.length
              · rw [List.getElem?_append_left hj] at h2
                exact HT.out j f' t' h1 h2
              · rw [List.getElem?_append_right (by omega)] at h2
                have hj0 : j = k := by
                  rcases Nat.lt_or_ge j (k + 1) with h | h
                  · omega
                  · rw [List.getElem?_eq_none (by simp; omega)] at h2; cases h2
                subst hj0
                rw [show j - ts.length = 0 by omega] at h2
                cases h2
                rw [HK.out] at h1
                cases h1
                exact HE.out), B2.setCell (p := ⟨w.heap.size, k, none⟩) (Nat.le_refl _) _⟩
          case measure => simp [intOf]; omega
    · obtain rfl : k = row.length := by omega
      obtain rfl : rest = [] := List.eq_nil_of_length_eq_zero (by omega)
      have hfz := HO.out.frozenAt 0
      have zb : w.heap.size < wr.heap.size := by
        obtain ⟨_, h2⟩ := HO.out
        rcases h2 with ⟨h, _⟩ | ⟨g, c, cu, hv, hg, hh, _⟩
        · cases h
        · have := (Array.getElem?_eq_some_iff.1 hh).1
          simp at hv
          omega
      have hcell : ∀ (j : Nat) x, ts[j]? = some x → wr.cell? ⟨w.heap.size, 0 + j, none⟩ = some (.string x) := fun j x hx => by
        have hj : j < row.length := by rw [← htk]; exact (List.getElem?_eq_some_iff.1 hx).1
        rw [Nat.zero_add]
        refine (HO.out.cellAt j (by omega)).trans ?_
        rw [List.append_nil, List.getElem?_map, hx]
        rfl
      have hlens : ∀ t ∈ ts.map (·.data.toList), t.length ≤ 1048578 := fun t ht => by
        obtain ⟨x, hx, rfl⟩ := List.mem_map.1 ht
        obtain ⟨j, hj, rfl⟩ := List.mem_iff_getElem.1 hx
        have h1 := HT.out j row[j] ts[j] (List.getElem?_eq_getElem (by omega)) (List.getElem?_eq_getElem hj)
        have h2 := HF.out row[j] (List.getElem_mem _)
        have : ts[j].data.toList.length = ts[j].size := by simp
        omega
      have hjl := join_len _ _ hlens
      have hw : Hid (Wrt row ⟨(Lib.join (ts.map (·.data.toList)) [32]).toArray⟩) := Lib.hid ⟨by omega, ts.map (·.data.toList), by simp [htk], fun j f t h1 h2 => by
        rw [List.getElem?_map] at h2
        cases h3 : ts[j]? with
        | none => rw [h3] at h2; cases h2
        | some x => rw [h3] at h2; cases h2; exact (HT.out j f x h1 h3).1, rfl⟩
      have hJ : Calls Tryd.prog 22 #[.slice (some ⟨w.heap.size, 0, none⟩) row.length row.length, .string ((⟨#[32, 9]⟩ : ByteArray).extract 0 1)] wr fun e w' => e = .returned (.string ⟨(Lib.join (ts.map (·.data.toList)) [32]).toArray⟩) ∧ Below wr.heap.size wr w' := by
        rw [show (⟨#[32, 9]⟩ : ByteArray).extract 0 1 = ⟨#[32]⟩ by decide +kernel]
        by_cases h0 : ts = []
        · subst h0
          have hr : row.length = 0 := by simpa using htk.symm
          rw [hr]
          refine (Tryd.strings_Join_none (some ⟨w.heap.size, 0, none⟩) 0 ⟨#[32]⟩ wr).mono ?_
          rintro e w' ⟨rfl, rfl⟩
          exact ⟨rfl, Below.refl _ _⟩
        · rw [← htk]
          exact Tryd.strings_Join w.heap.size 0 ts.length ts ⟨#[32]⟩ wr hcell zb (by omega) (Nat.le_refl _) (by
            rw [List.length_map] at hjl
            have : ts.length * (1048578 + 1) ≤ 16 * 1048579 := Nat.mul_le_mul_right _ (by omega)
            show (Lib.join (ts.map (·.data.toList)) [32]).length ≤ _
            omega)
      clear HO HT hlens hcell hjl HR HF hfz hown0
      go_wp2_with fail
      refine hJ.mono ?_
      rintro e w3 ⟨rfl, hb3⟩
      go_wp2_with fail
      go_ret2
      exact ⟨_, _, rfl, .inr ⟨rfl, hw.out⟩, hB.trans (hb3.mono hB.size)⟩
end Go.Proofs.YtjddmcecllhlhaaDoor

/-
  The pieces of a drawn region in the order of its text, by quick closed tests.
-/
import Derived.Test.YtlnfffenahjcnaaSeg
import Derived.Test.YtlnfffenahjcnaaFast
namespace Go.Proofs.Ytlnfffenahjcnaa
open Go
section
variable {P : Program} {md : Region.Mode} {ops : Array Oper}
/-- So many operations are done, in the text's order. -/
def upD (N k : Nat) : Array Bool := (List.replicate k true ++ List.replicate (N - k) false).toArray
theorem upD_upto {k : Nat} (h : k ≤ ops.size) : Upto ops k (upD ops.size k) := by
  refine ⟨by simp [upD]; omega, fun j hj hs => ?_, fun j hj hs => ?_⟩
  · simp only [upD, List.getElem?_toArray]
    rw [List.getElem?_append_left (by simpa using hj), List.getElem?_replicate, if_pos hj]
  · simp only [upD, List.getElem?_toArray]
    rw [List.getElem?_append_right (by simpa using hj), List.length_replicate, List.getElem?_replicate, if_pos (by omega)]
theorem Upto.eq {k : Nat} {d : Array Bool} (h : Upto ops k d) (hk : k ≤ ops.size) : d = upD ops.size k := by
  have h2 := upD_upto (ops := ops) hk
  refine Array.ext (by rw [h.size, h2.size]) fun j h3 h4 => ?_
  have hs : j < ops.size := by rw [← h.size]; exact h3
  by_cases e : j < k
  · have a := h.yes j e hs
    have b := h2.yes j e hs
    rw [Array.getElem?_eq_getElem h3] at a
    rw [Array.getElem?_eq_getElem h4] at b
    exact (Option.some.inj a).trans (Option.some.inj b).symm
  · have a := h.no j (by omega) hs
    have b := h2.no j (by omega) hs
    rw [Array.getElem?_eq_getElem h3] at a
    rw [Array.getElem?_eq_getElem h4] at b
    exact (Option.some.inj a).trans (Option.some.inj b).symm
theorem upD_step {k : Nat} (h : k < ops.size) : (upD ops.size k).setIfInBounds k true = upD ops.size (k + 1) := (upD_upto (Nat.le_of_lt h)).step h |>.eq h
theorem ready_is (he : earlyB md 0 ops.toList = true) {k : Nat} {d : Array Bool} (h : Upto ops k d) (hk : k < ops.size) (hj : ∀ j, j ∈ Region.ready md ops d → j = k) : Region.ready md ops d = [k] := by
  have hr := early_ready he h hk
  unfold Region.ready at *
  rw [range_parts hk, List.filter_append, List.filter_cons] at *
  have h1 : (List.range k).filter (fun i => !d.getD i true && ((ops[i]?).map (·.after.all fun e => !Region.binds md e || d.getD e.on false)).getD false) = [] := by
    refine List.filter_eq_nil_iff.2 fun j hm hp => ?_
    have := hj j (by rw [List.mem_append]; exact .inl (List.mem_filter.2 ⟨hm, hp⟩))
    rw [List.mem_range] at hm
    omega
  have h2 : (List.range' (k + 1) (ops.size - k - 1)).filter (fun i => !d.getD i true && ((ops[i]?).map (·.after.all fun e => !Region.binds md e || d.getD e.on false)).getD false) = [] := by
    refine List.filter_eq_nil_iff.2 fun j hm hp => ?_
    have := hj j (by
      rw [List.mem_append]; refine .inr ?_
      split
      · exact List.mem_cons_of_mem _ (List.mem_filter.2 ⟨hm, hp⟩)
      · exact List.mem_filter.2 ⟨hm, hp⟩)
    rw [List.mem_range'] at hm
    omega
  rw [h1, h2] at hr ⊢
  split at hr
  · rename_i hh; rw [if_pos hh]; rfl
  · simp at hr
/-- Each operation behind k waits for one that stands at its back, or at the run's end. -/
def backB (md : Region.Mode) (k top : Nat) : Nat → List Oper → Bool
  | _, [] => true
  | j, o :: l => (decide (j ≤ k) || o.after.any (fun e => Region.binds md e && decide (min (j - 1) top ≤ e.on))) && backB md k top (j + 1) l
theorem back_at {k top : Nat} : ∀ (l : List Oper) (j : Nat), backB md k top j l = true → ∀ i o, l[i]? = some o → k < j + i → ∃ e ∈ o.after, Region.binds md e = true ∧ min (j + i - 1) top ≤ e.on
  | [], _, _, i, o, ho, _ => by simp at ho
  | x :: l, j, h, 0, o, ho, hk => by
    simp only [backB, Bool.and_eq_true, Bool.or_eq_true, decide_eq_true_eq] at h
    obtain rfl : x = o := by simpa using ho
    rcases h.1 with h1 | h1
    · omega
    · obtain ⟨i, hi, h2⟩ := Array.any_eq_true.1 h1
      simp only [Bool.and_eq_true, decide_eq_true_eq] at h2
      exact ⟨_, Array.getElem_mem hi, h2.1, by simpa using h2.2⟩
  | x :: l, j, h, i + 1, o, ho, hk => by
    simp only [backB, Bool.and_eq_true] at h
    obtain ⟨e, h1, h2, h3⟩ := back_at l (j + 1) h.2 i o (by simpa using ho) (by omega)
    exact ⟨e, h1, h2, by rw [show j + (i + 1) - 1 = j + 1 + i - 1 by omega]; exact h3⟩
def segB (md : Region.Mode) (l : List Oper) (k n : Nat) : Bool := decide (0 < n) && decide (k + n ≤ l.length) && earlyB md 0 l && backB md k (k + n - 1) 0 l
theorem seg_run {l : List Oper} {k n : Nat} (h : segB md l k n = true) : ∀ (g k' : Nat), k ≤ k' → k' + g = k + n → runB md l.toArray g k' (upD l.toArray.size k') = true ∧ runD g k' (upD l.toArray.size k') = upD l.toArray.size (k + n) := by
  simp only [segB, Bool.and_eq_true, decide_eq_true_eq] at h
  obtain ⟨⟨⟨h0, h1⟩, h2⟩, h3⟩ := h
  intro g
  induction g with
  | zero =>
    intro k' hk hg
    obtain rfl : k' = k + n := by omega
    exact ⟨rfl, rfl⟩
  | succ g ih =>
    intro k' hk hg
    have hs : k' < l.toArray.size := by simp; omega
    have hu := upD_upto (ops := l.toArray) (Nat.le_of_lt hs)
    obtain ⟨i1, i2⟩ := ih (k' + 1) (by omega) (by omega)
    have hr : Region.ready md l.toArray (upD l.toArray.size k') = [k'] := by
      refine ready_is (by simpa using h2) hu hs fun j hj => ?_
      obtain ⟨hun, oj, ho, hall⟩ := mem_ready.1 hj
      have hjs : j < l.toArray.size := by
        rcases Nat.lt_or_ge j l.toArray.size with h | h
        · exact h
        · rw [Array.getElem?_eq_none h] at ho; cases ho
      apply Classical.byContradiction
      intro hne
      rcases Nat.lt_or_ge j k' with hlt | hge
      · have := hu.yes j hlt hjs
        rw [getD_opt this] at hun
        cases hun
      · have ho' : l[j]? = some oj := by simpa using ho
        obtain ⟨e, m1, m2, m3⟩ := back_at l 0 h3 j oj ho' (by omega)
        have m4 := early_at l 0 h2 j oj ho' e m1 m2
        have m5 := hall e m1 m2
        rw [getD_opt (hu.no e.on (by omega) (by omega))] at m5
        cases m5
    refine ⟨?_, ?_⟩
    · unfold runB
      rw [hr, upD_step hs, i1]
      simp
    · unfold runD
      rw [upD_step hs, i2]
/-- A drawn region, its pieces one by one. -/
theorem wp_region_pieces {id : Nat} {Q : Exit → Act → World → Prop} {a : Act} {w : World} {l : List Oper} (N : Nat) (hm : P.follows .mixedOrders = true) (hN : l.length = N)
    (h : wpAny P .any l.toArray Q N (upD N 0) a w.drew) : (Code.region id l.toArray true).wp P Q a w := by
  refine wp_region_any hm ?_
  subst hN
  rw [show Array.replicate l.toArray.size false = upD l.length 0 by simp [upD], show l.toArray.size = l.length by simp]
  exact h
theorem wpAny_as {Q : Exit → Act → World → Prop} {f : Nat} {d : Array Bool} (d' : Array Bool) {a : Act} {w : World} (h : d = d') (H : wpAny P md ops Q f d' a w) : wpAny P md ops Q f d a w := h ▸ H
/-- A run that is forced. -/
theorem any_run {l : List Oper} {Q : Exit → Act → World → Prop} {a : Act} {w : World} (N k n f : Nat) {F : Nat} (hN : l.length = N) (hF : F = n + f) (hB : segB md l k n = true)
    (h : wpList P l.toArray (thenAny P md l.toArray Q f (upD N (k + n))) ((l.drop k).take n) a w) : wpAny P md l.toArray Q F (upD N k) a w := by
  subst hF
  subst hN
  obtain ⟨h1, h2⟩ := seg_run hB n k (Nat.le_refl _) rfl
  simp only [List.size_toArray] at h1 h2
  have hl : ((l.drop k).take n).length = n := by
    simp only [segB, Bool.and_eq_true, decide_eq_true_eq] at hB
    simp
    omega
  have := wpAny_run (P := P) (md := md) (ops := l.toArray) (Q := Q) (f := f) ((l.drop k).take n) k (upD l.length k) (upD l.length (k + n)) a w (fun j hj => by
    rw [hl] at hj
    rw [List.getElem?_take_of_lt hj, List.getElem?_drop]
    simp) (by rw [hl]; exact h1) (by rw [hl]; exact h2) h
  rw [hl] at this
  exact this
/-- The last run. -/
theorem any_end {l : List Oper} {Q : Exit → Act → World → Prop} {a : Act} {w : World} (N k n : Nat) {F : Nat} (hN : l.length = N) (hk : k + n = N) (hF : F = n) (hB : segB md l k n = true)
    (h : wpList P l.toArray Q (l.drop k) a w) : wpAny P md l.toArray Q F (upD N k) a w := by
  subst hF
  subst hN
  obtain ⟨h1, h2⟩ := seg_run hB F k (Nat.le_refl _) rfl
  simp only [List.size_toArray] at h1 h2
  have hl : (l.drop k).length = F := by simp; omega
  have hq : ∀ (g k' : Nat) (d : Array Bool), runB md l.toArray g k' d = true → (Region.ready md l.toArray (runD g k' d)) = [] → Region.seqB md l.toArray g k' d = true := by
    intro g
    induction g with
    | zero => intro k' d _ h; unfold Region.seqB; unfold runD at h; rw [h]; rfl
    | succ g ih =>
      intro k' d hb h
      unfold runB at hb
      unfold runD at h
      simp only [Bool.and_eq_true] at hb
      unfold Region.seqB
      rw [hb.1, ih _ _ hb.2 h]
      rfl
  have hend : Region.ready md l.toArray (upD l.length (k + F)) = [] := by
    have hu := upD_upto (ops := l.toArray) (k := l.length) (by simp)
    simp only [List.size_toArray] at hu
    rw [hk]
    refine List.eq_nil_iff_forall_not_mem.2 fun j hj => ?_
    obtain ⟨hun, oj, ho, hall⟩ := mem_ready.1 hj
    have hjs : j < l.length := by
      rcases Nat.lt_or_ge j l.toArray.size with h | h
      · simpa using h
      · rw [Array.getElem?_eq_none h] at ho; cases ho
    have := hu.yes j hjs (by simpa using hjs)
    rw [getD_opt this] at hun
    cases hun
  have := wpAny_of_seq (P := P) (md := md) (ops := l.toArray) (Q' := Q) (l.drop k) k (upD l.length k) a w (fun j => by simp [List.getElem?_drop]) (by rw [hl]; exact hq F k _ h1 (by rw [h2]; exact hend)) h
  rw [hl] at this
  exact this
/-- An operation that looks at no memory, at its place in the text. -/
def floatB (md : Region.Mode) (l : List Oper) (k : Nat) : Bool :=
  decide (k < l.length) && Region.noSelect l.toArray && earlyB md 0 l && (match l[k]? with | some o => (l.drop (k + 1)).all (fun oj => oj.after.any (fun e => Region.binds md e && e.on == k) || o.apart l.toArray oj) | none => false)
theorem any_float {l : List Oper} {Q : Exit → Act → World → Prop} {a : Act} {w : World} (N k f : Nat) {F : Nat} {o : Oper} (v : Value) (hN : l.length = N) (hF : F = f + 1) (ho : l[k]? = some o) (hB : floatB md l k = true)
    (hQ : ∀ c a d v w, Q (.panic c) (Act.put a d v) w → Q (.panic c) a w) (hy : PureY P l.toArray o v a)
    (h : wpAny P md l.toArray Q f (upD N (k + 1)) (a.put o.dst v) w) : wpAny P md l.toArray Q F (upD N k) a w := by
  subst hF
  subst hN
  simp only [floatB, Bool.and_eq_true, decide_eq_true_eq] at hB
  obtain ⟨⟨⟨h1, h2⟩, h3⟩, h4⟩ := hB
  rw [ho] at h4
  simp only at h4
  have hs : k < l.toArray.size := by simpa using h1
  have hu := upD_upto (ops := l.toArray) (Nat.le_of_lt hs)
  have hst := upD_step hs
  simp only [List.size_toArray] at hu hst
  refine wpAny_first hQ (by simpa using ho) (Region.noSelect_spec h2) f _ a w (fun j oj hj hji hun hno => ?_) (early_ready (by simpa using h3) hu hs) hy (by rw [hst]; exact h)
  have hjs : j < l.length := by
    rcases Nat.lt_or_ge j l.toArray.size with h | h
    · simpa using h
    · rw [Array.getElem?_eq_none h] at hj; cases hj
  rcases Nat.lt_or_ge j k with hlt | hge
  · have := hu.yes j hlt (by simpa using hjs)
    rw [getD_opt this] at hun
    cases hun
  · have hm : oj ∈ l.drop (k + 1) := by
      refine List.mem_of_getElem? (i := j - (k + 1)) ?_
      rw [List.getElem?_drop, show k + 1 + (j - (k + 1)) = j by omega]
      simpa using hj
    have := List.all_eq_true.1 h4 oj hm
    simp only [Bool.or_eq_true] at this
    rcases this with h5 | h5
    · obtain ⟨i, hi, h6⟩ := Array.any_eq_true.1 h5
      simp only [Bool.and_eq_true, beq_iff_eq] at h6
      exact absurd h6.2 (hno _ (Array.getElem_mem hi) h6.1)
    · exact h5
end
end Go.Proofs.Ytlnfffenahjcnaa

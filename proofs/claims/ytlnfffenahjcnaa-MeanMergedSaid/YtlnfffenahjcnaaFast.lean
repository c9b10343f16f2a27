/-
  A quicker test of the text order for big regions whose order is drawn.
-/
import Derived.Test.YtlnfffenahjcnaaTail
namespace Go.Proofs.Ytlnfffenahjcnaa
section
variable {ops : Array Oper} {md : Region.Mode}
def earlyB (md : Region.Mode) : Nat → List Oper → Bool
  | _, [] => true
  | k, o :: l => (o.after.all fun e => !Region.binds md e || decide (e.on < k)) && earlyB md (k + 1) l
def aloneB (md : Region.Mode) (ops : Array Oper) : Nat → Nat → List Oper → Bool
  | 0, _, _ => true
  | _ + 1, _, [] => true
  | f + 1, k, o :: l => (l.all fun oj => oj.after.any (fun e => Region.binds md e && e.on == k) || o.apart ops oj) && aloneB md ops f (k + 1) l
theorem early_at : ∀ (l : List Oper) (k : Nat), earlyB md k l = true → ∀ j o, l[j]? = some o → ∀ e ∈ o.after, Region.binds md e = true → e.on < k + j
  | [], _, _, j, o, hj, _, _, _ => by simp at hj
  | o :: l, k, h, 0, o', hj, e, he, hb => by
    simp only [earlyB, Bool.and_eq_true] at h
    obtain rfl : o = o' := by simpa using hj
    have := Array.all_eq_true_iff_forall_mem.1 h.1 e he
    simpa [hb] using this
  | o :: l, k, h, j + 1, o', hj, e, he, hb => by
    simp only [earlyB, Bool.and_eq_true] at h
    have := early_at l (k + 1) h.2 j o' (by simpa using hj) e he hb
    omega
theorem alone_at : ∀ (l : List Oper) (f k : Nat), aloneB md ops f k l = true → ∀ i o, i < f → l[i]? = some o → ∀ j oj, i < j → l[j]? = some oj → (oj.after.any (fun e => Region.binds md e && e.on == k + i) || o.apart ops oj) = true
  | [], f, k, h, i, o, hi, ho => by simp at ho
  | x :: l, 0, k, h, i, o, hi, ho => by omega
  | x :: l, f + 1, k, h, 0, o, hi, ho => by
    intro j oj hj hoj
    simp only [aloneB, Bool.and_eq_true] at h
    obtain rfl : x = o := by simpa using ho
    obtain ⟨j', rfl⟩ : ∃ j', j = j' + 1 := ⟨j - 1, by omega⟩
    exact List.all_eq_true.1 h.1 oj (List.mem_of_getElem? (by simpa using hoj))
  | x :: l, f + 1, k, h, i + 1, o, hi, ho => by
    intro j oj hj hoj
    simp only [aloneB, Bool.and_eq_true] at h
    obtain ⟨j', rfl⟩ : ∃ j', j = j' + 1 := ⟨j - 1, by omega⟩
    have := alone_at l f (k + 1) h.2 i o (by omega) (by simpa using ho) j' oj (by omega) (by simpa using hoj)
    rwa [show k + 1 + i = k + (i + 1) by omega] at this
structure Upto (ops : Array Oper) (k : Nat) (d : Array Bool) : Prop where
  size : d.size = ops.size
  yes : ∀ j, j < k → j < ops.size → d[j]? = some true
  no : ∀ j, k ≤ j → j < ops.size → d[j]? = some false
theorem Upto.step {k : Nat} {d : Array Bool} (h : Upto ops k d) (hk : k < ops.size) : Upto ops (k + 1) (d.setIfInBounds k true) := by
  refine ⟨by simp [h.size], fun j hj hs => ?_, fun j hj hs => ?_⟩
  · by_cases e : j = k
    · subst e; rw [Array.getElem?_setIfInBounds_self_of_lt (by rw [h.size]; exact hk)]
    · rw [Array.getElem?_setIfInBounds_ne (by omega)]; exact h.yes j (by omega) hs
  · rw [Array.getElem?_setIfInBounds_ne (by omega)]; exact h.no j (by omega) hs
theorem Upto.zero : Upto ops 0 (Array.replicate ops.size false) :=
  ⟨by simp, fun j hj => by omega, fun j _ hs => by simp [hs]⟩
theorem getD_opt {d : Array Bool} {j : Nat} {b c : Bool} (h : d[j]? = some b) : d.getD j c = b := by
  rw [Array.getD_eq_getD_getElem?, h]; rfl
theorem early_ready (he : earlyB md 0 ops.toList = true) {k : Nat} {d : Array Bool} (h : Upto ops k d) (hk : k < ops.size) : k ∈ Region.ready md ops d := by
  have ho : ops[k]? = some ops[k] := Array.getElem?_eq_getElem hk
  unfold Region.ready
  rw [List.mem_filter, List.mem_range]
  refine ⟨hk, ?_⟩
  rw [getD_opt (h.no k (Nat.le_refl _) hk), ho]
  simp only [Bool.not_false, Bool.true_and, Option.map_some, Option.getD_some]
  refine Array.all_eq_true_iff_forall_mem.2 fun e hm => ?_
  by_cases hb : Region.binds md e = true
  · have := early_at ops.toList 0 he k ops[k] (by simp) e hm hb
    rw [getD_opt (h.yes e.on (by omega) (by omega))]
    simp
  · simp at hb; simp [hb]
theorem alone_free {n : Nat} (ha : aloneB md ops n 0 ops.toList = true) {k : Nat} {d : Array Bool} (h : Upto ops k d) (hk : k < ops.size) (hn : k < n) : Region.free md ops d k = true := by
  have ho : ops[k]? = some ops[k] := Array.getElem?_eq_getElem hk
  unfold Region.free
  rw [ho]
  simp only [List.all_eq_true, List.mem_range]
  intro j hj
  have hoj : ops[j]? = some ops[j] := Array.getElem?_eq_getElem hj
  rw [hoj]
  by_cases h1 : j = k
  · simp [h1]
  · by_cases h2 : j < k
    · rw [getD_opt (h.yes j h2 hj)]; simp
    · have := alone_at ops.toList n 0 ha k ops[k] hn (by simp) j ops[j] (by omega) (by simp)
      rw [Nat.zero_add] at this
      simp only [this, Bool.or_true]
theorem range_parts {N k : Nat} (hk : k < N) : List.range N = List.range k ++ k :: List.range' (k + 1) (N - k - 1) := by
  rw [List.range_eq_range', List.range_eq_range', show N = k + (N - k - 1 + 1) by omega, ← List.range'_append_1, List.range'_succ]
  simp
theorem chain_ready {n : Nat} (hc : Region.chainB md ops n = true) {k : Nat} {d : Array Bool} (h : Upto ops k d) (hn : n ≤ k) {j : Nat} (hj : j ∈ Region.ready md ops d) : j = k := by
  unfold Region.ready at hj
  rw [List.mem_filter, List.mem_range] at hj
  obtain ⟨hs, hj⟩ := hj
  simp only [Bool.and_eq_true] at hj
  have hlt : ¬ j < k := fun hh => by
    have := hj.1
    rw [getD_opt (h.yes j hh hs)] at this
    simp at this
  by_cases e : j = k
  · exact e
  exfalso
  unfold Region.chainB at hc
  have := List.all_eq_true.1 hc j (List.mem_range.2 hs)
  simp only [Bool.or_eq_true, decide_eq_true_eq] at this
  rcases this with t | t
  · omega
  obtain ⟨oj, ho, e', hm, hb, hon⟩ := Region.waitsFor_spec t
  have h2 := hj.2
  rw [ho] at h2
  have := Array.all_eq_true_iff_forall_mem.1 h2 e' hm
  rw [hb, hon, getD_opt (h.no (j - 1) (by omega) (by omega))] at this
  simp at this
theorem ready_one (he : earlyB md 0 ops.toList = true) {n : Nat} (hc : Region.chainB md ops n = true) {k : Nat} {d : Array Bool} (h : Upto ops k d) (hn : n ≤ k) (hk : k < ops.size) : Region.ready md ops d = [k] := by
  have hr := early_ready he h hk
  have hj := fun j (hm : j ∈ Region.ready md ops d) => chain_ready hc h hn hm
  unfold Region.ready at *
  rw [range_parts hk, List.filter_append, List.filter_cons] at *
  have h1 : (List.range k).filter (fun i => !d.getD i true && ((ops[i]?).map (·.after.all fun e => !Region.binds md e || d.getD e.on false)).getD false) = [] := by
    refine List.filter_eq_nil_iff.2 fun j hm hp => ?_
    have := hj j (by rw [List.mem_append]; exact .inl (List.mem_filter.2 ⟨hm, hp⟩))
    rw [List.mem_range] at hm
    omega
  have h2 : (List.range' (k + 1) (ops.size - k - 1)).filter (fun i => !d.getD i true && ((ops[i]?).map (·.after.all fun e => !Region.binds md e || d.getD e.on false)).getD false) = [] := by
    refine List.filter_eq_nil_iff.2 fun j hm hp => ?_
    have := hj j (by
      rw [List.mem_append]; refine .inr ?_
      split
      · exact List.mem_cons_of_mem _ (List.mem_filter.2 ⟨hm, hp⟩)
      · exact List.mem_filter.2 ⟨hm, hp⟩)
    rw [List.mem_range'] at hm
    omega
  rw [h1, h2] at hr ⊢
  split at hr
  · rename_i hh; rw [if_pos hh]; rfl
  · simp at hr
theorem seq_of (he : earlyB md 0 ops.toList = true) {n : Nat} (hc : Region.chainB md ops n = true) : ∀ (g k : Nat) (d : Array Bool), Upto ops k d → n ≤ k → k + g = ops.size → Region.seqB md ops g k d = true
  | 0, k, d, h, hn, hg => by
    unfold Region.seqB
    rw [List.isEmpty_iff]
    refine List.eq_nil_iff_forall_not_mem.2 fun j hm => ?_
    have e := chain_ready hc h hn hm
    unfold Region.ready at hm
    rw [List.mem_filter, List.mem_range] at hm
    omega
  | g + 1, k, d, h, hn, hg => by
    unfold Region.seqB
    rw [ready_one he hc h hn (by omega)]
    simp only [decide_true, Bool.true_and]
    exact seq_of he hc g (k + 1) _ (h.step (by omega)) (by omega) (by omega)
theorem head_of (he : earlyB md 0 ops.toList = true) {n g : Nat} (hc : Region.chainB md ops n = true) (ha : aloneB md ops n 0 ops.toList = true) (hg : n + g = ops.size) : ∀ (f k : Nat) (d : Array Bool), Upto ops k d → k + f = n → Region.lexHead md ops g f k d = true
  | 0, k, d, h, hk => by
    unfold Region.lexHead
    exact seq_of he hc g k d h (by omega) (by omega)
  | f + 1, k, d, h, hk => by
    unfold Region.lexHead
    rw [alone_free ha h (by omega) (by omega), List.contains_iff_mem.2 (early_ready he h (by omega))]
    simp only [Bool.true_and]
    exact head_of he hc ha hg f (k + 1) _ (h.step (by omega)) (by omega)
def fastB (md : Region.Mode) (l : List Oper) (n : Nat) : Bool :=
  Region.noSelect l.toArray && decide (n < l.length) && Region.sinkB md l.toArray n && Region.chainB md l.toArray n && earlyB md 0 l && aloneB md l.toArray n 0 l
theorem fast_tail {l : List Oper} {n : Nat} (h : fastB md l n = true) : Region.lexTailB md l.toArray n = true := by
  simp only [fastB, Bool.and_eq_true, decide_eq_true_eq] at h
  obtain ⟨⟨⟨⟨⟨h1, h2⟩, h3⟩, h4⟩, h5⟩, h6⟩ := h
  unfold Region.lexTailB
  rw [h1, h3, h4, head_of (by simpa using h5) h4 (by simpa using h6) (by simp; omega) n 0 _ Upto.zero (by omega)]
  simp [h2]
end
end Go.Proofs.Ytlnfffenahjcnaa

/-
  Edges are sorted by where they lie.
-/
import Derived.Test.YtjddmcecllhlhaaEdh
import Derived.Test.YtjddmcecllhlhaaSrtL
namespace Go.Proofs.Ytjddmcecllhlhaa
open Go.RowKit Go.Shelf Go.Lib Go.Sort
def encEd (x : Pt) : List Value := [.int .i64 x.1, .int .i64 x.2.1, .int .i64 x.2.2]
theorem cmp_isNaN (x : Int) (w : World) : Calls Try.prog 33 #[.int .i64 x] w fun e w' => e = .returned (.bool false) ∧ w = w' := by
  go_enter Try.func33, Try.ntmps33
  go_wp2
  go_ret
  exact ⟨rfl, rfl⟩
theorem cmp_at (x y : Int) (w : World) : Calls Try.prog 29 #[.int .i64 x, .int .i64 y] w fun e w' => e = .returned (.int .i64 (Lib.compareInt x y)) ∧ w = w' := by
  by_cases h1 : x < y
  · have e : Lib.compareInt x y = -1 := by simp [Lib.compareInt, h1]
    rw [e]
    clear e
    go_enter Try.func29, Try.ntmps29
    go_wp2_with (go_at_call 33; refine (cmp_isNaN _ _).mono ?_; rintro e w' ⟨rfl, rfl⟩)
    go_ret
    exact ⟨rfl, rfl⟩
  · by_cases h2 : y < x
    · have e : Lib.compareInt x y = 1 := by simp [Lib.compareInt, h1, h2]
      rw [e]
      clear e
      go_enter Try.func29, Try.ntmps29
      go_wp2_with (go_at_call 33; refine (cmp_isNaN _ _).mono ?_; rintro e w' ⟨rfl, rfl⟩)
      go_ret
      exact ⟨rfl, rfl⟩
    · have e : Lib.compareInt x y = 0 := by simp [Lib.compareInt, h1, h2]
      rw [e]
      clear e
      go_enter Try.func29, Try.ntmps29
      go_wp2_with (go_at_call 33; refine (cmp_isNaN _ _).mono ?_; rintro e w' ⟨rfl, rfl⟩)
      go_ret
      exact ⟨rfl, rfl⟩
theorem cmp_edges (x y : Pt) (W : World) : Calls Try.prog 28 #[.agg #[.int .i64 x.1, .int .i64 x.2.1, .int .i64 x.2.2], .agg #[.int .i64 y.1, .int .i64 y.2.1, .int .i64 y.2.2]] W fun e w' => e = .returned (.int .i64 (Lib.compareInt x.1 y.1)) ∧ ∃ q os', w' = grow (W.drewN q) os' := by
  have hcon := fun W' => cmp_at x.1 y.1 W'
  generalize Lib.compareInt x.1 y.1 = r at hcon ⊢
  go_enter Try.func28, Try.ntmps28
  go_wp2_with (go_at_call 29; refine (hcon _).mono ?_; rintro e w' ⟨rfl, rfl⟩)
  go_ret
  exact ⟨rfl, 0, _, by rw [alloc_eq_grow, alloc_eq_grow, grow_grow]; rfl⟩
theorem lt_at (x y : Pt) : ltOf (fun x y : Pt => Lib.compareInt x.1 y.1) x y = decide (x.1 < y.1) := by
  unfold ltOf Lib.compareInt
  by_cases h1 : x.1 < y.1
  · simp [h1]
  · by_cases h2 : y.1 < x.1 <;> simp [h1, h2]
theorem swo_at : SWO (ltOf fun x y : Pt => Lib.compareInt x.1 y.1) where
  irrefl x := by rw [lt_at]; simp
  trans x y z h1 h2 := by rw [lt_at] at *; simp at *; omega
  ntrans x y z h1 h2 := by rw [lt_at] at *; simp at *; omega
theorem get_pt (l : List Pt) (k : Nat) (h : k < l.length) : l.toArray[k]! = pt l k := by
  rw [pt_get h, getElem!_pos l.toArray k (by simpa using h)]
  simp
theorem holds_edges {w : World} {g : Nat} {l : List Pt} (h : PtAt w g 0 l) (hf : ∀ j, w.frozen? ⟨g, j, none⟩ = false) : HoldsK encEd 3 w g 0 l.toArray := by
  intro j hj
  rw [size_flatK] at hj
  rw [get_flatK encEd 3 l.toArray j hj]
  simp only [List.size_toArray] at hj
  have hk : j / 3 < l.length := by omega
  rw [get_pt l _ hk]
  refine ⟨?_, hf _⟩
  obtain ⟨e1, e2, e3⟩ := h (j / 3) hk
  rw [Nat.zero_add] at *
  have hm : j % 3 = 0 ∨ j % 3 = 1 ∨ j % 3 = 2 := by omega
  rcases hm with hm | hm | hm
  · rw [hm, show (⟨g, j, none⟩ : Addr) = ⟨g, j / 3 * 3, none⟩ by congr 1; omega]
    exact e1
  · rw [hm, show (⟨g, j, none⟩ : Addr) = ⟨g, j / 3 * 3 + 1, none⟩ by congr 1; omega]
    exact e2
  · rw [hm, show (⟨g, j, none⟩ : Addr) = ⟨g, j / 3 * 3 + 2, none⟩ by congr 1; omega]
    exact e3
theorem edges_hold {w : World} {g : Nat} {l : List Pt} (h : HoldsK encEd 3 w g 0 l.toArray) : PtAt w g 0 l := by
  intro k hk
  have e : ∀ c, c < 3 → w.cell? ⟨g, 0 + k * 3 + c, none⟩ = some (encEd (pt l k))[c]! := fun c hc => by
    have := (HoldsK.cell h (i := k) (c := c) (by simpa using hk) hc).1
    rwa [get_pt l k hk] at this
  exact ⟨e 0 (by omega), e 1 (by omega), e 2 (by omega)⟩
theorem below_sortWorld {B : Nat} (w : World) (blk n : Nat) (d : Array Pt) (os : Array Obj) (h : B ≤ blk) (hB : B ≤ w.heap.size) : Below B w (sortWorldK encEd 3 w blk 0 n d os) := by
  refine ⟨rfl, rfl, rfl, size_sortWorldK_c encEd 3 w blk 0 n d os, fun k hk => ?_⟩
  have hs : (putRowK encEd 3 (Sort.ahead w n) blk 0 d).heap.size = w.heap.size := size_putRowK encEd 3 _ blk 0 d
  show ((putRowK encEd 3 (Sort.ahead w n) blk 0 d).heap ++ os)[k]? = w.heap[k]?
  rw [Array.getElem?_append_left (by omega)]
  show (w.heap.modify blk _)[k]? = _
  rw [Array.getElem?_modify, if_neg (by omega)]
theorem perm_of {l : List Pt} {d : Array Pt} (h : PermIn 0 l.toArray.size l.toArray d) : d.toList.Perm l := by
  obtain ⟨h1, _, h2⟩ := h
  have hd : d.size = l.length := by simpa using h1
  rw [List.size_toArray] at h2
  rw [show d.extract 0 l.length = d by rw [← hd]; simp, show l.toArray.extract 0 l.length = l.toArray by simp] at h2
  simpa using h2
theorem sorted_of {d : Array Pt} (h : SortedIn (ltOf fun x y : Pt => Lib.compareInt x.1 y.1) 0 d.size d) : d.toList.Pairwise fun x y => x.1 ≤ y.1 := by
  rw [List.pairwise_iff_getElem]
  intro i j hi hj hij
  have := h i j (Nat.zero_le _) hij (by simpa using hj)
  rw [lt_at, getElem!_pos d j (by simpa using hj), getElem!_pos d i (by simpa using hi)] at this
  simp at this
  simpa using this
theorem sort_says (B : Nat) : SortSays B := by
  intro W p cap l hE hl
  have hv := hE
  obtain ⟨h1, h2⟩ := hE
  rcases h2 with ⟨hp, hn⟩ | ⟨g, cap', cur, hp, hg, hh, r⟩
  · obtain rfl : l = [] := List.eq_nil_of_length_eq_zero hn
    refine (AnyF.slices_SortFunc_none Try.sortEd p cap _ W).mono ?_
    rintro e w' ⟨rfl, rfl⟩
    exact ⟨rfl, [], List.Perm.refl _, List.Pairwise.nil, .inl rfl, Below.refl _ _⟩
  · simp only [Value.slice.injEq] at hp
    obtain ⟨rfl, _, rfl⟩ := hp
    obtain ⟨_, hg1, hg2, _, _, hP, hF⟩ := hv.at
    have eg : ∀ args w, (callFunc 28 args).run Try.prog w = .ok (.enter 28 args) w := enters_of Try.func28 (by kernel_rfl) rfl
    have hc := AnyQ.slices_SortFunc Try.sortEd 3 Try.isAgg53 Try.sizeOf53 encEd (fun _ => rfl) (fun x v hv => by simp [encEd] at hv; rcases hv with rfl | rfl | rfl <;> rfl) (fun x y => Lib.compareInt x.1 y.1) swo_at 28 #[] g 0 cap l.toArray W eg (fun _ _ _ _ x y => cmp_edges x y _) (holds_edges hP hF) hg2 (by simp; omega)
    rw [List.size_toArray] at hc
    refine Calls.mono (P := Try.prog) hc ?_
    rintro e w' ⟨rfl, d, n, os, hp, hs, rfl⟩
    have hp' := perm_of (l := l) (d := d) (by rw [List.size_toArray]; exact hp)
    have hd : d.size = l.length := by have := hp'.length_eq; simpa using this
    refine ⟨rfl, d.toList, hp', sorted_of (by rw [hd]; exact hs), .inr ⟨g, 0, rfl, Nat.lt_of_lt_of_le hg2 (size_sortWorldK_c encEd 3 W g 0 n d os), edges_hold ?_⟩, below_sortWorld W g n d os hg1 (by omega)⟩
    have := holdsK_sortWorldK_c encEd 3 W g 0 l.toArray d n os (holds_edges hP hF) hg2 (by simpa using hd)
    simpa using this
end Go.Proofs.Ytjddmcecllhlhaa

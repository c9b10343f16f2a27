/-
  Lists of spans in memory; span.Less and the reference's Less.
-/
import Derived.Test.YtblmlglkjmilkaaSpanR
import Derived.LoopN
namespace Go.Proofs.Ytblmlglkjmilkaa
open Go.RowKit

/-- The cells of a list of spans. -/
def scells : List (Int × Int) → List Value
  | [] => []
  | (a, b) :: l => .int .i64 a :: .int .i64 b :: scells l
theorem scells_append (l k : List (Int × Int)) : scells (l ++ k) = scells l ++ scells k := by
  induction l with
  | nil => rfl
  | cons x l ih => simp [scells, ih]
/-- v is a slice of spans that reads as l, in memory from block B on. -/
def SpansAt (w : World) (B : Nat) (v : Value) (l : List (Int × Int)) : Prop := w.ownsRow B 23 2 v l.length (scells l)
theorem own_below {w w' : World} {B : Nat} {e : TypeId} {size : Nat} {v : Value} {n : Nat} {xs : List Value} (h : w.ownsRow B e size v n xs) (hb : Below w.heap.size w w') : w'.ownsRow B e size v n xs := by
  obtain ⟨h1, h2⟩ := h
  refine ⟨h1, ?_⟩
  rcases h2 with h2 | ⟨g, cap, cur, hv, hg, hh, r⟩
  · exact .inl h2
  · exact .inr ⟨g, cap, cur, hv, hg, by rw [hb.block g (Array.getElem?_eq_some_iff.1 hh).1]; exact hh, r⟩
theorem SpansAt.below {w w' : World} {B : Nat} {v : Value} {l : List (Int × Int)} (h : SpansAt w B v l) (hb : Below w.heap.size w w') : SpansAt w' B v l := own_below h hb
theorem SpansAt.nil (w : World) (B : Nat) : SpansAt w B (.slice none 0 0) [] := World.ownsRow_nil w B _ _
theorem SpansAt.lt {w : World} {B : Nat} {v : Value} {l : List (Int × Int)} (h : SpansAt w B v l) : ∀ k, v.ownBlock = some k → B ≤ k := fun k hk => (World.ownsRow.lt h k hk).1

theorem SpansAt.mono {w : World} {B B' : Nat} {v : Value} {l : List (Int × Int)} (h : SpansAt w B v l) (hB : B' ≤ B) : SpansAt w B' v l := by
  obtain ⟨h1, h2⟩ := h
  refine ⟨h1, ?_⟩
  rcases h2 with h2 | ⟨g, cap, cur, hv, hg, r⟩
  · exact .inl h2
  · exact .inr ⟨g, cap, cur, hv, Nat.le_trans hB hg, r⟩

theorem Try.infoSpan : (Try.prog.info? 23).map (fun i => (i.zero, i.size, i.bytes)) = some (some (.agg #[.int .i64 0, .int .i64 0]), 2, 16) := by kernel_rfl

/-- append(l, s), s one span. -/
theorem app_span {Q : Exit → Act → World → Prop} {ops : Array Oper} {rest : List Oper} {o : Oper} {a : Act} {w : World} (hgd : o.guard = none) (s x : Operand)
    (ho : o.op = .call { callee := .builtin .append, args := #[s, x], argTypes := #[35, 35] }) (B : Nat) (v : Value) (l : List (Int × Int)) (hs : a.eval s = v) (hown : SpansAt w B v l) (ad : Addr) (p q : Int)
    (hx : a.eval x = .slice (some ad) 1 1) (h0 : w.cell? (ad.add 0) = some (.int .i64 p)) (h1 : w.cell? (ad.add 1) = some (.int .i64 q)) (hn : l.length ≤ 1000000000000) (hB : B ≤ w.heap.size)
    (h : ∀ v' w', SpansAt w' B v' (l ++ [(p, q)]) → Below B w w' → wpList Try.prog ops Q rest (a.put o.dst v') w') : wpList Try.prog ops Q (o :: rest) a w := by
  obtain ⟨i, hi, hz0, hz1, hz2⟩ := info_parts Try.infoSpan
  refine wpList_append_own w hgd s x 35 ho B 23 i _ 2 16 Try.underlying35 hi hz0 hz1 hz2 rfl (by decide) v l.length (scells l) hs hown ad 1 1 [.int .i64 p, .int .i64 q] hx rfl ?_ ?_ (by unfold maxLen; omega) (by omega) hB ?_
  · intro j u hj
    match j, hj with
    | 0, hj => simp at hj; rw [h0, hj]
    | 1, hj => simp at hj; rw [h1, hj]
  · intro u hu; simp at hu; rcases hu with rfl | rfl <;> rfl
  · intro v' w' h2 h3 _
    refine h v' w' ?_ ((Below.refl _ _).grown h3 hB hown.lt)
    unfold SpansAt
    rw [scells_append]
    simpa [scells] using h2

/-- What one span has, and the other has not. -/
def lessL (a b c d : Int) : List (Int × Int) :=
  if meetB a b c d = true then (if a < c then [(a, c)] else []) ++ (if d < b then [(d, b)] else []) else if a < b then [(a, b)] else []

/-- A call that hands back a slice of spans, in new memory. -/
def GivesL (w : World) (l : List (Int × Int)) (e : Ending) (w' : World) : Prop := ∃ v, e = .returned v ∧ SpansAt w' w.heap.size v l ∧ Below w.heap.size w w'

set_option maxRecDepth 100000 in
theorem span_Less1 (a b c d : Int) (hm : meetB a b c d = true) (h1 : a < c) (h2 : d < b) (w : World) : Calls Try.prog 32 #[spn a b, spn c d] w (GivesL w [(a, c), (d, b)]) := by
  have ef : bothF a b c d = c := by simp [bothF, hm]; omega
  have et : bothT a b c d = d := by simp [bothT, hm]; omega
  have EF := Lib.hid ef
  have ET := Lib.hid et
  have HM := Lib.hid hm
  clear ef et hm
  have hbo := fun W => span_Both a b c d W
  rw [EF.out, ET.out, HM.out] at hbo
  have i0 : ∀ w : World, (Instr.index 79 (.agg #[.int .i64 a, .int .i64 c, .int .i64 d, .int .i64 b]) (.int .i64 0)).run Try.prog w = .ok (spn a c) w := fun _ => by kernel_rfl
  have i1 : ∀ w : World, (Instr.index 79 (.agg #[.int .i64 a, .int .i64 c, .int .i64 d, .int .i64 b]) (.int .i64 1)).run Try.prog w = .ok (spn d b) w := fun _ => by kernel_rfl
  go_enter Try.func32, Try.ntmps32
  go_wp2_with (go_at_call 15; refine (hbo _).mono ?_; rintro e w1 ⟨rfl, hb⟩; obtain ⟨hc, hf⟩ := bcell hb; have z := hb.size; (try simp at z); have z0 : w.heap.size < w1.heap.size := (by omega); have z1 : w.heap.size + 1 < w1.heap.size := (by omega))
  refine wp_loop_rounds 3 ?_
  rw [rounds_succ]
  go_wp2_with (first
    | (go_at_call 23; refine (span_Right _ _ _).mono ?_; rintro e w2 ⟨rfl, hb⟩; obtain ⟨hc, hf⟩ := bcell hb; have z := hb.size; (try simp at z))
    | (at_builtin; refine app_span rfl _ _ rfl _ _ [] rfl (SpansAt.nil _ _) _ a c rfl ?_ ?_ (by simp) (Nat.le_refl _) ?_; (simp [Addr.add]); (simp [Addr.add]); intro v3 w3 own3 hb3; have z3 := hb3.size; (try simp at z3)))
  rw [rounds_succ]
  go_wp2_with (first
    | (go_at_call 23; refine (span_Right _ _ _).mono ?_; rintro e w4 ⟨rfl, hb⟩; obtain ⟨hc, hf⟩ := bcell hb; have z := hb.size; (try simp at z))
    | (at_builtin; refine app_span rfl _ _ rfl _ _ [(a, c)] rfl (SpansAt.below own3 ?_) _ d b rfl ?_ ?_ (by simp) ?_ ?_; (focus (repeat' (first | exact Below.refl _ _ | refine Below.alloc ?_ ?_ _ | refine Below.setCell ?_ ?_ _ | refine Below.drew ?_ | refine below_drewN ?_ _ | refine Below.trans ?_ (Below.mono (by assumption) ?_) | refine Below.trans ?_ (Below.mono (BW.below _) ?_) | (simp; done) | (simp; omega) | omega))); (simp [Addr.add]); (simp [Addr.add]); (simp; omega); intro v5 w5 own5 hb5; have z5 := hb5.size; (try simp at z5)))
  rw [rounds_succ]
  go_wp2_with fail
  go_ret
  refine ⟨_, rfl, SpansAt.mono (SpansAt.below own5 ?_) ?_, ?_⟩
  · (focus (repeat' (first | exact Below.refl _ _ | refine Below.alloc ?_ ?_ _ | refine Below.setCell ?_ ?_ _ | refine Below.drew ?_ | refine below_drewN ?_ _ | refine Below.trans ?_ (Below.mono (by assumption) ?_) | refine Below.trans ?_ (Below.mono (BW.below _) ?_) | (simp; done) | (simp; omega) | omega)))
  · simp; omega
  · (focus (repeat' (first | exact Below.refl _ _ | refine Below.alloc ?_ ?_ _ | refine Below.setCell ?_ ?_ _ | refine Below.drew ?_ | refine below_drewN ?_ _ | refine Below.trans ?_ (Below.mono (by assumption) ?_) | refine Below.trans ?_ (Below.mono (BW.below _) ?_) | (simp; done) | (simp; omega) | omega)))

set_option maxRecDepth 100000 in
theorem span_Less2 (a b c d : Int) (hm : meetB a b c d = true) (h1 : a < c) (h2 : ¬ d < b) (w : World) : Calls Try.prog 32 #[spn a b, spn c d] w (GivesL w [(a, c)]) := by
  have ef : bothF a b c d = c := by simp [bothF, hm]; omega
  have et : bothT a b c d = b := by simp [bothT, hm]; omega
  have EF := Lib.hid ef
  have ET := Lib.hid et
  have HM := Lib.hid hm
  clear ef et hm
  have hbo := fun W => span_Both a b c d W
  rw [EF.out, ET.out, HM.out] at hbo
  have i0 : ∀ w : World, (Instr.index 79 (.agg #[.int .i64 a, .int .i64 c, .int .i64 b, .int .i64 b]) (.int .i64 0)).run Try.prog w = .ok (spn a c) w := fun _ => by kernel_rfl
  have i1 : ∀ w : World, (Instr.index 79 (.agg #[.int .i64 a, .int .i64 c, .int .i64 b, .int .i64 b]) (.int .i64 1)).run Try.prog w = .ok (spn b b) w := fun _ => by kernel_rfl
  go_enter Try.func32, Try.ntmps32
  go_wp2_with (go_at_call 15; refine (hbo _).mono ?_; rintro e w1 ⟨rfl, hb⟩; obtain ⟨hc, hf⟩ := bcell hb; have z := hb.size; (try simp at z); have z0 : w.heap.size < w1.heap.size := (by omega); have z1 : w.heap.size + 1 < w1.heap.size := (by omega))
  refine wp_loop_rounds 3 ?_
  rw [rounds_succ]
  go_wp2_with (first
    | (go_at_call 23; refine (span_Right _ _ _).mono ?_; rintro e w2 ⟨rfl, hb⟩; obtain ⟨hc, hf⟩ := bcell hb; have z := hb.size; (try simp at z))
    | (at_builtin; refine app_span rfl _ _ rfl _ _ [] rfl (SpansAt.nil _ _) _ a c rfl ?_ ?_ (by simp) (Nat.le_refl _) ?_; (simp [Addr.add]); (simp [Addr.add]); intro v3 w3 own3 hb3; have z3 := hb3.size; (try simp at z3)))
  rw [rounds_succ]
  go_wp2_with (go_at_call 23; refine (span_Right _ _ _).mono ?_; rintro e w4 ⟨rfl, hb⟩; obtain ⟨hc, hf⟩ := bcell hb; have z := hb.size; (try simp at z))
  rw [rounds_succ]
  go_wp2_with fail
  go_ret
  refine ⟨_, rfl, SpansAt.mono (SpansAt.below own3 ?_) ?_, ?_⟩
  · (focus (repeat' (first | exact Below.refl _ _ | refine Below.alloc ?_ ?_ _ | refine Below.setCell ?_ ?_ _ | refine Below.drew ?_ | refine below_drewN ?_ _ | refine Below.trans ?_ (Below.mono (by assumption) ?_) | refine Below.trans ?_ (Below.mono (BW.below _) ?_) | (simp; done) | (simp; omega) | omega)))
  · simp; omega
  · (focus (repeat' (first | exact Below.refl _ _ | refine Below.alloc ?_ ?_ _ | refine Below.setCell ?_ ?_ _ | refine Below.drew ?_ | refine below_drewN ?_ _ | refine Below.trans ?_ (Below.mono (by assumption) ?_) | refine Below.trans ?_ (Below.mono (BW.below _) ?_) | (simp; done) | (simp; omega) | omega)))

set_option maxRecDepth 100000 in
theorem span_Less3 (a b c d : Int) (hm : meetB a b c d = true) (h1 : ¬ a < c) (h2 : d < b) (w : World) : Calls Try.prog 32 #[spn a b, spn c d] w (GivesL w [(d, b)]) := by
  have ef : bothF a b c d = a := by simp [bothF, hm]; omega
  have et : bothT a b c d = d := by simp [bothT, hm]; omega
  have EF := Lib.hid ef
  have ET := Lib.hid et
  have HM := Lib.hid hm
  clear ef et hm
  have hbo := fun W => span_Both a b c d W
  rw [EF.out, ET.out, HM.out] at hbo
  have i0 : ∀ w : World, (Instr.index 79 (.agg #[.int .i64 a, .int .i64 a, .int .i64 d, .int .i64 b]) (.int .i64 0)).run Try.prog w = .ok (spn a a) w := fun _ => by kernel_rfl
  have i1 : ∀ w : World, (Instr.index 79 (.agg #[.int .i64 a, .int .i64 a, .int .i64 d, .int .i64 b]) (.int .i64 1)).run Try.prog w = .ok (spn d b) w := fun _ => by kernel_rfl
  go_enter Try.func32, Try.ntmps32
  go_wp2_with (go_at_call 15; refine (hbo _).mono ?_; rintro e w1 ⟨rfl, hb⟩; obtain ⟨hc, hf⟩ := bcell hb; have z := hb.size; (try simp at z); have z0 : w.heap.size < w1.heap.size := (by omega); have z1 : w.heap.size + 1 < w1.heap.size := (by omega))
  refine wp_loop_rounds 3 ?_
  rw [rounds_succ]
  go_wp2_with (go_at_call 23; refine (span_Right _ _ _).mono ?_; rintro e w2 ⟨rfl, hb⟩; obtain ⟨hc, hf⟩ := bcell hb; have z := hb.size; (try simp at z))
  rw [rounds_succ]
  go_wp2_with (first
    | (go_at_call 23; refine (span_Right _ _ _).mono ?_; rintro e w4 ⟨rfl, hb⟩; obtain ⟨hc, hf⟩ := bcell hb; have z := hb.size; (try simp at z))
    | (at_builtin; refine app_span rfl _ _ rfl _ _ [] rfl (SpansAt.nil _ _) _ d b rfl ?_ ?_ (by simp) (Nat.le_refl _) ?_; (simp [Addr.add]); (simp [Addr.add]); intro v5 w5 own5 hb5; have z5 := hb5.size; (try simp at z5)))
  rw [rounds_succ]
  go_wp2_with fail
  go_ret
  refine ⟨_, rfl, SpansAt.mono (SpansAt.below own5 ?_) ?_, ?_⟩
  · (focus (repeat' (first | exact Below.refl _ _ | refine Below.alloc ?_ ?_ _ | refine Below.setCell ?_ ?_ _ | refine Below.drew ?_ | refine below_drewN ?_ _ | refine Below.trans ?_ (Below.mono (by assumption) ?_) | refine Below.trans ?_ (Below.mono (BW.below _) ?_) | (simp; done) | (simp; omega) | omega)))
  · simp; omega
  · (focus (repeat' (first | exact Below.refl _ _ | refine Below.alloc ?_ ?_ _ | refine Below.setCell ?_ ?_ _ | refine Below.drew ?_ | refine below_drewN ?_ _ | refine Below.trans ?_ (Below.mono (by assumption) ?_) | refine Below.trans ?_ (Below.mono (BW.below _) ?_) | (simp; done) | (simp; omega) | omega)))

set_option maxRecDepth 100000 in
theorem span_Less4 (a b c d : Int) (hm : meetB a b c d = true) (h1 : ¬ a < c) (h2 : ¬ d < b) (w : World) : Calls Try.prog 32 #[spn a b, spn c d] w (GivesL w []) := by
  have ef : bothF a b c d = a := by simp [bothF, hm]; omega
  have et : bothT a b c d = b := by simp [bothT, hm]; omega
  have EF := Lib.hid ef
  have ET := Lib.hid et
  have HM := Lib.hid hm
  clear ef et hm
  have hbo := fun W => span_Both a b c d W
  rw [EF.out, ET.out, HM.out] at hbo
  have i0 : ∀ w : World, (Instr.index 79 (.agg #[.int .i64 a, .int .i64 a, .int .i64 b, .int .i64 b]) (.int .i64 0)).run Try.prog w = .ok (spn a a) w := fun _ => by kernel_rfl
  have i1 : ∀ w : World, (Instr.index 79 (.agg #[.int .i64 a, .int .i64 a, .int .i64 b, .int .i64 b]) (.int .i64 1)).run Try.prog w = .ok (spn b b) w := fun _ => by kernel_rfl
  go_enter Try.func32, Try.ntmps32
  go_wp2_with (go_at_call 15; refine (hbo _).mono ?_; rintro e w1 ⟨rfl, hb⟩; obtain ⟨hc, hf⟩ := bcell hb; have z := hb.size; (try simp at z); have z0 : w.heap.size < w1.heap.size := (by omega); have z1 : w.heap.size + 1 < w1.heap.size := (by omega))
  refine wp_loop_rounds 3 ?_
  rw [rounds_succ]
  go_wp2_with (go_at_call 23; refine (span_Right _ _ _).mono ?_; rintro e w2 ⟨rfl, hb⟩; obtain ⟨hc, hf⟩ := bcell hb; have z := hb.size; (try simp at z))
  rw [rounds_succ]
  go_wp2_with (go_at_call 23; refine (span_Right _ _ _).mono ?_; rintro e w4 ⟨rfl, hb⟩; obtain ⟨hc, hf⟩ := bcell hb; have z := hb.size; (try simp at z))
  rw [rounds_succ]
  go_wp2_with fail
  go_ret
  exact ⟨_, rfl, SpansAt.nil _ _, by (focus (repeat' (first | exact Below.refl _ _ | refine Below.alloc ?_ ?_ _ | refine Below.setCell ?_ ?_ _ | refine Below.drew ?_ | refine below_drewN ?_ _ | refine Below.trans ?_ (Below.mono (by assumption) ?_) | refine Below.trans ?_ (Below.mono (BW.below _) ?_) | (simp; done) | (simp; omega) | omega)))⟩

set_option maxRecDepth 100000 in
theorem span_Less5 (a b c d : Int) (hm : meetB a b c d = false) (h1 : a < b) (w : World) : Calls Try.prog 32 #[spn a b, spn c d] w (GivesL w [(a, b)]) := by
  have ef : bothF a b c d = 0 := by simp [bothF, hm]
  have et : bothT a b c d = 0 := by simp [bothT, hm]
  have EF := Lib.hid ef
  have ET := Lib.hid et
  have HM := Lib.hid hm
  clear ef et hm
  have hbo := fun W => span_Both a b c d W
  rw [EF.out, ET.out, HM.out] at hbo
  have i0 : ∀ w : World, (Instr.index 79 (.agg #[.int .i64 a, .int .i64 b, .int .i64 b, .int .i64 b]) (.int .i64 0)).run Try.prog w = .ok (spn a b) w := fun _ => by kernel_rfl
  have i1 : ∀ w : World, (Instr.index 79 (.agg #[.int .i64 a, .int .i64 b, .int .i64 b, .int .i64 b]) (.int .i64 1)).run Try.prog w = .ok (spn b b) w := fun _ => by kernel_rfl
  go_enter Try.func32, Try.ntmps32
  go_wp2_with (go_at_call 15; refine (hbo _).mono ?_; rintro e w1 ⟨rfl, hb⟩; obtain ⟨hc, hf⟩ := bcell hb; have z := hb.size; (try simp at z); have z0 : w.heap.size < w1.heap.size := (by omega); have z1 : w.heap.size + 1 < w1.heap.size := (by omega))
  refine wp_loop_rounds 3 ?_
  rw [rounds_succ]
  go_wp2_with (first
    | (go_at_call 23; refine (span_Right _ _ _).mono ?_; rintro e w2 ⟨rfl, hb⟩; obtain ⟨hc, hf⟩ := bcell hb; have z := hb.size; (try simp at z))
    | (at_builtin; refine app_span rfl _ _ rfl _ _ [] rfl (SpansAt.nil _ _) _ a b rfl ?_ ?_ (by simp) (Nat.le_refl _) ?_; (simp [Addr.add]); (simp [Addr.add]); intro v3 w3 own3 hb3; have z3 := hb3.size; (try simp at z3)))
  rw [rounds_succ]
  go_wp2_with (go_at_call 23; refine (span_Right _ _ _).mono ?_; rintro e w4 ⟨rfl, hb⟩; obtain ⟨hc, hf⟩ := bcell hb; have z := hb.size; (try simp at z))
  rw [rounds_succ]
  go_wp2_with fail
  go_ret
  refine ⟨_, rfl, SpansAt.mono (SpansAt.below own3 ?_) ?_, ?_⟩
  · (focus (repeat' (first | exact Below.refl _ _ | refine Below.alloc ?_ ?_ _ | refine Below.setCell ?_ ?_ _ | refine Below.drew ?_ | refine below_drewN ?_ _ | refine Below.trans ?_ (Below.mono (by assumption) ?_) | refine Below.trans ?_ (Below.mono (BW.below _) ?_) | (simp; done) | (simp; omega) | omega)))
  · simp; omega
  · (focus (repeat' (first | exact Below.refl _ _ | refine Below.alloc ?_ ?_ _ | refine Below.setCell ?_ ?_ _ | refine Below.drew ?_ | refine below_drewN ?_ _ | refine Below.trans ?_ (Below.mono (by assumption) ?_) | refine Below.trans ?_ (Below.mono (BW.below _) ?_) | (simp; done) | (simp; omega) | omega)))

set_option maxRecDepth 100000 in
theorem span_Less6 (a b c d : Int) (hm : meetB a b c d = false) (h1 : ¬ a < b) (w : World) : Calls Try.prog 32 #[spn a b, spn c d] w (GivesL w []) := by
  have ef : bothF a b c d = 0 := by simp [bothF, hm]
  have et : bothT a b c d = 0 := by simp [bothT, hm]
  have EF := Lib.hid ef
  have ET := Lib.hid et
  have HM := Lib.hid hm
  clear ef et hm
  have hbo := fun W => span_Both a b c d W
  rw [EF.out, ET.out, HM.out] at hbo
  have i0 : ∀ w : World, (Instr.index 79 (.agg #[.int .i64 a, .int .i64 b, .int .i64 b, .int .i64 b]) (.int .i64 0)).run Try.prog w = .ok (spn a b) w := fun _ => by kernel_rfl
  have i1 : ∀ w : World, (Instr.index 79 (.agg #[.int .i64 a, .int .i64 b, .int .i64 b, .int .i64 b]) (.int .i64 1)).run Try.prog w = .ok (spn b b) w := fun _ => by kernel_rfl
  go_enter Try.func32, Try.ntmps32
  go_wp2_with (go_at_call 15; refine (hbo _).mono ?_; rintro e w1 ⟨rfl, hb⟩; obtain ⟨hc, hf⟩ := bcell hb; have z := hb.size; (try simp at z); have z0 : w.heap.size < w1.heap.size := (by omega); have z1 : w.heap.size + 1 < w1.heap.size := (by omega))
  refine wp_loop_rounds 3 ?_
  rw [rounds_succ]
  go_wp2_with (go_at_call 23; refine (span_Right _ _ _).mono ?_; rintro e w2 ⟨rfl, hb⟩; obtain ⟨hc, hf⟩ := bcell hb; have z := hb.size; (try simp at z))
  rw [rounds_succ]
  go_wp2_with (go_at_call 23; refine (span_Right _ _ _).mono ?_; rintro e w4 ⟨rfl, hb⟩; obtain ⟨hc, hf⟩ := bcell hb; have z := hb.size; (try simp at z))
  rw [rounds_succ]
  go_wp2_with fail
  go_ret
  exact ⟨_, rfl, SpansAt.nil _ _, by (focus (repeat' (first | exact Below.refl _ _ | refine Below.alloc ?_ ?_ _ | refine Below.setCell ?_ ?_ _ | refine Below.drew ?_ | refine below_drewN ?_ _ | refine Below.trans ?_ (Below.mono (by assumption) ?_) | refine Below.trans ?_ (Below.mono (BW.below _) ?_) | (simp; done) | (simp; omega) | omega)))⟩

theorem less_cases (a b c d : Int) : ((meetB a b c d = true ∧ a < c ∧ d < b) ∧ lessL a b c d = [(a, c), (d, b)]) ∨ ((meetB a b c d = true ∧ a < c ∧ ¬ d < b) ∧ lessL a b c d = [(a, c)]) ∨
    ((meetB a b c d = true ∧ ¬ a < c ∧ d < b) ∧ lessL a b c d = [(d, b)]) ∨ ((meetB a b c d = true ∧ ¬ a < c ∧ ¬ d < b) ∧ lessL a b c d = []) ∨
    ((meetB a b c d = false ∧ a < b) ∧ lessL a b c d = [(a, b)]) ∨ ((meetB a b c d = false ∧ ¬ a < b) ∧ lessL a b c d = []) := by
  cases hm : meetB a b c d <;> by_cases h1 : a < c <;> by_cases h2 : d < b <;> by_cases h3 : a < b <;> simp [lessL, hm, h1, h2, h3]
theorem span_Less (a b c d : Int) (w : World) : Calls Try.prog 32 #[spn a b, spn c d] w (GivesL w (lessL a b c d)) := by
  rcases less_cases a b c d with ⟨⟨h, h1, h2⟩, e⟩ | ⟨⟨h, h1, h2⟩, e⟩ | ⟨⟨h, h1, h2⟩, e⟩ | ⟨⟨h, h1, h2⟩, e⟩ | ⟨⟨h, h1⟩, e⟩ | ⟨⟨h, h1⟩, e⟩
  · rw [e]; exact span_Less1 a b c d h h1 h2 w
  · rw [e]; exact span_Less2 a b c d h h1 h2 w
  · rw [e]; exact span_Less3 a b c d h h1 h2 w
  · rw [e]; exact span_Less4 a b c d h h1 h2 w
  · rw [e]; exact span_Less5 a b c d h h1 w
  · rw [e]; exact span_Less6 a b c d h h1 w

theorem ref10_Less1 (a b c d : Int) (hm : meetB a b c d = true) (h1 : a < c) (h2 : d < b) (w : World) : Calls Try.prog 33 #[spn a b, spn c d] w (GivesL w [(a, c), (d, b)]) := by
  have hr : a < b := (meetB_t hm).1
  have HM := Lib.hid hm
  clear hm
  have hme := fun W => ref10_Meet a b c d W
  rw [HM.out] at hme
  go_enter Try.func33, Try.ntmps33
  go_wp2_with (first
    | (go_at_call 24; refine (ref10_Right _ _ _).mono ?_; rintro e w1 ⟨rfl, hb⟩; obtain ⟨hc, hf⟩ := bcell hb; have z := hb.size; (try simp at z); have z0 : w.heap.size < w1.heap.size := (by omega); have z1 : w.heap.size + 1 < w1.heap.size := (by omega))
    | (go_at_call 28; refine (hme _).mono ?_; rintro e w2 ⟨rfl, hb⟩; obtain ⟨hc, hf⟩ := bcell hb; have z := hb.size; (try simp at z); have z0 : w.heap.size < w2.heap.size := (by omega); have z1 : w.heap.size + 1 < w2.heap.size := (by omega))
    | (at_builtin; refine app_span rfl (.tmp 20) (.tmp 26) rfl _ _ [] rfl (SpansAt.nil _ _) _ a c rfl ?_ ?_ (by simp) (Nat.le_refl _) ?_; (simp [Addr.add]); (simp [Addr.add]); intro v3 w3 own3 hb3; obtain ⟨hc, hf⟩ := bcell hb3; have z3 := hb3.size; (try simp at z3); have z0 : w.heap.size < w3.heap.size := (by omega); have z1 : w.heap.size + 1 < w3.heap.size := (by omega))
    | (at_builtin; refine app_span rfl (.tmp 33) (.tmp 39) rfl _ _ [(a, c)] rfl (SpansAt.below own3 ?_) _ d b rfl ?_ ?_ (by simp) ?_ ?_; (focus (repeat' (first | exact Below.refl _ _ | refine Below.alloc ?_ ?_ _ | refine Below.setCell ?_ ?_ _ | refine Below.drew ?_ | refine below_drewN ?_ _ | refine Below.trans ?_ (Below.mono (by assumption) ?_) | refine Below.trans ?_ (Below.mono (BW.below _) ?_) | (simp; done) | (simp; omega) | omega))); (simp [Addr.add]); (simp [Addr.add]); (simp; omega); intro v5 w5 own5 hb5; have z5 := hb5.size; (try simp at z5)))
  go_ret
  refine ⟨_, rfl, SpansAt.mono own5 ?_, ?_⟩
  · simp; omega
  · (focus (repeat' (first | exact Below.refl _ _ | refine Below.alloc ?_ ?_ _ | refine Below.setCell ?_ ?_ _ | refine Below.drew ?_ | refine below_drewN ?_ _ | refine Below.trans ?_ (Below.mono (by assumption) ?_) | refine Below.trans ?_ (Below.mono (BW.below _) ?_) | (simp; done) | (simp; omega) | omega)))

theorem ref10_Less2 (a b c d : Int) (hm : meetB a b c d = true) (h1 : a < c) (h2 : ¬ d < b) (w : World) : Calls Try.prog 33 #[spn a b, spn c d] w (GivesL w [(a, c)]) := by
  have hr : a < b := (meetB_t hm).1
  have HM := Lib.hid hm
  clear hm
  have hme := fun W => ref10_Meet a b c d W
  rw [HM.out] at hme
  go_enter Try.func33, Try.ntmps33
  go_wp2_with (first
    | (go_at_call 24; refine (ref10_Right _ _ _).mono ?_; rintro e w1 ⟨rfl, hb⟩; obtain ⟨hc, hf⟩ := bcell hb; have z := hb.size; (try simp at z); have z0 : w.heap.size < w1.heap.size := (by omega); have z1 : w.heap.size + 1 < w1.heap.size := (by omega))
    | (go_at_call 28; refine (hme _).mono ?_; rintro e w2 ⟨rfl, hb⟩; obtain ⟨hc, hf⟩ := bcell hb; have z := hb.size; (try simp at z); have z0 : w.heap.size < w2.heap.size := (by omega); have z1 : w.heap.size + 1 < w2.heap.size := (by omega))
    | (at_builtin; refine app_span rfl _ _ rfl _ _ [] rfl (SpansAt.nil _ _) _ a c rfl ?_ ?_ (by simp) (Nat.le_refl _) ?_; (simp [Addr.add]); (simp [Addr.add]); intro v3 w3 own3 hb3; have z3 := hb3.size; (try simp at z3); obtain ⟨hc, hf⟩ := bcell hb3; have z0 : w.heap.size < w3.heap.size := (by omega); have z1 : w.heap.size + 1 < w3.heap.size := (by omega)))
  go_ret
  refine ⟨_, rfl, SpansAt.mono own3 ?_, ?_⟩
  · simp; omega
  · (focus (repeat' (first | exact Below.refl _ _ | refine Below.alloc ?_ ?_ _ | refine Below.setCell ?_ ?_ _ | refine Below.drew ?_ | refine below_drewN ?_ _ | refine Below.trans ?_ (Below.mono (by assumption) ?_) | refine Below.trans ?_ (Below.mono (BW.below _) ?_) | (simp; done) | (simp; omega) | omega)))

theorem ref10_Less3 (a b c d : Int) (hm : meetB a b c d = true) (h1 : ¬ a < c) (h2 : d < b) (w : World) : Calls Try.prog 33 #[spn a b, spn c d] w (GivesL w [(d, b)]) := by
  have hr : a < b := (meetB_t hm).1
  have HM := Lib.hid hm
  clear hm
  have hme := fun W => ref10_Meet a b c d W
  rw [HM.out] at hme
  go_enter Try.func33, Try.ntmps33
  go_wp2_with (first
    | (go_at_call 24; refine (ref10_Right _ _ _).mono ?_; rintro e w1 ⟨rfl, hb⟩; obtain ⟨hc, hf⟩ := bcell hb; have z := hb.size; (try simp at z); have z0 : w.heap.size < w1.heap.size := (by omega); have z1 : w.heap.size + 1 < w1.heap.size := (by omega))
    | (go_at_call 28; refine (hme _).mono ?_; rintro e w2 ⟨rfl, hb⟩; obtain ⟨hc, hf⟩ := bcell hb; have z := hb.size; (try simp at z); have z0 : w.heap.size < w2.heap.size := (by omega); have z1 : w.heap.size + 1 < w2.heap.size := (by omega))
    | (at_builtin; refine app_span rfl _ _ rfl _ _ [] rfl (SpansAt.nil _ _) _ d b rfl ?_ ?_ (by simp) (Nat.le_refl _) ?_; (simp [Addr.add]); (simp [Addr.add]); intro v3 w3 own3 hb3; have z3 := hb3.size; (try simp at z3); obtain ⟨hc, hf⟩ := bcell hb3; have z0 : w.heap.size < w3.heap.size := (by omega); have z1 : w.heap.size + 1 < w3.heap.size := (by omega)))
  go_ret
  refine ⟨_, rfl, SpansAt.mono own3 ?_, ?_⟩
  · simp; omega
  · (focus (repeat' (first | exact Below.refl _ _ | refine Below.alloc ?_ ?_ _ | refine Below.setCell ?_ ?_ _ | refine Below.drew ?_ | refine below_drewN ?_ _ | refine Below.trans ?_ (Below.mono (by assumption) ?_) | refine Below.trans ?_ (Below.mono (BW.below _) ?_) | (simp; done) | (simp; omega) | omega)))

theorem ref10_Less4 (a b c d : Int) (hm : meetB a b c d = true) (h1 : ¬ a < c) (h2 : ¬ d < b) (w : World) : Calls Try.prog 33 #[spn a b, spn c d] w (GivesL w []) := by
  have hr : a < b := (meetB_t hm).1
  have HM := Lib.hid hm
  clear hm
  have hme := fun W => ref10_Meet a b c d W
  rw [HM.out] at hme
  go_enter Try.func33, Try.ntmps33
  go_wp2_with (first
    | (go_at_call 24; refine (ref10_Right _ _ _).mono ?_; rintro e w1 ⟨rfl, hb⟩; obtain ⟨hc, hf⟩ := bcell hb; have z := hb.size; (try simp at z); have z0 : w.heap.size < w1.heap.size := (by omega); have z1 : w.heap.size + 1 < w1.heap.size := (by omega))
    | (go_at_call 28; refine (hme _).mono ?_; rintro e w2 ⟨rfl, hb⟩; obtain ⟨hc, hf⟩ := bcell hb; have z := hb.size; (try simp at z); have z0 : w.heap.size < w2.heap.size := (by omega); have z1 : w.heap.size + 1 < w2.heap.size := (by omega)))
  go_ret
  exact ⟨_, rfl, SpansAt.nil _ _, by (focus (repeat' (first | exact Below.refl _ _ | refine Below.alloc ?_ ?_ _ | refine Below.setCell ?_ ?_ _ | refine Below.drew ?_ | refine below_drewN ?_ _ | refine Below.trans ?_ (Below.mono (by assumption) ?_) | refine Below.trans ?_ (Below.mono (BW.below _) ?_) | (simp; done) | (simp; omega) | omega)))⟩

theorem ref10_Less5 (a b c d : Int) (hm : meetB a b c d = false) (h1 : a < b) (w : World) : Calls Try.prog 33 #[spn a b, spn c d] w (GivesL w [(a, b)]) := by
  have HM := Lib.hid hm
  clear hm
  have hme := fun W => ref10_Meet a b c d W
  rw [HM.out] at hme
  go_enter Try.func33, Try.ntmps33
  go_wp2_with (first
    | (go_at_call 24; refine (ref10_Right _ _ _).mono ?_; rintro e w1 ⟨rfl, hb⟩; obtain ⟨hc, hf⟩ := bcell hb; have z := hb.size; (try simp at z); have z0 : w.heap.size < w1.heap.size := (by omega); have z1 : w.heap.size + 1 < w1.heap.size := (by omega))
    | (go_at_call 28; refine (hme _).mono ?_; rintro e w2 ⟨rfl, hb⟩; obtain ⟨hc, hf⟩ := bcell hb; have z := hb.size; (try simp at z); have z0 : w.heap.size < w2.heap.size := (by omega); have z1 : w.heap.size + 1 < w2.heap.size := (by omega)))
  go_ret
  refine ⟨_, rfl, ?_, ?_⟩
  · exact World.ownsRow_lit _ #[.int .i64 a, .int .i64 b] 1 (by omega) (by unfold maxLen; omega) rfl
  · (focus (repeat' (first | exact Below.refl _ _ | refine Below.alloc ?_ ?_ _ | refine Below.setCell ?_ ?_ _ | refine Below.drew ?_ | refine below_drewN ?_ _ | refine Below.trans ?_ (Below.mono (by assumption) ?_) | refine Below.trans ?_ (Below.mono (BW.below _) ?_) | (simp; done) | (simp; omega) | omega)))
theorem ref10_Less6 (a b c d : Int) (h1 : ¬ a < b) (w : World) : Calls Try.prog 33 #[spn a b, spn c d] w (GivesL w []) := by
  have h : decide (a < b) = false := by simpa using h1
  go_enter Try.func33, Try.ntmps33
  go_wp2_with (go_at_call 24; refine (ref10_Right _ _ _).mono ?_; rintro e w1 ⟨rfl, hb⟩; obtain ⟨hc, hf⟩ := bcell hb; have z := hb.size; (try simp at z); have z0 : w.heap.size < w1.heap.size := (by omega); have z1 : w.heap.size + 1 < w1.heap.size := (by omega))
  go_ret
  exact ⟨_, rfl, SpansAt.nil _ _, by (focus (repeat' (first | exact Below.refl _ _ | refine Below.alloc ?_ ?_ _ | refine Below.setCell ?_ ?_ _ | refine Below.drew ?_ | refine below_drewN ?_ _ | refine Below.trans ?_ (Below.mono (by assumption) ?_) | refine Below.trans ?_ (Below.mono (BW.below _) ?_) | (simp; done) | (simp; omega) | omega)))⟩
theorem ref10_Less (a b c d : Int) (w : World) : Calls Try.prog 33 #[spn a b, spn c d] w (GivesL w (lessL a b c d)) := by
  rcases less_cases a b c d with ⟨⟨h, h1, h2⟩, e⟩ | ⟨⟨h, h1, h2⟩, e⟩ | ⟨⟨h, h1, h2⟩, e⟩ | ⟨⟨h, h1, h2⟩, e⟩ | ⟨⟨h, h1⟩, e⟩ | ⟨⟨h, h1⟩, e⟩
  · rw [e]; exact ref10_Less1 a b c d h h1 h2 w
  · rw [e]; exact ref10_Less2 a b c d h h1 h2 w
  · rw [e]; exact ref10_Less3 a b c d h h1 h2 w
  · rw [e]; exact ref10_Less4 a b c d h h1 h2 w
  · rw [e]; exact ref10_Less5 a b c d h h1 w
  · rw [e]; exact ref10_Less6 a b c d h1 w
end Go.Proofs.Ytblmlglkjmilkaa

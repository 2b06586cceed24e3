/-
virtio's right, Check, Live, Fail, walked.
No condition.
-/
import Derived.Test.YtcbjlpkkebcmjaaDoorVio
import Derived.BigFrame
import Derived.Deep.MidRow
namespace Go.Proofs.YtcbjlpkkebcmjaaDoor
open Go.RowKit

theorem load_rowW {P : Program} {ops : Array Oper} {rest : List Oper} {o : Oper} {a : Act} {w : World} {Q : Exit → Act → World → Prop} (hw : Region.wanted o (yielded ops a.tmps) = true) (ty : TypeId) (x : Operand) (ho : o.op = .load ty x)
    (g : Nat) (hx : a.eval x = .pointer (some ⟨g, 0, none⟩)) (t : TypeId) (cs : Array Value) (fr : Nat × Nat) (d : TypeDesc) (hg : w.heap[g]? = some (.cells cs t fr))
    (hu : P.underlying ty = some d) (hd : (match d with | .struct _ | .array _ _ => true | _ => false) = true) (hi : (P.info? ty).map (·.size) = some cs.size)
    (h : wpList P ops Q rest (a.put o.dst (.agg cs)) w) : wpList P ops Q (o :: rest) a w :=
  BigFrame.wpList_want hw fun _ hK => wp_load_row ty x ho g hx t cs fr d hg hu hd hi (hK _ _ h)
theorem load_midW {P : Program} {ops : Array Oper} {rest : List Oper} {op : Oper} {a : Act} {w : World} {Q : Exit → Act → World → Prop} (hw : Region.wanted op (yielded ops a.tmps) = true) (ty : TypeId) (x : Operand) (ho : op.op = .load ty x)
    (b o : Nat) (hx : a.eval x = .pointer (some ⟨b, o, none⟩)) (cs : List Value) (d : TypeDesc) (hc : w.rangeAt b o cs)
    (hu : P.underlying ty = some d) (hd : d.isRow = true) (hi : (P.info? ty).map (·.size) = some cs.length)
    (h : wpList P ops Q rest (a.put op.dst (.agg cs.toArray)) w) : wpList P ops Q (op :: rest) a w :=
  BigFrame.wpList_want hw fun _ hK => wp_load_mid ty x ho b o hx cs d hc hu hd hi (hK _ _ h)
theorem range_of_row {w : World} {b : Nat} {cs : Array Value} {t : TypeId} {fr : Nat × Nat} (h : w.heap[b]? = some (.cells cs t fr)) (o : Nat) (l : List Value) (hl : ∀ (j : Nat) v, l[j]? = some v → cs[o + j]? = some v) : w.rangeAt b o l :=
  fun j v hv => (cell_of_row w b (o + j) cs t fr h).trans (hl j v hv)
def VQ.l (q : VQ) : List Value := [.bool q.rdy, .int .i64 q.size, .int .u32 q.de, .int .u32 q.av, .int .u32 q.us, .int .u16 q.la, .int .u16 q.pu]
theorem seven {P : Nat → Prop} {j : Nat} (h : j < 7) (h0 : P 0) (h1 : P 1) (h2 : P 2) (h3 : P 3) (h4 : P 4) (h5 : P 5) (h6 : P 6) : P j := by
  match j, h with
  | 0, _ => exact h0
  | 1, _ => exact h1
  | 2, _ => exact h2
  | 3, _ => exact h3
  | 4, _ => exact h4
  | 5, _ => exact h5
  | 6, _ => exact h6
theorem VS.range_a {w : World} {b : Nat} {s : VS} {t : TypeId} {fr : Nat × Nat} (h : w.heap[b]? = some (.cells s.c t fr)) : w.rangeAt b 7 [.bool s.a.rdy, .int .i64 s.a.size, .int .u32 s.a.de, .int .u32 s.a.av, .int .u32 s.a.us, .int .u16 s.a.la, .int .u16 s.a.pu] :=
  range_of_row h 7 _ fun j v hv => by
    have hj : j < 7 := (List.getElem?_eq_some_iff.1 hv).1
    rw [← hv]
    exact seven (P := fun j => s.c[7 + j]? = s.a.l[j]?) hj rfl rfl rfl rfl rfl rfl rfl
theorem VS.range_b {w : World} {b : Nat} {s : VS} {t : TypeId} {fr : Nat × Nat} (h : w.heap[b]? = some (.cells s.c t fr)) : w.rangeAt b 14 [.bool s.b.rdy, .int .i64 s.b.size, .int .u32 s.b.de, .int .u32 s.b.av, .int .u32 s.b.us, .int .u16 s.b.la, .int .u16 s.b.pu] :=
  range_of_row h 14 _ fun j v hv => by
    have hj : j < 7 := (List.getElem?_eq_some_iff.1 hv).1
    rw [← hv]
    exact seven (P := fun j => s.c[14 + j]? = s.b.l[j]?) hj rfl rfl rfl rfl rfl rfl rfl
theorem vio_info_u32 : (Tryd.prog.info? 25).isSome = true := by kernel_rfl
theorem vio_cells_u32 : Tryd.prog.cellsOf 25 = 1 := by kernel_rfl
theorem arr2_eq (n a b c d : Nat) (w : World) : (Op.equalIn (n + 2) 49 (.agg #[.int .u32 a, .int .u32 b]) (.agg #[.int .u32 c, .int .u32 d])).run Tryd.prog w = .ok (decide (a = c) && decide (b = d)) w := by
  obtain ⟨i, hi⟩ := Option.isSome_iff_exists.1 vio_info_u32
  rw [run_equalIn_array (P := Tryd.prog) w (n + 1) _ _ Tryd.underlying49 hi, vio_cells_u32]
  have r2 : List.range 2 = [0, 1] := rfl
  rw [r2]
  have hu := Tryd.underlying25
  by_cases h1 : a = c
  · by_cases h2 : b = d
    · simp [Op.eqItems, part, go_sem, hu, h1, h2]
    · have h3 : ¬ (b : Int) = (d : Int) := by omega
      simp [Op.eqItems, part, go_sem, hu, h1, h2]
      omega
  · have h3 : ¬ (a : Int) = (c : Int) := by omega
    simp [Op.eqItems, part, go_sem, hu, h1]
    omega
def VS.right (s : VS) : Prop := s.d0 = 0 ∧ s.d1 = 1
instance (s : VS) : Decidable s.right := inferInstanceAs (Decidable (s.d0 = 0 ∧ s.d1 = 1))

set_option maxRecDepth 100000 in
set_option maxHeartbeats 1000000 in
theorem vs_right (s : VS) (w : World) :
    Calls Tryd.prog 73 #[s.v] w fun e w' => e = .returned (.bool (decide s.right)) ∧ Below w.heap.size w w' := by
  have h2 : ∀ w, (Op.equalIn 10000 49 (.agg #[.int .u32 s.d0, .int .u32 s.d1]) (.agg #[.int .u32 0, .int .u32 1])).run Tryd.prog w = .ok (decide (s.d0 = 0) && decide (s.d1 = 1)) w := fun w => arr2_eq 9998 s.d0 s.d1 0 1 w
  simp only [VS.v, VS.c]
  go_enter Tryd.func73, Tryd.ntmps73
  go_wp2_with fail
  go_ret
  exact ⟨by by_cases h : s.d0 = 0 <;> by_cases h' : s.d1 = 1 <;> simp [VS.right, h, h'], (Below.refl w.heap.size w).alloc (Nat.le_refl _) _⟩

def VS.live (s : VS) : Prop := s.st &&& 76 = 12
instance (s : VS) : Decidable s.live := inferInstanceAs (Decidable (s.st &&& 76 = 12))
set_option maxRecDepth 100000 in
set_option maxHeartbeats 1000000 in
theorem vs_Live (s : VS) (hs : s.st < 4294967296) (w : World) :
    Calls Tryd.prog 28 #[s.v] w fun e w' => e = .returned (.bool (decide s.live)) ∧ Below w.heap.size w w' := by
  have hb : bits BinOp.and IntKind.u32 (s.st : Int) 76 = ((s.st &&& 76 : Nat) : Int) := by rw [show (76 : Int) = ((76 : Nat) : Int) from rfl, u32_and_nat _ _ hs (by omega)]
  have e : decide s.live = (((s.st &&& 76 : Nat) : Int) == 12) := by
    by_cases h : s.live
    · rw [decide_eq_true h, show s.st &&& 76 = 12 from h]; rfl
    · rw [decide_eq_false h]
      have h2 : ¬ (s.st &&& 76 = 12) := h
      symm
      simp only [beq_eq_false_iff_ne, ne_eq]
      omega
  rw [e]
  clear e
  simp only [VS.v, VS.c]
  go_enter Tryd.func28, Tryd.ntmps28
  go_wp2_with fail
  go_ret
  exact ⟨rfl, (Below.refl w.heap.size w).alloc (Nat.le_refl _) _⟩

/-- A state that may be. -/
def VS.ok (s : VS) : Prop := s.st &&& (4294967295 - 207) = 0 ∧ s.irq ≤ 3 ∧ s.a.may ∧ s.b.may ∧ (s.st &&& 8 ≠ 0 → s.right)
instance (s : VS) : Decidable s.ok := by unfold VS.ok; infer_instance
theorem below_cells {a b : World} {g : Nat} {cs : Array Value} {t : TypeId} {f : Nat × Nat} (h : a.heap[g]? = some (.cells cs t f)) (hb : Below a.heap.size a b) : b.heap[g]? = some (.cells cs t f) :=
  (hb.block _ (by obtain ⟨h, _⟩ := Array.getElem?_eq_some_iff.1 h; exact h)).trans h

set_option maxRecDepth 100000 in
set_option maxHeartbeats 1000000 in
theorem vs_check_y0 (s : VS) (x y : Nat) (w : World) (hb1 : bits BinOp.andNot IntKind.u32 (s.st : Int) 207 = (x : Int)) (hb2 : bits BinOp.and IntKind.u32 (s.st : Int) 8 = (y : Int))
    (b1 : ((x : Int) != 0) = false) (b2 : ¬ (3 < (s.irq : Int))) (b5 : ((y : Int) != 0) = false) (HA : Hid (∀ W, Calls Tryd.prog 72 #[.agg #[.bool s.a.rdy, .int .i64 s.a.size, .int .u32 s.a.de, .int .u32 s.a.av, .int .u32 s.a.us, .int .u16 s.a.la, .int .u16 s.a.pu]] W fun e w' => e = .returned (.bool true) ∧ Below W.heap.size W w')) (HB : Hid (∀ W, Calls Tryd.prog 72 #[.agg #[.bool s.b.rdy, .int .i64 s.b.size, .int .u32 s.b.de, .int .u32 s.b.av, .int .u32 s.b.us, .int .u16 s.b.la, .int .u16 s.b.pu]] W fun e w' => e = .returned (.bool true) ∧ Below W.heap.size W w')) :
    Calls Tryd.prog 26 #[.agg #[Value.int .u32 s.st, .int .u32 s.fs, .int .u32 s.ds, .int .u32 s.se, .int .u32 s.irq, .int .u32 s.d0, .int .u32 s.d1, .bool s.a.rdy, .int .i64 s.a.size, .int .u32 s.a.de, .int .u32 s.a.av, .int .u32 s.a.us, .int .u16 s.a.la, .int .u16 s.a.pu, .bool s.b.rdy, .int .i64 s.b.size, .int .u32 s.b.de, .int .u32 s.b.av, .int .u32 s.b.us, .int .u16 s.b.la, .int .u16 s.b.pu]] w fun e w' => e = .returned (errV 0) ∧ Below w.heap.size w w' := by
  have hr0 := Lib.hid (show (w.alloc (.cells s.c 63)).heap[w.heap.size]? = some (.cells s.c 63 (0, 0)) from heap_alloc_new _ _)
  have hbl0 : Below w.heap.size w (w.alloc (.cells s.c 63)) := (Below.refl _ _).alloc (Nat.le_refl _) _
  go_enter Tryd.func26, Tryd.ntmps26
  go_wp2_with (first | go_skip | (refine load_rowW rfl 63 _ rfl w.heap.size rfl 63 #[Value.int .u32 s.st, .int .u32 s.fs, .int .u32 s.ds, .int .u32 s.se, .int .u32 s.irq, .int .u32 s.d0, .int .u32 s.d1, .bool s.a.rdy, .int .i64 s.a.size, .int .u32 s.a.de, .int .u32 s.a.av, .int .u32 s.a.us, .int .u16 s.a.la, .int .u16 s.a.pu, .bool s.b.rdy, .int .i64 s.b.size, .int .u32 s.b.de, .int .u32 s.b.av, .int .u32 s.b.us, .int .u16 s.b.la, .int .u16 s.b.pu] (0, 0) _ hr0.out Tryd.underlying63 rfl (by kernel_rfl) ?_) | (refine load_midW rfl 60 _ rfl w.heap.size 14 rfl _ _ (VS.range_b hr0.out) Tryd.underlying60 rfl (by kernel_rfl) ?_) | (refine load_midW rfl 60 _ rfl w.heap.size 7 rfl _ _ (VS.range_a hr0.out) Tryd.underlying60 rfl (by kernel_rfl) ?_))
  refine (HA.out _).mono ?_
  rintro e w1 ⟨rfl, hb⟩
  have hr1 := Lib.hid (below_cells hr0.out hb)
  have hc1 : w1.cell? ⟨w.heap.size, 0, none⟩ = some (.int .u32 s.st) := (cell_of_row _ _ 0 s.c _ _ hr1.out).trans rfl
  have hbl1 := hbl0.trans (hb.mono hbl0.size)
  clear hb hr0 hbl0
  go_wp2_with (first | go_skip | (refine load_rowW rfl 63 _ rfl w.heap.size rfl 63 #[Value.int .u32 s.st, .int .u32 s.fs, .int .u32 s.ds, .int .u32 s.se, .int .u32 s.irq, .int .u32 s.d0, .int .u32 s.d1, .bool s.a.rdy, .int .i64 s.a.size, .int .u32 s.a.de, .int .u32 s.a.av, .int .u32 s.a.us, .int .u16 s.a.la, .int .u16 s.a.pu, .bool s.b.rdy, .int .i64 s.b.size, .int .u32 s.b.de, .int .u32 s.b.av, .int .u32 s.b.us, .int .u16 s.b.la, .int .u16 s.b.pu] (0, 0) _ hr1.out Tryd.underlying63 rfl (by kernel_rfl) ?_) | (refine load_midW rfl 60 _ rfl w.heap.size 14 rfl _ _ (VS.range_b hr1.out) Tryd.underlying60 rfl (by kernel_rfl) ?_) | (refine load_midW rfl 60 _ rfl w.heap.size 7 rfl _ _ (VS.range_a hr1.out) Tryd.underlying60 rfl (by kernel_rfl) ?_))
  refine (HB.out _).mono ?_
  rintro e w2 ⟨rfl, hb⟩
  have hr2 := Lib.hid (below_cells hr1.out hb)
  have hc2 : w2.cell? ⟨w.heap.size, 0, none⟩ = some (.int .u32 s.st) := (cell_of_row _ _ 0 s.c _ _ hr2.out).trans rfl
  have hbl2 := hbl1.trans (hb.mono hbl1.size)
  clear hb hr1 hbl1
  go_wp2_with (first | go_skip | (refine load_rowW rfl 63 _ rfl w.heap.size rfl 63 #[Value.int .u32 s.st, .int .u32 s.fs, .int .u32 s.ds, .int .u32 s.se, .int .u32 s.irq, .int .u32 s.d0, .int .u32 s.d1, .bool s.a.rdy, .int .i64 s.a.size, .int .u32 s.a.de, .int .u32 s.a.av, .int .u32 s.a.us, .int .u16 s.a.la, .int .u16 s.a.pu, .bool s.b.rdy, .int .i64 s.b.size, .int .u32 s.b.de, .int .u32 s.b.av, .int .u32 s.b.us, .int .u16 s.b.la, .int .u16 s.b.pu] (0, 0) _ hr2.out Tryd.underlying63 rfl (by kernel_rfl) ?_) | (refine load_midW rfl 60 _ rfl w.heap.size 14 rfl _ _ (VS.range_b hr2.out) Tryd.underlying60 rfl (by kernel_rfl) ?_) | (refine load_midW rfl 60 _ rfl w.heap.size 7 rfl _ _ (VS.range_a hr2.out) Tryd.underlying60 rfl (by kernel_rfl) ?_))
  go_ret
  exact ⟨rfl, hbl2⟩

set_option maxRecDepth 100000 in
set_option maxHeartbeats 1000000 in
theorem vs_check_rt (s : VS) (x y : Nat) (w : World) (hb1 : bits BinOp.andNot IntKind.u32 (s.st : Int) 207 = (x : Int)) (hb2 : bits BinOp.and IntKind.u32 (s.st : Int) 8 = (y : Int))
    (b1 : ((x : Int) != 0) = false) (b2 : ¬ (3 < (s.irq : Int))) (b5 : ((y : Int) != 0) = true) (HA : Hid (∀ W, Calls Tryd.prog 72 #[.agg #[.bool s.a.rdy, .int .i64 s.a.size, .int .u32 s.a.de, .int .u32 s.a.av, .int .u32 s.a.us, .int .u16 s.a.la, .int .u16 s.a.pu]] W fun e w' => e = .returned (.bool true) ∧ Below W.heap.size W w')) (HB : Hid (∀ W, Calls Tryd.prog 72 #[.agg #[.bool s.b.rdy, .int .i64 s.b.size, .int .u32 s.b.de, .int .u32 s.b.av, .int .u32 s.b.us, .int .u16 s.b.la, .int .u16 s.b.pu]] W fun e w' => e = .returned (.bool true) ∧ Below W.heap.size W w')) (HR : Hid (∀ W, Calls Tryd.prog 73 #[.agg #[Value.int .u32 s.st, .int .u32 s.fs, .int .u32 s.ds, .int .u32 s.se, .int .u32 s.irq, .int .u32 s.d0, .int .u32 s.d1, .bool s.a.rdy, .int .i64 s.a.size, .int .u32 s.a.de, .int .u32 s.a.av, .int .u32 s.a.us, .int .u16 s.a.la, .int .u16 s.a.pu, .bool s.b.rdy, .int .i64 s.b.size, .int .u32 s.b.de, .int .u32 s.b.av, .int .u32 s.b.us, .int .u16 s.b.la, .int .u16 s.b.pu]] W fun e w' => e = .returned (.bool true) ∧ Below W.heap.size W w')) :
    Calls Tryd.prog 26 #[.agg #[Value.int .u32 s.st, .int .u32 s.fs, .int .u32 s.ds, .int .u32 s.se, .int .u32 s.irq, .int .u32 s.d0, .int .u32 s.d1, .bool s.a.rdy, .int .i64 s.a.size, .int .u32 s.a.de, .int .u32 s.a.av, .int .u32 s.a.us, .int .u16 s.a.la, .int .u16 s.a.pu, .bool s.b.rdy, .int .i64 s.b.size, .int .u32 s.b.de, .int .u32 s.b.av, .int .u32 s.b.us, .int .u16 s.b.la, .int .u16 s.b.pu]] w fun e w' => e = .returned (errV 0) ∧ Below w.heap.size w w' := by
  have hr0 := Lib.hid (show (w.alloc (.cells s.c 63)).heap[w.heap.size]? = some (.cells s.c 63 (0, 0)) from heap_alloc_new _ _)
  have hbl0 : Below w.heap.size w (w.alloc (.cells s.c 63)) := (Below.refl _ _).alloc (Nat.le_refl _) _
  go_enter Tryd.func26, Tryd.ntmps26
  go_wp2_with (first | go_skip | (refine load_rowW rfl 63 _ rfl w.heap.size rfl 63 #[Value.int .u32 s.st, .int .u32 s.fs, .int .u32 s.ds, .int .u32 s.se, .int .u32 s.irq, .int .u32 s.d0, .int .u32 s.d1, .bool s.a.rdy, .int .i64 s.a.size, .int .u32 s.a.de, .int .u32 s.a.av, .int .u32 s.a.us, .int .u16 s.a.la, .int .u16 s.a.pu, .bool s.b.rdy, .int .i64 s.b.size, .int .u32 s.b.de, .int .u32 s.b.av, .int .u32 s.b.us, .int .u16 s.b.la, .int .u16 s.b.pu] (0, 0) _ hr0.out Tryd.underlying63 rfl (by kernel_rfl) ?_) | (refine load_midW rfl 60 _ rfl w.heap.size 14 rfl _ _ (VS.range_b hr0.out) Tryd.underlying60 rfl (by kernel_rfl) ?_) | (refine load_midW rfl 60 _ rfl w.heap.size 7 rfl _ _ (VS.range_a hr0.out) Tryd.underlying60 rfl (by kernel_rfl) ?_))
  refine (HA.out _).mono ?_
  rintro e w1 ⟨rfl, hb⟩
  have hr1 := Lib.hid (below_cells hr0.out hb)
  have hc1 : w1.cell? ⟨w.heap.size, 0, none⟩ = some (.int .u32 s.st) := (cell_of_row _ _ 0 s.c _ _ hr1.out).trans rfl
  have hbl1 := hbl0.trans (hb.mono hbl0.size)
  clear hb hr0 hbl0
  go_wp2_with (first | go_skip | (refine load_rowW rfl 63 _ rfl w.heap.size rfl 63 #[Value.int .u32 s.st, .int .u32 s.fs, .int .u32 s.ds, .int .u32 s.se, .int .u32 s.irq, .int .u32 s.d0, .int .u32 s.d1, .bool s.a.rdy, .int .i64 s.a.size, .int .u32 s.a.de, .int .u32 s.a.av, .int .u32 s.a.us, .int .u16 s.a.la, .int .u16 s.a.pu, .bool s.b.rdy, .int .i64 s.b.size, .int .u32 s.b.de, .int .u32 s.b.av, .int .u32 s.b.us, .int .u16 s.b.la, .int .u16 s.b.pu] (0, 0) _ hr1.out Tryd.underlying63 rfl (by kernel_rfl) ?_) | (refine load_midW rfl 60 _ rfl w.heap.size 14 rfl _ _ (VS.range_b hr1.out) Tryd.underlying60 rfl (by kernel_rfl) ?_) | (refine load_midW rfl 60 _ rfl w.heap.size 7 rfl _ _ (VS.range_a hr1.out) Tryd.underlying60 rfl (by kernel_rfl) ?_))
  refine (HB.out _).mono ?_
  rintro e w2 ⟨rfl, hb⟩
  have hr2 := Lib.hid (below_cells hr1.out hb)
  have hc2 : w2.cell? ⟨w.heap.size, 0, none⟩ = some (.int .u32 s.st) := (cell_of_row _ _ 0 s.c _ _ hr2.out).trans rfl
  have hbl2 := hbl1.trans (hb.mono hbl1.size)
  clear hb hr1 hbl1
  go_wp2_with (first | go_skip | (refine load_rowW rfl 63 _ rfl w.heap.size rfl 63 #[Value.int .u32 s.st, .int .u32 s.fs, .int .u32 s.ds, .int .u32 s.se, .int .u32 s.irq, .int .u32 s.d0, .int .u32 s.d1, .bool s.a.rdy, .int .i64 s.a.size, .int .u32 s.a.de, .int .u32 s.a.av, .int .u32 s.a.us, .int .u16 s.a.la, .int .u16 s.a.pu, .bool s.b.rdy, .int .i64 s.b.size, .int .u32 s.b.de, .int .u32 s.b.av, .int .u32 s.b.us, .int .u16 s.b.la, .int .u16 s.b.pu] (0, 0) _ hr2.out Tryd.underlying63 rfl (by kernel_rfl) ?_) | (refine load_midW rfl 60 _ rfl w.heap.size 14 rfl _ _ (VS.range_b hr2.out) Tryd.underlying60 rfl (by kernel_rfl) ?_) | (refine load_midW rfl 60 _ rfl w.heap.size 7 rfl _ _ (VS.range_a hr2.out) Tryd.underlying60 rfl (by kernel_rfl) ?_))
  refine (HR.out _).mono ?_
  rintro e w3 ⟨rfl, hb⟩
  have hr3 := Lib.hid (below_cells hr2.out hb)
  have hc3 : w3.cell? ⟨w.heap.size, 0, none⟩ = some (.int .u32 s.st) := (cell_of_row _ _ 0 s.c _ _ hr3.out).trans rfl
  have hbl3 := hbl2.trans (hb.mono hbl2.size)
  clear hb hr2 hbl2
  go_wp2_with (first | go_skip | (refine load_rowW rfl 63 _ rfl w.heap.size rfl 63 #[Value.int .u32 s.st, .int .u32 s.fs, .int .u32 s.ds, .int .u32 s.se, .int .u32 s.irq, .int .u32 s.d0, .int .u32 s.d1, .bool s.a.rdy, .int .i64 s.a.size, .int .u32 s.a.de, .int .u32 s.a.av, .int .u32 s.a.us, .int .u16 s.a.la, .int .u16 s.a.pu, .bool s.b.rdy, .int .i64 s.b.size, .int .u32 s.b.de, .int .u32 s.b.av, .int .u32 s.b.us, .int .u16 s.b.la, .int .u16 s.b.pu] (0, 0) _ hr3.out Tryd.underlying63 rfl (by kernel_rfl) ?_) | (refine load_midW rfl 60 _ rfl w.heap.size 14 rfl _ _ (VS.range_b hr3.out) Tryd.underlying60 rfl (by kernel_rfl) ?_) | (refine load_midW rfl 60 _ rfl w.heap.size 7 rfl _ _ (VS.range_a hr3.out) Tryd.underlying60 rfl (by kernel_rfl) ?_))
  go_ret
  exact ⟨rfl, hbl3⟩

set_option maxRecDepth 100000 in
set_option maxHeartbeats 1000000 in
theorem vs_check_nr (s : VS) (x y : Nat) (w : World) (hb1 : bits BinOp.andNot IntKind.u32 (s.st : Int) 207 = (x : Int)) (hb2 : bits BinOp.and IntKind.u32 (s.st : Int) 8 = (y : Int))
    (b1 : ((x : Int) != 0) = false) (b2 : ¬ (3 < (s.irq : Int))) (b5 : ((y : Int) != 0) = true) (HA : Hid (∀ W, Calls Tryd.prog 72 #[.agg #[.bool s.a.rdy, .int .i64 s.a.size, .int .u32 s.a.de, .int .u32 s.a.av, .int .u32 s.a.us, .int .u16 s.a.la, .int .u16 s.a.pu]] W fun e w' => e = .returned (.bool true) ∧ Below W.heap.size W w')) (HB : Hid (∀ W, Calls Tryd.prog 72 #[.agg #[.bool s.b.rdy, .int .i64 s.b.size, .int .u32 s.b.de, .int .u32 s.b.av, .int .u32 s.b.us, .int .u16 s.b.la, .int .u16 s.b.pu]] W fun e w' => e = .returned (.bool true) ∧ Below W.heap.size W w')) (HR : Hid (∀ W, Calls Tryd.prog 73 #[.agg #[Value.int .u32 s.st, .int .u32 s.fs, .int .u32 s.ds, .int .u32 s.se, .int .u32 s.irq, .int .u32 s.d0, .int .u32 s.d1, .bool s.a.rdy, .int .i64 s.a.size, .int .u32 s.a.de, .int .u32 s.a.av, .int .u32 s.a.us, .int .u16 s.a.la, .int .u16 s.a.pu, .bool s.b.rdy, .int .i64 s.b.size, .int .u32 s.b.de, .int .u32 s.b.av, .int .u32 s.b.us, .int .u16 s.b.la, .int .u16 s.b.pu]] W fun e w' => e = .returned (.bool false) ∧ Below W.heap.size W w')) :
    Calls Tryd.prog 26 #[.agg #[Value.int .u32 s.st, .int .u32 s.fs, .int .u32 s.ds, .int .u32 s.se, .int .u32 s.irq, .int .u32 s.d0, .int .u32 s.d1, .bool s.a.rdy, .int .i64 s.a.size, .int .u32 s.a.de, .int .u32 s.a.av, .int .u32 s.a.us, .int .u16 s.a.la, .int .u16 s.a.pu, .bool s.b.rdy, .int .i64 s.b.size, .int .u32 s.b.de, .int .u32 s.b.av, .int .u32 s.b.us, .int .u16 s.b.la, .int .u16 s.b.pu]] w fun e w' => e = .returned (errV 1) ∧ Below w.heap.size w w' := by
  have hr0 := Lib.hid (show (w.alloc (.cells s.c 63)).heap[w.heap.size]? = some (.cells s.c 63 (0, 0)) from heap_alloc_new _ _)
  have hbl0 : Below w.heap.size w (w.alloc (.cells s.c 63)) := (Below.refl _ _).alloc (Nat.le_refl _) _
  go_enter Tryd.func26, Tryd.ntmps26
  go_wp2_with (first | go_skip | (refine load_rowW rfl 63 _ rfl w.heap.size rfl 63 #[Value.int .u32 s.st, .int .u32 s.fs, .int .u32 s.ds, .int .u32 s.se, .int .u32 s.irq, .int .u32 s.d0, .int .u32 s.d1, .bool s.a.rdy, .int .i64 s.a.size, .int .u32 s.a.de, .int .u32 s.a.av, .int .u32 s.a.us, .int .u16 s.a.la, .int .u16 s.a.pu, .bool s.b.rdy, .int .i64 s.b.size, .int .u32 s.b.de, .int .u32 s.b.av, .int .u32 s.b.us, .int .u16 s.b.la, .int .u16 s.b.pu] (0, 0) _ hr0.out Tryd.underlying63 rfl (by kernel_rfl) ?_) | (refine load_midW rfl 60 _ rfl w.heap.size 14 rfl _ _ (VS.range_b hr0.out) Tryd.underlying60 rfl (by kernel_rfl) ?_) | (refine load_midW rfl 60 _ rfl w.heap.size 7 rfl _ _ (VS.range_a hr0.out) Tryd.underlying60 rfl (by kernel_rfl) ?_))
  refine (HA.out _).mono ?_
  rintro e w1 ⟨rfl, hb⟩
  have hr1 := Lib.hid (below_cells hr0.out hb)
  have hc1 : w1.cell? ⟨w.heap.size, 0, none⟩ = some (.int .u32 s.st) := (cell_of_row _ _ 0 s.c _ _ hr1.out).trans rfl
  have hbl1 := hbl0.trans (hb.mono hbl0.size)
  clear hb hr0 hbl0
  go_wp2_with (first | go_skip | (refine load_rowW rfl 63 _ rfl w.heap.size rfl 63 #[Value.int .u32 s.st, .int .u32 s.fs, .int .u32 s.ds, .int .u32 s.se, .int .u32 s.irq, .int .u32 s.d0, .int .u32 s.d1, .bool s.a.rdy, .int .i64 s.a.size, .int .u32 s.a.de, .int .u32 s.a.av, .int .u32 s.a.us, .int .u16 s.a.la, .int .u16 s.a.pu, .bool s.b.rdy, .int .i64 s.b.size, .int .u32 s.b.de, .int .u32 s.b.av, .int .u32 s.b.us, .int .u16 s.b.la, .int .u16 s.b.pu] (0, 0) _ hr1.out Tryd.underlying63 rfl (by kernel_rfl) ?_) | (refine load_midW rfl 60 _ rfl w.heap.size 14 rfl _ _ (VS.range_b hr1.out) Tryd.underlying60 rfl (by kernel_rfl) ?_) | (refine load_midW rfl 60 _ rfl w.heap.size 7 rfl _ _ (VS.range_a hr1.out) Tryd.underlying60 rfl (by kernel_rfl) ?_))
  refine (HB.out _).mono ?_
  rintro e w2 ⟨rfl, hb⟩
  have hr2 := Lib.hid (below_cells hr1.out hb)
  have hc2 : w2.cell? ⟨w.heap.size, 0, none⟩ = some (.int .u32 s.st) := (cell_of_row _ _ 0 s.c _ _ hr2.out).trans rfl
  have hbl2 := hbl1.trans (hb.mono hbl1.size)
  clear hb hr1 hbl1
  go_wp2_with (first | go_skip | (refine load_rowW rfl 63 _ rfl w.heap.size rfl 63 #[Value.int .u32 s.st, .int .u32 s.fs, .int .u32 s.ds, .int .u32 s.se, .int .u32 s.irq, .int .u32 s.d0, .int .u32 s.d1, .bool s.a.rdy, .int .i64 s.a.size, .int .u32 s.a.de, .int .u32 s.a.av, .int .u32 s.a.us, .int .u16 s.a.la, .int .u16 s.a.pu, .bool s.b.rdy, .int .i64 s.b.size, .int .u32 s.b.de, .int .u32 s.b.av, .int .u32 s.b.us, .int .u16 s.b.la, .int .u16 s.b.pu] (0, 0) _ hr2.out Tryd.underlying63 rfl (by kernel_rfl) ?_) | (refine load_midW rfl 60 _ rfl w.heap.size 14 rfl _ _ (VS.range_b hr2.out) Tryd.underlying60 rfl (by kernel_rfl) ?_) | (refine load_midW rfl 60 _ rfl w.heap.size 7 rfl _ _ (VS.range_a hr2.out) Tryd.underlying60 rfl (by kernel_rfl) ?_))
  refine (HR.out _).mono ?_
  rintro e w3 ⟨rfl, hb⟩
  have hr3 := Lib.hid (below_cells hr2.out hb)
  have hc3 : w3.cell? ⟨w.heap.size, 0, none⟩ = some (.int .u32 s.st) := (cell_of_row _ _ 0 s.c _ _ hr3.out).trans rfl
  have hbl3 := hbl2.trans (hb.mono hbl2.size)
  clear hb hr2 hbl2
  go_wp2_with (first | go_skip | (refine load_rowW rfl 63 _ rfl w.heap.size rfl 63 #[Value.int .u32 s.st, .int .u32 s.fs, .int .u32 s.ds, .int .u32 s.se, .int .u32 s.irq, .int .u32 s.d0, .int .u32 s.d1, .bool s.a.rdy, .int .i64 s.a.size, .int .u32 s.a.de, .int .u32 s.a.av, .int .u32 s.a.us, .int .u16 s.a.la, .int .u16 s.a.pu, .bool s.b.rdy, .int .i64 s.b.size, .int .u32 s.b.de, .int .u32 s.b.av, .int .u32 s.b.us, .int .u16 s.b.la, .int .u16 s.b.pu] (0, 0) _ hr3.out Tryd.underlying63 rfl (by kernel_rfl) ?_) | (refine load_midW rfl 60 _ rfl w.heap.size 14 rfl _ _ (VS.range_b hr3.out) Tryd.underlying60 rfl (by kernel_rfl) ?_) | (refine load_midW rfl 60 _ rfl w.heap.size 7 rfl _ _ (VS.range_a hr3.out) Tryd.underlying60 rfl (by kernel_rfl) ?_))
  go_ret
  exact ⟨rfl, hbl3⟩

set_option maxRecDepth 100000 in
set_option maxHeartbeats 1000000 in
theorem vs_check_nb (s : VS) (x y : Nat) (w : World) (hb1 : bits BinOp.andNot IntKind.u32 (s.st : Int) 207 = (x : Int)) (_hb2 : bits BinOp.and IntKind.u32 (s.st : Int) 8 = (y : Int))
    (b1 : ((x : Int) != 0) = false) (b2 : ¬ (3 < (s.irq : Int))) (HA : Hid (∀ W, Calls Tryd.prog 72 #[.agg #[.bool s.a.rdy, .int .i64 s.a.size, .int .u32 s.a.de, .int .u32 s.a.av, .int .u32 s.a.us, .int .u16 s.a.la, .int .u16 s.a.pu]] W fun e w' => e = .returned (.bool true) ∧ Below W.heap.size W w')) (HB : Hid (∀ W, Calls Tryd.prog 72 #[.agg #[.bool s.b.rdy, .int .i64 s.b.size, .int .u32 s.b.de, .int .u32 s.b.av, .int .u32 s.b.us, .int .u16 s.b.la, .int .u16 s.b.pu]] W fun e w' => e = .returned (.bool false) ∧ Below W.heap.size W w')) :
    Calls Tryd.prog 26 #[.agg #[Value.int .u32 s.st, .int .u32 s.fs, .int .u32 s.ds, .int .u32 s.se, .int .u32 s.irq, .int .u32 s.d0, .int .u32 s.d1, .bool s.a.rdy, .int .i64 s.a.size, .int .u32 s.a.de, .int .u32 s.a.av, .int .u32 s.a.us, .int .u16 s.a.la, .int .u16 s.a.pu, .bool s.b.rdy, .int .i64 s.b.size, .int .u32 s.b.de, .int .u32 s.b.av, .int .u32 s.b.us, .int .u16 s.b.la, .int .u16 s.b.pu]] w fun e w' => e = .returned (errV 1) ∧ Below w.heap.size w w' := by
  have hr0 := Lib.hid (show (w.alloc (.cells s.c 63)).heap[w.heap.size]? = some (.cells s.c 63 (0, 0)) from heap_alloc_new _ _)
  have hbl0 : Below w.heap.size w (w.alloc (.cells s.c 63)) := (Below.refl _ _).alloc (Nat.le_refl _) _
  go_enter Tryd.func26, Tryd.ntmps26
  go_wp2_with (first | go_skip | (refine load_rowW rfl 63 _ rfl w.heap.size rfl 63 #[Value.int .u32 s.st, .int .u32 s.fs, .int .u32 s.ds, .int .u32 s.se, .int .u32 s.irq, .int .u32 s.d0, .int .u32 s.d1, .bool s.a.rdy, .int .i64 s.a.size, .int .u32 s.a.de, .int .u32 s.a.av, .int .u32 s.a.us, .int .u16 s.a.la, .int .u16 s.a.pu, .bool s.b.rdy, .int .i64 s.b.size, .int .u32 s.b.de, .int .u32 s.b.av, .int .u32 s.b.us, .int .u16 s.b.la, .int .u16 s.b.pu] (0, 0) _ hr0.out Tryd.underlying63 rfl (by kernel_rfl) ?_) | (refine load_midW rfl 60 _ rfl w.heap.size 14 rfl _ _ (VS.range_b hr0.out) Tryd.underlying60 rfl (by kernel_rfl) ?_) | (refine load_midW rfl 60 _ rfl w.heap.size 7 rfl _ _ (VS.range_a hr0.out) Tryd.underlying60 rfl (by kernel_rfl) ?_))
  refine (HA.out _).mono ?_
  rintro e w1 ⟨rfl, hb⟩
  have hr1 := Lib.hid (below_cells hr0.out hb)
  have hc1 : w1.cell? ⟨w.heap.size, 0, none⟩ = some (.int .u32 s.st) := (cell_of_row _ _ 0 s.c _ _ hr1.out).trans rfl
  have hbl1 := hbl0.trans (hb.mono hbl0.size)
  clear hb hr0 hbl0
  go_wp2_with (first | go_skip | (refine load_rowW rfl 63 _ rfl w.heap.size rfl 63 #[Value.int .u32 s.st, .int .u32 s.fs, .int .u32 s.ds, .int .u32 s.se, .int .u32 s.irq, .int .u32 s.d0, .int .u32 s.d1, .bool s.a.rdy, .int .i64 s.a.size, .int .u32 s.a.de, .int .u32 s.a.av, .int .u32 s.a.us, .int .u16 s.a.la, .int .u16 s.a.pu, .bool s.b.rdy, .int .i64 s.b.size, .int .u32 s.b.de, .int .u32 s.b.av, .int .u32 s.b.us, .int .u16 s.b.la, .int .u16 s.b.pu] (0, 0) _ hr1.out Tryd.underlying63 rfl (by kernel_rfl) ?_) | (refine load_midW rfl 60 _ rfl w.heap.size 14 rfl _ _ (VS.range_b hr1.out) Tryd.underlying60 rfl (by kernel_rfl) ?_) | (refine load_midW rfl 60 _ rfl w.heap.size 7 rfl _ _ (VS.range_a hr1.out) Tryd.underlying60 rfl (by kernel_rfl) ?_))
  refine (HB.out _).mono ?_
  rintro e w2 ⟨rfl, hb⟩
  have hr2 := Lib.hid (below_cells hr1.out hb)
  have hc2 : w2.cell? ⟨w.heap.size, 0, none⟩ = some (.int .u32 s.st) := (cell_of_row _ _ 0 s.c _ _ hr2.out).trans rfl
  have hbl2 := hbl1.trans (hb.mono hbl1.size)
  clear hb hr1 hbl1
  go_wp2_with (first | go_skip | (refine load_rowW rfl 63 _ rfl w.heap.size rfl 63 #[Value.int .u32 s.st, .int .u32 s.fs, .int .u32 s.ds, .int .u32 s.se, .int .u32 s.irq, .int .u32 s.d0, .int .u32 s.d1, .bool s.a.rdy, .int .i64 s.a.size, .int .u32 s.a.de, .int .u32 s.a.av, .int .u32 s.a.us, .int .u16 s.a.la, .int .u16 s.a.pu, .bool s.b.rdy, .int .i64 s.b.size, .int .u32 s.b.de, .int .u32 s.b.av, .int .u32 s.b.us, .int .u16 s.b.la, .int .u16 s.b.pu] (0, 0) _ hr2.out Tryd.underlying63 rfl (by kernel_rfl) ?_) | (refine load_midW rfl 60 _ rfl w.heap.size 14 rfl _ _ (VS.range_b hr2.out) Tryd.underlying60 rfl (by kernel_rfl) ?_) | (refine load_midW rfl 60 _ rfl w.heap.size 7 rfl _ _ (VS.range_a hr2.out) Tryd.underlying60 rfl (by kernel_rfl) ?_))
  go_ret
  exact ⟨rfl, hbl2⟩

set_option maxRecDepth 100000 in
set_option maxHeartbeats 1000000 in
theorem vs_check_na (s : VS) (x y : Nat) (w : World) (hb1 : bits BinOp.andNot IntKind.u32 (s.st : Int) 207 = (x : Int)) (_hb2 : bits BinOp.and IntKind.u32 (s.st : Int) 8 = (y : Int))
    (b1 : ((x : Int) != 0) = false) (b2 : ¬ (3 < (s.irq : Int))) (HA : Hid (∀ W, Calls Tryd.prog 72 #[.agg #[.bool s.a.rdy, .int .i64 s.a.size, .int .u32 s.a.de, .int .u32 s.a.av, .int .u32 s.a.us, .int .u16 s.a.la, .int .u16 s.a.pu]] W fun e w' => e = .returned (.bool false) ∧ Below W.heap.size W w')) :
    Calls Tryd.prog 26 #[.agg #[Value.int .u32 s.st, .int .u32 s.fs, .int .u32 s.ds, .int .u32 s.se, .int .u32 s.irq, .int .u32 s.d0, .int .u32 s.d1, .bool s.a.rdy, .int .i64 s.a.size, .int .u32 s.a.de, .int .u32 s.a.av, .int .u32 s.a.us, .int .u16 s.a.la, .int .u16 s.a.pu, .bool s.b.rdy, .int .i64 s.b.size, .int .u32 s.b.de, .int .u32 s.b.av, .int .u32 s.b.us, .int .u16 s.b.la, .int .u16 s.b.pu]] w fun e w' => e = .returned (errV 1) ∧ Below w.heap.size w w' := by
  have hr0 := Lib.hid (show (w.alloc (.cells s.c 63)).heap[w.heap.size]? = some (.cells s.c 63 (0, 0)) from heap_alloc_new _ _)
  have hbl0 : Below w.heap.size w (w.alloc (.cells s.c 63)) := (Below.refl _ _).alloc (Nat.le_refl _) _
  go_enter Tryd.func26, Tryd.ntmps26
  go_wp2_with (first | go_skip | (refine load_rowW rfl 63 _ rfl w.heap.size rfl 63 #[Value.int .u32 s.st, .int .u32 s.fs, .int .u32 s.ds, .int .u32 s.se, .int .u32 s.irq, .int .u32 s.d0, .int .u32 s.d1, .bool s.a.rdy, .int .i64 s.a.size, .int .u32 s.a.de, .int .u32 s.a.av, .int .u32 s.a.us, .int .u16 s.a.la, .int .u16 s.a.pu, .bool s.b.rdy, .int .i64 s.b.size, .int .u32 s.b.de, .int .u32 s.b.av, .int .u32 s.b.us, .int .u16 s.b.la, .int .u16 s.b.pu] (0, 0) _ hr0.out Tryd.underlying63 rfl (by kernel_rfl) ?_) | (refine load_midW rfl 60 _ rfl w.heap.size 14 rfl _ _ (VS.range_b hr0.out) Tryd.underlying60 rfl (by kernel_rfl) ?_) | (refine load_midW rfl 60 _ rfl w.heap.size 7 rfl _ _ (VS.range_a hr0.out) Tryd.underlying60 rfl (by kernel_rfl) ?_))
  refine (HA.out _).mono ?_
  rintro e w1 ⟨rfl, hb⟩
  have hr1 := Lib.hid (below_cells hr0.out hb)
  have hc1 : w1.cell? ⟨w.heap.size, 0, none⟩ = some (.int .u32 s.st) := (cell_of_row _ _ 0 s.c _ _ hr1.out).trans rfl
  have hbl1 := hbl0.trans (hb.mono hbl0.size)
  clear hb hr0 hbl0
  go_wp2_with (first | go_skip | (refine load_rowW rfl 63 _ rfl w.heap.size rfl 63 #[Value.int .u32 s.st, .int .u32 s.fs, .int .u32 s.ds, .int .u32 s.se, .int .u32 s.irq, .int .u32 s.d0, .int .u32 s.d1, .bool s.a.rdy, .int .i64 s.a.size, .int .u32 s.a.de, .int .u32 s.a.av, .int .u32 s.a.us, .int .u16 s.a.la, .int .u16 s.a.pu, .bool s.b.rdy, .int .i64 s.b.size, .int .u32 s.b.de, .int .u32 s.b.av, .int .u32 s.b.us, .int .u16 s.b.la, .int .u16 s.b.pu] (0, 0) _ hr1.out Tryd.underlying63 rfl (by kernel_rfl) ?_) | (refine load_midW rfl 60 _ rfl w.heap.size 14 rfl _ _ (VS.range_b hr1.out) Tryd.underlying60 rfl (by kernel_rfl) ?_) | (refine load_midW rfl 60 _ rfl w.heap.size 7 rfl _ _ (VS.range_a hr1.out) Tryd.underlying60 rfl (by kernel_rfl) ?_))
  go_ret
  exact ⟨rfl, hbl1⟩

set_option maxRecDepth 100000 in
set_option maxHeartbeats 1000000 in
theorem vs_check_ni (s : VS) (x y : Nat) (w : World) (hb1 : bits BinOp.andNot IntKind.u32 (s.st : Int) 207 = (x : Int)) (_hb2 : bits BinOp.and IntKind.u32 (s.st : Int) 8 = (y : Int))
    (b1 : ((x : Int) != 0) = false) (b2 : 3 < (s.irq : Int)) :
    Calls Tryd.prog 26 #[.agg #[Value.int .u32 s.st, .int .u32 s.fs, .int .u32 s.ds, .int .u32 s.se, .int .u32 s.irq, .int .u32 s.d0, .int .u32 s.d1, .bool s.a.rdy, .int .i64 s.a.size, .int .u32 s.a.de, .int .u32 s.a.av, .int .u32 s.a.us, .int .u16 s.a.la, .int .u16 s.a.pu, .bool s.b.rdy, .int .i64 s.b.size, .int .u32 s.b.de, .int .u32 s.b.av, .int .u32 s.b.us, .int .u16 s.b.la, .int .u16 s.b.pu]] w fun e w' => e = .returned (errV 1) ∧ Below w.heap.size w w' := by
  have hr0 := Lib.hid (show (w.alloc (.cells s.c 63)).heap[w.heap.size]? = some (.cells s.c 63 (0, 0)) from heap_alloc_new _ _)
  have hbl0 : Below w.heap.size w (w.alloc (.cells s.c 63)) := (Below.refl _ _).alloc (Nat.le_refl _) _
  go_enter Tryd.func26, Tryd.ntmps26
  go_wp2_with (first | go_skip | (refine load_rowW rfl 63 _ rfl w.heap.size rfl 63 #[Value.int .u32 s.st, .int .u32 s.fs, .int .u32 s.ds, .int .u32 s.se, .int .u32 s.irq, .int .u32 s.d0, .int .u32 s.d1, .bool s.a.rdy, .int .i64 s.a.size, .int .u32 s.a.de, .int .u32 s.a.av, .int .u32 s.a.us, .int .u16 s.a.la, .int .u16 s.a.pu, .bool s.b.rdy, .int .i64 s.b.size, .int .u32 s.b.de, .int .u32 s.b.av, .int .u32 s.b.us, .int .u16 s.b.la, .int .u16 s.b.pu] (0, 0) _ hr0.out Tryd.underlying63 rfl (by kernel_rfl) ?_) | (refine load_midW rfl 60 _ rfl w.heap.size 14 rfl _ _ (VS.range_b hr0.out) Tryd.underlying60 rfl (by kernel_rfl) ?_) | (refine load_midW rfl 60 _ rfl w.heap.size 7 rfl _ _ (VS.range_a hr0.out) Tryd.underlying60 rfl (by kernel_rfl) ?_))
  go_ret
  exact ⟨rfl, hbl0⟩

set_option maxRecDepth 100000 in
set_option maxHeartbeats 1000000 in
theorem vs_check_ns (s : VS) (x y : Nat) (w : World) (hb1 : bits BinOp.andNot IntKind.u32 (s.st : Int) 207 = (x : Int)) (_hb2 : bits BinOp.and IntKind.u32 (s.st : Int) 8 = (y : Int))
    (b1 : ((x : Int) != 0) = true) :
    Calls Tryd.prog 26 #[.agg #[Value.int .u32 s.st, .int .u32 s.fs, .int .u32 s.ds, .int .u32 s.se, .int .u32 s.irq, .int .u32 s.d0, .int .u32 s.d1, .bool s.a.rdy, .int .i64 s.a.size, .int .u32 s.a.de, .int .u32 s.a.av, .int .u32 s.a.us, .int .u16 s.a.la, .int .u16 s.a.pu, .bool s.b.rdy, .int .i64 s.b.size, .int .u32 s.b.de, .int .u32 s.b.av, .int .u32 s.b.us, .int .u16 s.b.la, .int .u16 s.b.pu]] w fun e w' => e = .returned (errV 1) ∧ Below w.heap.size w w' := by
  have hr0 := Lib.hid (show (w.alloc (.cells s.c 63)).heap[w.heap.size]? = some (.cells s.c 63 (0, 0)) from heap_alloc_new _ _)
  have hbl0 : Below w.heap.size w (w.alloc (.cells s.c 63)) := (Below.refl _ _).alloc (Nat.le_refl _) _
  go_enter Tryd.func26, Tryd.ntmps26
  go_wp2_with (first | go_skip | (refine load_rowW rfl 63 _ rfl w.heap.size rfl 63 #[Value.int .u32 s.st, .int .u32 s.fs, .int .u32 s.ds, .int .u32 s.se, .int .u32 s.irq, .int .u32 s.d0, .int .u32 s.d1, .bool s.a.rdy, .int .i64 s.a.size, .int .u32 s.a.de, .int .u32 s.a.av, .int .u32 s.a.us, .int .u16 s.a.la, .int .u16 s.a.pu, .bool s.b.rdy, .int .i64 s.b.size, .int .u32 s.b.de, .int .u32 s.b.av, .int .u32 s.b.us, .int .u16 s.b.la, .int .u16 s.b.pu] (0, 0) _ hr0.out Tryd.underlying63 rfl (by kernel_rfl) ?_) | (refine load_midW rfl 60 _ rfl w.heap.size 14 rfl _ _ (VS.range_b hr0.out) Tryd.underlying60 rfl (by kernel_rfl) ?_) | (refine load_midW rfl 60 _ rfl w.heap.size 7 rfl _ _ (VS.range_a hr0.out) Tryd.underlying60 rfl (by kernel_rfl) ?_))
  go_ret
  exact ⟨rfl, hbl0⟩

theorem vs_Check (s : VS) (hs : s.st < 4294967296) (w : World) :
    Calls Tryd.prog 26 #[s.v] w fun e w' => e = .returned (errV (if s.ok then 0 else 1)) ∧ Below w.heap.size w w' := by
  have hb1 : bits BinOp.andNot IntKind.u32 (s.st : Int) 207 = ((s.st &&& (4294967295 - 207) : Nat) : Int) := by rw [show (207 : Int) = ((207 : Nat) : Int) from rfl, u32_andNot_nat _ _ hs (by omega)]
  have hb2 : bits BinOp.and IntKind.u32 (s.st : Int) 8 = ((s.st &&& 8 : Nat) : Int) := by rw [show (8 : Int) = ((8 : Nat) : Int) from rfl, u32_and_nat _ _ hs (by omega)]
  have HA := Lib.hid (vq_may s.a)
  have HB := Lib.hid (vq_may s.b)
  have HR := Lib.hid (vs_right s)
  simp only [VQ.v, VS.v, VS.c] at HA HB HR
  have HOK : Hid (s.ok ↔ s.st &&& (4294967295 - 207) = 0 ∧ s.irq ≤ 3 ∧ s.a.may ∧ s.b.may ∧ (s.st &&& 8 ≠ 0 → s.right)) := Lib.hid Iff.rfl
  simp only [VS.v, VS.c]
  obtain ⟨x, hx⟩ : ∃ x, x = s.st &&& (4294967295 - 207) := ⟨_, rfl⟩
  obtain ⟨y, hy⟩ : ∃ y, y = s.st &&& 8 := ⟨_, rfl⟩
  rw [← hx] at hb1 HOK
  rw [← hy] at hb2 HOK
  clear hx hy
  by_cases h1 : x = 0
  · have b1 : ((x : Int) != 0) = false := by simp [h1]
    by_cases h2 : s.irq ≤ 3
    · have b2 : ¬ (3 < (s.irq : Int)) := by omega
      by_cases h3 : s.a.may
      · rw [decide_eq_true h3] at HA
        by_cases h4 : s.b.may
        · rw [decide_eq_true h4] at HB
          by_cases h5 : y = 0
          · rw [if_pos (HOK.out.2 ⟨h1, h2, h3, h4, fun h => absurd h5 h⟩)]
            exact vs_check_y0 s x y w hb1 hb2 b1 b2 (by simp [h5]) HA HB
          · by_cases h6 : s.right
            · rw [decide_eq_true h6] at HR
              rw [if_pos (HOK.out.2 ⟨h1, h2, h3, h4, fun _ => h6⟩)]
              exact vs_check_rt s x y w hb1 hb2 b1 b2 (by simp [h5]) HA HB HR
            · rw [decide_eq_false h6] at HR
              rw [if_neg fun h => h6 ((HOK.out.1 h).2.2.2.2 h5)]
              exact vs_check_nr s x y w hb1 hb2 b1 b2 (by simp [h5]) HA HB HR
        · rw [decide_eq_false h4] at HB
          rw [if_neg fun h => h4 (HOK.out.1 h).2.2.2.1]
          exact vs_check_nb s x y w hb1 hb2 b1 b2 HA HB
      · rw [decide_eq_false h3] at HA
        rw [if_neg fun h => h3 (HOK.out.1 h).2.2.1]
        exact vs_check_na s x y w hb1 hb2 b1 b2 HA
    · rw [if_neg fun h => h2 (HOK.out.1 h).2.1]
      exact vs_check_ni s x y w hb1 hb2 b1 (by omega)
  · rw [if_neg fun h => h1 (HOK.out.1 h).1]
    exact vs_check_ns s x y w hb1 hb2 (by simp [h1])
end Go.Proofs.YtcbjlpkkebcmjaaDoor

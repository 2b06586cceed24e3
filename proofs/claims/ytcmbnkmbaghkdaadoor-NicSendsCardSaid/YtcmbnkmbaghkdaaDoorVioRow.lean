/-
Guarded loads of whole rows; the port's rows; virtio.Live walked; what a state that may be is.
No condition.
-/
import Derived.Test.YtcmbnkmbaghkdaaDoorVio
import Derived.BigFrame
import Derived.Deep.MidRow
namespace Go.Proofs.YtcmbnkmbaghkdaaDoor
open Go.RowKit

theorem load_rowW {P : Program} {ops : Array Oper} {rest : List Oper} {o : Oper} {a : Act} {w : World} {Q : Exit → Act → World → Prop} (hw : Region.wanted o (yielded ops a.tmps) = true) (ty : TypeId) (x : Operand) (ho : o.op = .load ty x)
    (g : Nat) (hx : a.eval x = .pointer (some ⟨g, 0, none⟩)) (t : TypeId) (cs : Array Value) (fr : Nat × Nat) (d : TypeDesc) (hg : w.heap[g]? = some (.cells cs t fr))
    (hu : P.underlying ty = some d) (hd : (match d with | .struct _ | .array _ _ => true | _ => false) = true) (hi : (P.info? ty).map (·.size) = some cs.size)
    (h : wpList P ops Q rest (a.put o.dst (.agg cs)) w) : wpList P ops Q (o :: rest) a w :=
  BigFrame.wpList_want hw fun _ hK => wp_load_row ty x ho g hx t cs fr d hg hu hd hi (hK _ _ h)
theorem load_midW {P : Program} {ops : Array Oper} {rest : List Oper} {op : Oper} {a : Act} {w : World} {Q : Exit → Act → World → Prop} (hw : Region.wanted op (yielded ops a.tmps) = true) (ty : TypeId) (x : Operand) (ho : op.op = .load ty x)
    (b o : Nat) (hx : a.eval x = .pointer (some ⟨b, o, none⟩)) (cs : List Value) (d : TypeDesc) (hc : w.rangeAt b o cs)
    (hu : P.underlying ty = some d) (hd : d.isRow = true) (hi : (P.info? ty).map (·.size) = some cs.length)
    (h : wpList P ops Q rest (a.put op.dst (.agg cs.toArray)) w) : wpList P ops Q (op :: rest) a w :=
  BigFrame.wpList_want hw fun _ hK => wp_load_mid ty x ho b o hx cs d hc hu hd hi (hK _ _ h)
theorem range_of_row {w : World} {b : Nat} {cs : Array Value} {t : TypeId} {fr : Nat × Nat} (h : w.heap[b]? = some (.cells cs t fr)) (o : Nat) (l : List Value) (hl : ∀ (j : Nat) v, l[j]? = some v → cs[o + j]? = some v) : w.rangeAt b o l :=
  fun j v hv => (cell_of_row w b (o + j) cs t fr h).trans (hl j v hv)
def VQ.l (q : VQ) : List Value := [.bool q.rdy, .int .i64 q.size, .int .u32 q.de, .int .u32 q.av, .int .u32 q.us, .int .u16 q.la, .int .u16 q.pu]
theorem seven {P : Nat → Prop} {j : Nat} (h : j < 7) (h0 : P 0) (h1 : P 1) (h2 : P 2) (h3 : P 3) (h4 : P 4) (h5 : P 5) (h6 : P 6) : P j := by
  match j, h with
  | 0, _ => exact h0
  | 1, _ => exact h1
  | 2, _ => exact h2
  | 3, _ => exact h3
  | 4, _ => exact h4
  | 5, _ => exact h5
  | 6, _ => exact h6
theorem VS.range_a {w : World} {b : Nat} {s : VS} {t : TypeId} {fr : Nat × Nat} (h : w.heap[b]? = some (.cells s.c t fr)) : w.rangeAt b 7 [.bool s.a.rdy, .int .i64 s.a.size, .int .u32 s.a.de, .int .u32 s.a.av, .int .u32 s.a.us, .int .u16 s.a.la, .int .u16 s.a.pu] :=
  range_of_row h 7 _ fun j v hv => by
    have hj : j < 7 := (List.getElem?_eq_some_iff.1 hv).1
    rw [← hv]
    exact seven (P := fun j => s.c[7 + j]? = s.a.l[j]?) hj rfl rfl rfl rfl rfl rfl rfl
theorem VS.range_b {w : World} {b : Nat} {s : VS} {t : TypeId} {fr : Nat × Nat} (h : w.heap[b]? = some (.cells s.c t fr)) : w.rangeAt b 14 [.bool s.b.rdy, .int .i64 s.b.size, .int .u32 s.b.de, .int .u32 s.b.av, .int .u32 s.b.us, .int .u16 s.b.la, .int .u16 s.b.pu] :=
  range_of_row h 14 _ fun j v hv => by
    have hj : j < 7 := (List.getElem?_eq_some_iff.1 hv).1
    rw [← hv]
    exact seven (P := fun j => s.c[14 + j]? = s.b.l[j]?) hj rfl rfl rfl rfl rfl rfl rfl
def VS.right (s : VS) : Prop := s.d0 = 0 ∧ s.d1 = 1
instance (s : VS) : Decidable s.right := inferInstanceAs (Decidable (s.d0 = 0 ∧ s.d1 = 1))
def VS.live (s : VS) : Prop := s.st &&& 76 = 12
instance (s : VS) : Decidable s.live := inferInstanceAs (Decidable (s.st &&& 76 = 12))
set_option maxRecDepth 100000 in
set_option maxHeartbeats 1000000 in
theorem vs_Live (s : VS) (hs : s.st < 4294967296) (w : World) :
    Calls Tryd.prog 57 #[s.v] w fun e w' => e = .returned (.bool (decide s.live)) ∧ Below w.heap.size w w' := by
  have hb : bits BinOp.and IntKind.u32 (s.st : Int) 76 = ((s.st &&& 76 : Nat) : Int) := by rw [show (76 : Int) = ((76 : Nat) : Int) from rfl, u32_and_nat _ _ hs (by omega)]
  have e : decide s.live = (((s.st &&& 76 : Nat) : Int) == 12) := by
    by_cases h : s.live
    · rw [decide_eq_true h, show s.st &&& 76 = 12 from h]; rfl
    · rw [decide_eq_false h]
      have h2 : ¬ (s.st &&& 76 = 12) := h
      symm
      simp only [beq_eq_false_iff_ne, ne_eq]
      omega
  rw [e]
  clear e
  simp only [VS.v, VS.c]
  go_enter Tryd.func57, Tryd.ntmps57
  go_wp2_with fail
  go_ret
  exact ⟨rfl, (Below.refl w.heap.size w).alloc (Nat.le_refl _) _⟩

/-- A state that may be. -/
def VS.ok (s : VS) : Prop := s.st &&& (4294967295 - 207) = 0 ∧ s.irq ≤ 3 ∧ s.a.may ∧ s.b.may ∧ (s.st &&& 8 ≠ 0 → s.right)
instance (s : VS) : Decidable s.ok := by unfold VS.ok; infer_instance
theorem below_cells {a b : World} {g : Nat} {cs : Array Value} {t : TypeId} {f : Nat × Nat} (h : a.heap[g]? = some (.cells cs t f)) (hb : Below a.heap.size a b) : b.heap[g]? = some (.cells cs t f) :=
  (hb.block _ (by obtain ⟨h, _⟩ := Array.getElem?_eq_some_iff.1 h; exact h)).trans h

end Go.Proofs.YtcmbnkmbaghkdaaDoor

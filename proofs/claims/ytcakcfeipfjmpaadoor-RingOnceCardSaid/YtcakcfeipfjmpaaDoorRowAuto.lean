/-
Cells of rows that are known whole, for the walk.
No condition.
-/
import Derived.Test.YtcakcfeipfjmpaaDoorKx
import Derived.Laws.Rows
import Derived.Laws.Tables
import Derived.Deep.MidRow
import Derived.OrdersHeld
import Derived.Deep.RegionHeld3
namespace Go.Proofs.YtcakcfeipfjmpaaDoor
open Go.RowKit

def cellOf (x : Obj) (j : Nat) : Option Value := match x with | .cells cs _ _ => cs[j]? | _ => none
def frozenOf (x : Obj) (j : Nat) : Bool := match x with | .cells _ _ fr => decide (fr.1 ≤ j ∧ j < fr.2) | _ => false
theorem cellOf_cells (cs : Array Value) (t : TypeId) (fr : Nat × Nat) (j : Nat) : cellOf (.cells cs t fr) j = cs[j]? := rfl
theorem cell_by {w : World} {g j : Nat} {cs : Array Value} {t : TypeId} {fr : Nat × Nat} {x : Obj} (h : w.heap[g]? = some x) (hx : x = .cells cs t fr) : w.cell? ⟨g, j, none⟩ = cs[j]? := by
  subst hx
  exact cell_of_row w g j cs t fr h
theorem frozen_by {w : World} {g j : Nat} {cs : Array Value} {t : TypeId} {x : Obj} (h : w.heap[g]? = some x) (hx : x = .cells cs t (0, 0)) : w.frozen? ⟨g, j, none⟩ = false := by
  subst hx
  exact frozen_of_row w g j cs t h
/-- A row is stored: the world behind it under a name. -/
theorem wpList_store_to {P : Program} {ops : Array Oper} {rest : List Oper} {o : Oper} {a : Act} {w : World} {Q : Exit → Act → World → Prop} (hgd : o.guard = none) (ty : TypeId) (x y : Operand) (ho : o.op = .store ty x y)
    (g : Nat) (cells : Array Value) (hx : a.eval x = .pointer (some ⟨g, 0, none⟩)) (hy : a.eval y = .agg cells)
    (t : TypeId) (old : Array Value) (hg : w.heap[g]? = some (.cells old t (0, 0))) (hi : (P.info? ty).map (·.size) = some cells.size)
    (hold : old.size = cells.size) (h1 : cells.all (·.oneCell') = true)
    (h : ∀ w', Hid (KX (fun k => k = g) w w') → w'.heap[g]? = some (.cells cells t (0, 0)) → wpList P ops Q rest (a.put o.dst undef) w') : wpList P ops Q (o :: rest) a w :=
  wpList_store_row hgd ty x y ho g cells hx hy t old hg hi hold h1 (h _ (Lib.hid ((KX.refl (fun k => k = g) w).setRow (.inl rfl) _)) (setRow_heap _ _ _ _ _ _ hg))
theorem range_of_all {w : World} {b : Nat} {cs : Array Value} {t : TypeId} {fr : Nat × Nat} (h : w.heap[b]? = some (.cells cs t fr)) : w.rangeAt b 0 cs.toList := by
  intro j v hj
  rw [Nat.zero_add]
  exact (cell_of_row _ _ j _ _ _ h).trans (by rw [← hj, Array.getElem?_toList])
end Go.Proofs.YtcakcfeipfjmpaaDoor

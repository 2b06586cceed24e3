/-
A frame by blocks: what stood at first, but for the blocks of X, stands as it stood.
No condition.
-/
import Derived.Test.YtcakcfeipfjmpaaDoorWords
namespace Go.Proofs.YtcakcfeipfjmpaaDoor
open Go.RowKit

structure KX (X : Nat → Prop) (a w : World) : Prop where
  os : w.os = a.os
  tape : w.tape = a.tape
  output : w.output = a.output
  size : a.heap.size ≤ w.heap.size
  block : ∀ k, k < a.heap.size → ¬ X k → w.heap[k]? = a.heap[k]?

namespace KX
variable {X Y : Nat → Prop} {a b w : World}
theorem refl (X : Nat → Prop) (a : World) : KX X a a := ⟨rfl, rfl, rfl, Nat.le_refl _, fun _ _ _ => rfl⟩
theorem mono (h : KX X a w) (hy : ∀ k, k < a.heap.size → X k → Y k) : KX Y a w := ⟨h.os, h.tape, h.output, h.size, fun k hk hn => h.block k hk (fun hx => hn (hy k hk hx))⟩
theorem trans (h : KX X a b) (k : KX Y b w) (hy : ∀ i, i < a.heap.size → Y i → X i) : KX X a w :=
  ⟨k.os.trans h.os, k.tape.trans h.tape, k.output.trans h.output, Nat.le_trans h.size k.size, fun i hi hn => (k.block i (Nat.lt_of_lt_of_le hi h.size) (fun e => hn (hy i hi e))).trans (h.block i hi hn)⟩
theorem of_below (h : Below a.heap.size a w) : KX X a w := ⟨h.os, h.tape, h.output, h.size, fun k hk _ => h.block k hk⟩
theorem below {B : Nat} (h : KX X a w) (hx : ∀ k, k < B → ¬ X k) (hB : B ≤ a.heap.size) : Below B a w := ⟨h.os, h.tape, h.output, h.size, fun k hk => h.block k (Nat.lt_of_lt_of_le hk hB) (hx k hk)⟩
theorem drew (h : KX X a w) : KX X a w.drew := ⟨h.os, h.tape, h.output, h.size, h.block⟩
theorem drewN (h : KX X a w) (n : Nat) : KX X a (w.drewN n) := ⟨h.os, h.tape, h.output, h.size, h.block⟩
theorem alloc (h : KX X a w) (o : Obj) : KX X a (w.alloc o) :=
  ⟨h.os, h.tape, h.output, Nat.le_trans h.size (by simp), fun k hk hn => (Below.heap_alloc _ _ _ (Nat.lt_of_lt_of_le hk h.size)).trans (h.block k hk hn)⟩
theorem setCell (h : KX X a w) {p : Addr} (hp : X p.block ∨ a.heap.size ≤ p.block) (u : Value) : KX X a (w.setCell p u) :=
  ⟨h.os, h.tape, h.output, Nat.le_trans h.size (by simp [World.setCell]), fun k hk hn => (Below.heap_setCell _ _ _ _ (fun e => by subst e; rcases hp with hp | hp; exact hn hp; omega)).trans (h.block k hk hn)⟩
theorem setRow (h : KX X a w) {g : Nat} (hp : X g ∨ a.heap.size ≤ g) (cs : Array Value) : KX X a (w.setRow g cs) :=
  ⟨h.os, h.tape, h.output, Nat.le_trans h.size (by simp [World.setRow]), fun k hk hn => by
    rw [← h.block k hk hn]
    simp only [World.setRow, Array.getElem?_modify]
    rw [if_neg (fun e => by subst e; rcases hp with hp | hp; exact hn hp; omega)]⟩
theorem heap (h : KX X a w) {k : Nat} {x : Obj} (hk : a.heap[k]? = some x) (hn : ¬ X k) : w.heap[k]? = some x :=
  (h.block k (Array.getElem?_eq_some_iff.1 hk).1 hn).trans hk
theorem cell (h : KX X a w) {p : Addr} (hp : p.block < a.heap.size) (hn : ¬ X p.block) : w.cell? p = a.cell? p := World.cell?_of_block (w := a) (h.block p.block hp hn)
theorem frozen (h : KX X a w) {p : Addr} (hp : p.block < a.heap.size) (hn : ¬ X p.block) : w.frozen? p = a.frozen? p := World.frozen?_of_block (w := a) (h.block p.block hp hn)
end KX
theorem lt_heap {w : World} {k : Nat} {x : Obj} (h : w.heap[k]? = some x) : k < w.heap.size := (Array.getElem?_eq_some_iff.1 h).1
theorem heap_row_other {w : World} {b b' : Nat} {cs : Array Value} (h : b' ≠ b) : (w.setRow b cs).heap[b']? = w.heap[b']? := by
  simp only [World.setRow, Array.getElem?_modify]
  rw [if_neg (fun e => h e.symm)]
theorem heap_cell_other {w : World} {p : Addr} {u : Value} {b' : Nat} (h : b' ≠ p.block) : (w.setCell p u).heap[b']? = w.heap[b']? := Below.heap_setCell _ _ _ _ h
end Go.Proofs.YtcakcfeipfjmpaaDoor

/-
A law that has two memories, one a clone of the other.
No condition.
-/
import Derived.Test.YtcakcfeipfjmpaaDoorMemClone
import Derived.Test.YtcakcfeipfjmpaaDoorBoth12
import Derived.Test.YtcakcfeipfjmpaaDoorDmaKeep
namespace Go.Proofs.YtcakcfeipfjmpaaDoor
open Go.RowKit

theorem load_rowG {P : Program} {ops : Array Oper} {rest : List Oper} {o : Oper} {a : Act} {w : World} {Q : Exit → Act → World → Prop} (hw : Region.wanted o (yielded ops a.tmps) = true) (ty : TypeId) (x : Operand) (ho : o.op = .load ty x)
    (g : Nat) (hx : a.eval x = .pointer (some ⟨g, 0, none⟩)) (t : TypeId) (cs : Array Value) (fr : Nat × Nat) (d : TypeDesc) (hg : w.heap[g]? = some (.cells cs t fr))
    (hu : P.underlying ty = some d) (hd : (match d with | .struct _ | .array _ _ => true | _ => false) = true) (hi : (P.info? ty).map (·.size) = some cs.size)
    (h : wpList P ops Q rest (a.put o.dst (.agg cs)) w) : wpList P ops Q (o :: rest) a w :=
  BigFrame.wpList_want hw fun _ hK => wp_load_row ty x ho g hx t cs fr d hg hu hd hi (hK _ _ h)
structure LawTwo (w0 W : World) (g : Nat) (m : Mm) (F : Nat → Prop) (g2 : Nat) (m2 : Mm) (G : Nat → Prop) : Prop where
  two : Two W g m F g2 m2 G
  lo : ∀ k, F k → w0.heap.size ≤ k
  lo2 : ∀ k, G k → w0.heap.size ≤ k
  fr : Below w0.heap.size w0 W
theorem LawTwo.law {w0 W : World} {g g2 : Nat} {m m2 : Mm} {F G : Nat → Prop} (h : LawTwo w0 W g m F g2 m2 G) : LawMem w0 W g m F := ⟨h.two.a, h.lo, h.fr⟩
theorem LawTwo.of {w0 W W' : World} {g g2 : Nat} {m m2 : Mm} {F G : Nat → Prop} (h : LawMem w0 W g m F) (h2 : Two W' g m F g2 m2 G) (hG : ∀ k, G k → W.heap.size ≤ k) (hb : Below W.heap.size W W') : LawTwo w0 W' g m F g2 m2 G :=
  ⟨h2, h.lo, fun k hk => Nat.le_trans h.fr.size (hG k hk), h.fr.trans (hb.mono h.fr.size)⟩
theorem LawTwo.step {w0 W W' : World} {g g2 : Nat} {m m' m2 : Mm} {F F' G : Nat → Prop} (h : LawTwo w0 W g m F g2 m2 G) (hr : RamIs W' g m' F') (hs : MemStep F F' W W') : LawTwo w0 W' g m' F' g2 m2 G :=
  ⟨h.two.step hr hs, (h.law.step hr hs).lo, h.lo2, (h.law.step hr hs).fr⟩
theorem LawTwo.below {w0 W W' : World} {g g2 : Nat} {m m2 : Mm} {F G : Nat → Prop} (h : LawTwo w0 W g m F g2 m2 G) (hb : Below W.heap.size W W') : LawTwo w0 W' g m F g2 m2 G :=
  ⟨h.two.below hb, h.lo, h.lo2, h.fr.trans (hb.mono h.fr.size)⟩
theorem LawTwo.own {w0 W W' : World} {g g2 : Nat} {m m2 : Mm} {F G : Nat → Prop} {b : Nat} (h : LawTwo w0 W g m F g2 m2 G) (hk : KX (fun k => k = b) W W') (hb : w0.heap.size ≤ b) (hf : ¬ F b) (hg : ¬ G b) : LawTwo w0 W' g m F g2 m2 G :=
  ⟨⟨h.two.a.kx hk (fun k _ h e => hf (e ▸ h)), h.two.b.kx hk (fun k _ h e => hg (e ▸ h)), h.two.ap⟩, h.lo, h.lo2, h.fr.trans (hk.below (fun k hl e => by omega) h.fr.size)⟩
theorem LawTwo.same {w0 W W' : World} {g g2 : Nat} {m m2 : Mm} {F G F' G' : Nat → Prop} (h : LawTwo w0 W g m F g2 m2 G) (h2 : Two W' g m F' g2 m2 G') (hk : KX (fun k => F k ∨ G k) W W') (hF : ∀ k, F' k → F k ∨ W.heap.size ≤ k) (hG : ∀ k, G' k → G k ∨ W.heap.size ≤ k) : LawTwo w0 W' g m F' g2 m2 G' :=
  ⟨h2, fun k hk => (hF k hk).elim (h.lo k) (fun e => Nat.le_trans h.fr.size e), fun k hk => (hG k hk).elim (h.lo2 k) (fun e => Nat.le_trans h.fr.size e),
    h.fr.trans (hk.below (fun k hl e => e.elim (fun e => by have := h.lo k e; omega) (fun e => by have := h.lo2 k e; omega)) h.fr.size)⟩
/-- A clone has the same bytes. -/
theorem twin_same (m : Mm) (dc : Nat) (pc : Nat → Nat) (wr : Int) : decide (∀ i, i < m.n → cut (fun j => m.f (4096 * i + j)) 0 4096 = cut (fun j => (m.twin dc pc m.n wr).f (4096 * i + j)) 0 4096) = true := by
  refine decide_eq_true (fun i hi => ?_)
  unfold cut
  refine List.map_congr_left (fun j hj => ?_)
  have hj2 : j < 4096 := by simpa using hj
  show _ = upF m.f m.n _
  unfold upF
  rw [if_pos (by omega)]
theorem PairsL.below {w W : World} {p : Option Addr} {l : List (Nat × Nat)} (h : PairsL w p l) (hb : Below w.heap.size w W) : PairsL W p l := by
  intro k A B hk
  obtain ⟨h1, h2, b, o, hp, hc⟩ := h k A B hk
  exact ⟨h1, h2, b, o, hp, fun W' hW' => hc W' (hb.trans (hW'.mono hb.size))⟩
theorem fold_0 (x : Int) (q : Int) (h0 : 0 < q) (h1 : q ≤ 1000000) : ∃ k : Nat, (k : Int) < q ∧ wrap64 ((IntKind.u64.wrap x).tmod q) = (k : Int) := by
  have hw : 0 ≤ IntKind.u64.wrap x := by rw [IntKind.wrap_u64]; omega
  generalize IntKind.u64.wrap x = y at hw
  have h2 : y.tmod q = y % q := Int.tmod_eq_emod_of_nonneg hw
  have h3 := Int.emod_nonneg y (show q ≠ 0 by omega)
  have h4 := Int.emod_lt_of_pos y h0
  rw [h2]
  generalize y % q = z at h3 h4
  refine ⟨z.toNat, by omega, ?_⟩
  unfold wrap64
  omega
end Go.Proofs.YtcakcfeipfjmpaaDoor

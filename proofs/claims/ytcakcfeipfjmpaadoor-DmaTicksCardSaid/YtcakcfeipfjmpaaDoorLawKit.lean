/-
Small words for the laws of package pinnacelaw12.
No condition.
-/
import Derived.Test.YtcakcfeipfjmpaaDoorBoth12
namespace Go.Proofs.YtcakcfeipfjmpaaDoor
open Go.RowKit

theorem load_rowG {P : Program} {ops : Array Oper} {rest : List Oper} {o : Oper} {a : Act} {w : World} {Q : Exit → Act → World → Prop} (hw : Region.wanted o (yielded ops a.tmps) = true) (ty : TypeId) (x : Operand) (ho : o.op = .load ty x)
    (g : Nat) (hx : a.eval x = .pointer (some ⟨g, 0, none⟩)) (t : TypeId) (cs : Array Value) (fr : Nat × Nat) (d : TypeDesc) (hg : w.heap[g]? = some (.cells cs t fr))
    (hu : P.underlying ty = some d) (hd : (match d with | .struct _ | .array _ _ => true | _ => false) = true) (hi : (P.info? ty).map (·.size) = some cs.size)
    (h : wpList P ops Q rest (a.put o.dst (.agg cs)) w) : wpList P ops Q (o :: rest) a w :=
  BigFrame.wpList_want hw fun _ hK => wp_load_row ty x ho g hx t cs fr d hg hu hd hi (hK _ _ h)
theorem PairsL.below {w W : World} {p : Option Addr} {l : List (Nat × Nat)} (h : PairsL w p l) (hb : Below w.heap.size w W) : PairsL W p l := by
  intro k A B hk
  obtain ⟨h1, h2, b, o, hp, hc⟩ := h k A B hk
  exact ⟨h1, h2, b, o, hp, fun W' hW' => hc W' (hb.trans (hW'.mono hb.size))⟩
theorem fold_0 (x : Int) (q : Int) (h0 : 0 < q) (h1 : q ≤ 1000000) : ∃ k : Nat, (k : Int) < q ∧ wrap64 ((IntKind.u64.wrap x).tmod q) = (k : Int) := by
  have hw : 0 ≤ IntKind.u64.wrap x := by rw [IntKind.wrap_u64]; omega
  generalize IntKind.u64.wrap x = y at hw
  have h2 : y.tmod q = y % q := Int.tmod_eq_emod_of_nonneg hw
  have h3 := Int.emod_nonneg y (show q ≠ 0 by omega)
  have h4 := Int.emod_lt_of_pos y h0
  rw [h2]
  generalize y % q = z at h3 h4
  refine ⟨z.toNat, by omega, ?_⟩
  unfold wrap64
  omega
theorem fold_1 (x : Int) (q : Int) (h0 : 0 < q) (h1 : q ≤ 1000000) : ∃ k : Nat, (k : Int) < q ∧ wrap64 (1 + wrap64 ((IntKind.u64.wrap x).tmod q)) = ((k + 1 : Nat) : Int) := by
  obtain ⟨k, hk, e⟩ := fold_0 x q h0 h1
  rw [e]
  refine ⟨k, hk, ?_⟩
  unfold wrap64
  omega
theorem law_read {g : Nat} {m : Mm} {F : Nat → Prop} {w : World} (h : RamIs w g m F) (a n : Nat) (ai ni : Int) (ea : ai = a) (en : ni = n) (ha : a < 4294967296) (hs : a + n ≤ 4096 * m.n) :
    Calls Tryd.prog 13 #[.pointer (some ⟨g, 0, none⟩), .int .u32 ai, .int .i64 ni] w fun e w' => ∃ ao c F', e = .returned (.tuple #[.slice ao (cut m.f a n).length c, .nilIface]) ∧ RamIs w' g m F' ∧ MemStep F F' w w' ∧ BytesAt w' ao (cut m.f a n) F' := by
  subst ea en
  refine (mem_Read_ok h a n ha hs).mono ?_
  rintro e w' ⟨v, F', rfl, h1, h2, h3, h4⟩
  obtain ⟨ao, cv, rfl, hcv, hln, hba⟩ := BytesAt.of_owns h3 h4
  exact ⟨ao, cv, F', by rw [cut_length], h1, h2, hba⟩
/-- All bytes of the document's memory. -/
theorem RefF.bytes {W : World} {B : Nat} {v : Value} {m : Mm} {F : Nat → Prop} (h : RefF W B v m F) : ∃ (b1 c1 b2 c2 : Nat), v = .agg (refC b1 (cut m.f 0 (4096 * m.n)).length c1 b2 m.n c2 m.wr) ∧ BytesAt W (some ⟨b1, 0, none⟩) (cut m.f 0 (4096 * m.n)) F := by
  obtain ⟨n1, n2, b1, c1, b2, c2, ⟨rfl, hcc⟩, h1, h2, h3, h4, h5, h6⟩ := h
  refine ⟨b1, c1, b2, c2, by rw [cut_length], fun _ => ⟨b1, 0, rfl, h5.lt, h3, fun j x hj => ?_⟩⟩
  have hl : j < 4096 * m.n := by have := (List.getElem?_eq_some_iff.1 hj).1; rwa [cut_length] at this
  rw [cut_get _ _ _ _ hl, Nat.zero_add] at hj
  obtain rfl := Option.some.inj hj
  rw [Nat.zero_add]
  exact h5.cell hl
end Go.Proofs.YtcakcfeipfjmpaaDoor

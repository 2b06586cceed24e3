/-
Opening an argument that is a slice of acts (a number and two uint32): each act's three cells, as they stay while the call runs.
No condition.
-/
import Derived.Test.YtenafjdlaefepaaDoorOpen
import Derived.Deep.Slices
namespace Go.Proofs.YtenafjdlaefepaaDoor
open Go.ChangeShapes Go.WideShapes Go.RowKit

def ActsAt (w : World) (p : Option Addr) (n : Nat) : Prop := ∀ k, k < n → ∃ (b o : Nat) (K : Int) (A V : Nat), p = some ⟨b, o, none⟩ ∧ -9223372036854775808 ≤ K ∧ K ≤ 9223372036854775807 ∧ A < 4294967296 ∧ V < 4294967296 ∧
  ∀ W, Below w.heap.size w W → W.cell? ⟨b, o + k * 3, none⟩ = some (.int .i64 K) ∧ W.cell? ⟨b, o + k * 3 + 1, none⟩ = some (.int .u32 A) ∧ W.cell? ⟨b, o + k * 3 + 2, none⟩ = some (.int .u32 V)
theorem acts_wf_u32 {n : Int} (h : (Lit.int .u32 n).wf = true) : ∃ m : Nat, n = m ∧ m < 4294967296 := by
  simp [Lit.wf, IntKind.min, IntKind.max, IntKind.signed, IntKind.bits] at h
  exact ⟨n.toNat, by omega, by omega⟩
theorem acts_wf_i64 {n : Int} (h : (Lit.int .i64 n).wf = true) : -9223372036854775808 ≤ n ∧ n ≤ 9223372036854775807 := by
  simp [Lit.wf, IntKind.min, IntKind.max, IntKind.signed, IntKind.bits] at h
  exact ⟨by omega, by omega⟩
theorem act_cells {H : Type} {enc : TypeId × Value → H} {P : Program} {w : World} {base : Nat} {spare : Nat → Bool} {held : Bool} {fuel : Nat} {t i u : TypeId} {f0 f1 f2 : Field} {cs : List Value} {x : DataW H × List MemPlace}
    (ht : P.underlying t = some (.struct #[f0, f1, f2])) (t0 : f0.type = i) (t1 : f1.type = u) (t2 : f2.type = u) (o0 : f0.offset = 0) (o1 : f1.offset = 1) (o2 : f2.offset = 2) (hi : P.underlying i = some (.int .i64)) (hu : P.underlying u = some (.int .u32)) (hci : P.cellsOf i = 1) (hcu : P.cellsOf u = 1) (h3 : cs.length = 3) (h : DataW.trod enc P w base spare held fuel t cs = some x) :
    ∃ (K : Int) (A V : Nat), cs = [.int .i64 K, .int .u32 A, .int .u32 V] ∧ -9223372036854775808 ≤ K ∧ K ≤ 9223372036854775807 ∧ A < 4294967296 ∧ V < 4294967296 := by
  obtain ⟨xs, m, _, _, _, hxl, hf⟩ := DataW.trod_struct ht h
  match cs, h3, xs, hxl with
  | [c0, c1, c2], _, [y0, y1, y2], _ =>
    have g0 := hf 0 f0 rfl
    have g1 := hf 1 f1 rfl
    have g2 := hf 2 f2 rfl
    simp [o0, o1, o2, t0, t1, t2, hci, hcu] at g0 g1 g2
    obtain ⟨K, e0, _, w0⟩ := DataW.trod_int hi g0
    obtain ⟨a, e1, _, w1⟩ := DataW.trod_int hu g1
    obtain ⟨b, e2, _, w2⟩ := DataW.trod_int hu g2
    obtain ⟨A, rfl, hA⟩ := acts_wf_u32 w1
    obtain ⟨V, rfl, hV⟩ := acts_wf_u32 w2
    obtain ⟨k1, k2⟩ := acts_wf_i64 w0
    simp at e0 e1 e2
    subst e0 e1 e2
    exact ⟨K, A, V, rfl, k1, k2, hA, hV⟩
theorem open_acts {H : Type} {enc : TypeId × Value → H} {P : Program} {w : World} {r : Reach} {b0 : Nat} {t e i u : TypeId} {f0 f1 f2 : Field} {v : Value} {d : DataW H} {ps : List MemPlace}
    (ht : P.underlying t = some (.slice e)) (he : P.underlying e = some (.struct #[f0, f1, f2])) (t0 : f0.type = i) (t1 : f1.type = u) (t2 : f2.type = u) (o0 : f0.offset = 0) (o1 : f1.offset = 1) (o2 : f2.offset = 2) (hi : P.underlying i = some (.int .i64)) (hu : P.underlying u = some (.int .u32)) (hci : P.cellsOf i = 1) (hcu : P.cellsOf u = 1) (hce : P.cellsOf e = 3)
    (hval : Value.okWide P w r b0 t v) (hd : DataW.Trod enc P w 0 (fun _ => true) true t v d ps) :
    ∃ (p : Option Addr) (n cap : Nat), v = .slice p n cap ∧ n ≤ cap ∧ cap ≤ maxLen ∧ ActsAt w p n := by
  obtain ⟨a, len, cap, rfl⟩ := okWide_slice ht hval
  obtain ⟨fuel, hf⟩ := hd
  rcases Go.Deep.open_slice ht hf with ⟨hcs, _⟩ | ⟨a', len', cap', m, n, D, Pl, hcs, _, hl, hm, hmm, _, hx⟩
  · simp [Value.cells] at hcs
    obtain ⟨rfl, rfl, rfl⟩ := hcs
    exact ⟨none, 0, 0, rfl, by omega, by omega, fun k hk => absurd hk (by omega)⟩
  · simp [Value.cells] at hcs
    obtain ⟨rfl, rfl, rfl⟩ := hcs
    refine ⟨some a', len, cap, rfl, hl, hm, fun k hk => ?_⟩
    simp only [if_true] at hmm
    obtain ⟨cs', h1, h2⟩ := hx k (by omega)
    rw [hce] at h1
    obtain ⟨_, hlen, hcell⟩ := World.cells?_some h1
    obtain ⟨K, A, V, rfl, k1, k2, hA, hV⟩ := act_cells he t0 t1 t2 o0 o1 o2 hi hu hci hcu hlen h2
    have c0 := hcell 0 (by omega)
    have c1 := hcell 1 (by omega)
    have c2 := hcell 2 (by omega)
    obtain ⟨b, o, spot⟩ := a'
    have hs : spot = none := by
      obtain ⟨cs0, g1, g2⟩ := hx 0 (by omega)
      rw [hce] at g1
      obtain ⟨_, glen, gcell⟩ := World.cells?_some g1
      obtain ⟨K0, A0, V0, rfl, _⟩ := act_cells he t0 t1 t2 o0 o1 o2 hi hu hci hcu glen g2
      have := World.cell?_spot ((gcell 0 (by omega)).trans (by rfl : _ = some (Value.int .i64 K0)))
      simpa [Addr.add] using this
    subst hs
    rw [add_plain, add_plain] at c0 c1 c2
    simp only [Nat.add_zero] at c0
    have hb := World.block_lt_of_cell? _ _ (c0.trans (by rfl : _ = some (Value.int .i64 K)))
    exact ⟨b, o, K, A, V, rfl, k1, k2, hA, hV, fun W hW => ⟨(hW.cell hb).trans (c0.trans rfl), (hW.cell (p := ⟨b, o + k * 3 + 1, none⟩) hb).trans (c1.trans rfl), (hW.cell (p := ⟨b, o + k * 3 + 2, none⟩) hb).trans (c2.trans rfl)⟩⟩
end Go.Proofs.YtenafjdlaefepaaDoor

/-
Opening a queue and a write of the reference's by value out of the row's premise.
No condition.
-/
import Derived.Test.YtcmbnkmbaghkdaaDoorBusGen
import Derived.Test.YtcmbnkmbaghkdaaDoorG4

import Derived.Deep.Slices
namespace Go.Proofs.YtcmbnkmbaghkdaaDoor
open Go.ChangeShapes Go.WideShapes Go.RowKit
set_option linter.unusedVariables false

theorem q_u32 {n : Int} (h : (Lit.int .u32 n).wf = true) : ∃ m : Nat, n = m ∧ m < 4294967296 := by
  simp [Lit.wf, IntKind.min, IntKind.max, IntKind.signed, IntKind.bits] at h
  exact ⟨n.toNat, by omega, by omega⟩
theorem q_i64 {n : Int} (h : (Lit.int .i64 n).wf = true) : -9223372036854775808 ≤ n ∧ n ≤ 9223372036854775807 := by
  simp [Lit.wf, IntKind.min, IntKind.max, IntKind.signed, IntKind.bits] at h
  omega
theorem post_cellsW {H : Type} {enc : TypeId × Value → H} {P : Program} {w : World} {base : Nat} {spare : Nat → Bool} {held : Bool} {fuel : Nat} {t i u : TypeId} {f0 f1 f2 f3 : Field} {cs : List Value} {x : DataW H × List MemPlace}
    (ht : P.underlying t = some (.struct #[f0, f1, f2, f3])) (t0 : f0.type = i) (t1 : f1.type = u) (t2 : f2.type = i) (t3 : f3.type = u) (o0 : f0.offset = 0) (o1 : f1.offset = 1) (o2 : f2.offset = 2) (o3 : f3.offset = 3) (hi : P.underlying i = some (.int .i64)) (hu : P.underlying u = some (.int .u32)) (hci : P.cellsOf i = 1) (hcu : P.cellsOf u = 1) (h4 : cs.length = 4) (h : DataW.trod enc P w base spare held fuel t cs = some x) :
    ∃ p : Pst, cs = [.int .i64 p.dev, .int .u32 p.at_, .int .i64 p.n, .int .u32 p.val] ∧ p.wf := by
  obtain ⟨xs, m, _, _, _, hxl, hf⟩ := DataW.trod_struct ht h
  match cs, h4, xs, hxl with
  | [c0, c1, c2, c3], _, [y0, y1, y2, y3], _ =>
    have g0 := hf 0 f0 rfl
    have g1 := hf 1 f1 rfl
    have g2 := hf 2 f2 rfl
    have g3 := hf 3 f3 rfl
    simp [o0, o1, o2, o3, t0, t1, t2, t3, hci, hcu] at g0 g1 g2 g3
    obtain ⟨a, e0, _, w0⟩ := DataW.trod_int hi g0
    obtain ⟨b, e1, _, w1⟩ := DataW.trod_int hu g1
    obtain ⟨c, e2, _, w2⟩ := DataW.trod_int hi g2
    obtain ⟨d, e3, _, w3⟩ := DataW.trod_int hu g3
    obtain ⟨B, rfl, hB⟩ := q_u32 w1
    obtain ⟨D, rfl, hD⟩ := q_u32 w3
    simp at e0 e1 e2 e3
    subst e0 e1 e2 e3
    exact ⟨⟨a, B, c, D⟩, rfl, ⟨(q_i64 w0).1, (q_i64 w0).2, hB, (q_i64 w2).1, (q_i64 w2).2, hD⟩⟩
theorem open_queueG {H : Type} {enc : TypeId × Value → H} {P : Program} {w : World} {r : Reach} {b0 : Nat} {q t e i u : TypeId} {g f0 f1 f2 f3 : Field} {v : Value} {d : DataW H} {ps : List MemPlace}
    (hq : P.underlying q = some (.struct #[g])) (gt : g.type = t) (go : g.offset = 0) (hct : P.cellsOf t = 1) (hcq : P.cellsOf q = 1) (hty : P.cellTypes P.depth q = some [t])
    (ht : P.underlying t = some (.slice e)) (he : P.underlying e = some (.struct #[f0, f1, f2, f3])) (t0 : f0.type = i) (t1 : f1.type = u) (t2 : f2.type = i) (t3 : f3.type = u) (o0 : f0.offset = 0) (o1 : f1.offset = 1) (o2 : f2.offset = 2) (o3 : f3.offset = 3) (hi : P.underlying i = some (.int .i64)) (hu : P.underlying u = some (.int .u32)) (hci : P.cellsOf i = 1) (hcu : P.cellsOf u = 1)
    (hce : P.cellsOf e = 4) (hval : Value.okWide P w r b0 q v) (hd : DataW.Trod enc P w 0 (fun _ => true) true q v d ps) :
    ∃ (ao : Option Addr) (l : List Pst) (cap : Nat), v = .agg #[.slice ao l.length cap] ∧ PostsAt w ao l ∧ (∀ (k : Nat) (x : Pst), l[k]? = some x → x.wf) ∧ (ao = none → l.length = 0 ∧ cap = 0) ∧ l.length ≤ cap ∧ cap ≤ maxLen := by
  obtain ⟨cs, rfl, hsz, hc⟩ := okWide_cells (ts := [t]) hq hcq hty hval
  obtain ⟨c0, e0, _⟩ := hc 0 t rfl
  have hcs : cs = #[c0] := by
    apply Array.ext_getElem?
    intro j
    match j with
    | 0 => exact e0
    | j + 1 => rw [Array.getElem?_eq_none (by rw [hsz]; simp), Array.getElem?_eq_none (by simp)]
  subst hcs
  obtain ⟨fuel, hf⟩ := hd
  have hf' : DataW.trod enc P w 0 (fun _ => true) true fuel q [c0] = some (d, ps) := by simpa [Value.cells] using hf
  obtain ⟨xs, m, _, _, _, hxl, hff⟩ := DataW.trod_struct hq hf'
  match xs, hxl with
  | [y0], _ =>
  have g0 := hff 0 g rfl
  simp [go, gt, hct] at g0
  rcases Go.Deep.open_slice ht g0 with ⟨hcs, _⟩ | ⟨a', len', cap', m', n, D, Pl, hcs, _, hl, hm, hmm, _, hx⟩
  · obtain rfl : c0 = .slice none 0 0 := by simpa using hcs
    exact ⟨none, [], 0, rfl, posts_nil _ _, fun k x h => by simp at h, fun _ => ⟨rfl, rfl⟩, by simp, by simp⟩
  · obtain rfl : c0 = .slice (some a') len' cap' := by simpa using hcs
    simp only [if_true] at hmm
    have one : ∀ k, k < len' → ∃ x : Pst, x.wf ∧ ∀ j c, ([.int .i64 x.dev, .int .u32 x.at_, .int .i64 x.n, .int .u32 x.val] : List Value)[j]? = some c → w.cell? ((a'.add (k * 4)).add j) = some c := fun k hk => by
      obtain ⟨cs', h1, h2⟩ := hx k (by omega)
      rw [hce] at h1
      obtain ⟨_, hlen, hcell⟩ := World.cells?_some h1
      obtain ⟨x, rfl, hxw⟩ := post_cellsW he t0 t1 t2 t3 o0 o1 o2 o3 hi hu hci hcu hlen h2
      exact ⟨x, hxw, fun j c hj => (hcell j (by have := (List.getElem?_eq_some_iff.1 hj).1; simpa using this)).trans hj⟩
    have key : ∀ k, ∃ x : Pst, k < len' → x.wf ∧ ∀ j c, ([.int .i64 x.dev, .int .u32 x.at_, .int .i64 x.n, .int .u32 x.val] : List Value)[j]? = some c → w.cell? ((a'.add (k * 4)).add j) = some c := by
      intro k
      by_cases hk : k < len'
      · obtain ⟨x, h⟩ := one k hk
        exact ⟨x, fun _ => h⟩
      · exact ⟨⟨0, 0, 0, 0⟩, fun h => absurd h hk⟩
    obtain ⟨x, hxx⟩ := Classical.axiomOfChoice key
    refine ⟨some a', (List.range len').map x, cap', by simp, fun k p hk => ?_, fun k p hk => ?_, (fun h => by cases h), by simpa using hl, hm⟩
    · have hkn : k < len' := by have := (List.getElem?_eq_some_iff.1 hk).1; simpa using this
      obtain rfl : x k = p := by simpa [hkn] using hk
      have hc := (hxx k hkn).2
      obtain ⟨b, o, spot⟩ := a'
      have hs : spot = none := by
        have := World.cell?_spot ((hxx 0 (by omega)).2 0 _ rfl)
        simpa [Addr.add] using this
      subst hs
      have c0 := hc 0 _ rfl
      have c1 := hc 1 _ rfl
      have c2 := hc 2 _ rfl
      have c3 := hc 3 _ rfl
      rw [add_plain, add_plain] at c0 c1 c2 c3
      simp only [Nat.add_zero] at c0
      exact ⟨b, o, rfl, World.block_lt_of_cell? _ _ c0, c0, c1, c2, c3⟩
    · have hkn : k < len' := by have := (List.getElem?_eq_some_iff.1 hk).1; simpa using this
      obtain rfl : x k = p := by simpa [hkn] using hk
      exact (hxx k hkn).1
set_option maxRecDepth 100000 in
theorem open_Post {w : World} {r : Reach} {b : Nat} {v : Value} (hv : Value.okWide Tryd.prog w r b 27 v) : ∃ p : Pst, v = .agg #[.int .i64 p.dev, .int .u32 p.at_, .int .i64 p.n, .int .u32 p.val] ∧ p.wf := by
  obtain ⟨cs, rfl, hsz, hc⟩ := okWide_cells (ts := [3, 25, 3, 25]) Tryd.underlying27 (by kernel_rfl) (by kernel_rfl) hv
  obtain ⟨x0, e0, k0⟩ := hc 0 3 rfl
  obtain ⟨x1, e1, k1⟩ := hc 1 25 rfl
  obtain ⟨x2, e2, k2⟩ := hc 2 3 rfl
  obtain ⟨x3, e3, k3⟩ := hc 3 25 rfl
  obtain ⟨m0, rfl, h0⟩ := cell_int Tryd.underlying3 k0
  obtain ⟨m1, rfl, h1⟩ := cell_u32 Tryd.underlying25 k1
  obtain ⟨m2, rfl, h2⟩ := cell_int Tryd.underlying3 k2
  obtain ⟨m3, rfl, h3⟩ := cell_u32 Tryd.underlying25 k3
  simp only [IntKind.has, IntKind.min, IntKind.max, IntKind.signed, IntKind.bits] at h0 h2
  simp at h0 h2
  refine ⟨⟨m0, m1, m2, m3⟩, ?_, ⟨h0.1, h0.2, h1, h2.1, h2.2, h3⟩⟩
  congr 1
  apply Array.ext_getElem?
  intro i
  match i with
  | 0 => exact e0
  | 1 => exact e1
  | 2 => exact e2
  | 3 => exact e3
  | i + 4 => rw [Array.getElem?_eq_none (by rw [hsz]; simp), Array.getElem?_eq_none (by simp)]
end Go.Proofs.YtcmbnkmbaghkdaaDoor

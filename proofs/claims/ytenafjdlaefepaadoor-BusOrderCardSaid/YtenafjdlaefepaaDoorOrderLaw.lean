/-
Opening BusOrder's arguments; the law joined.
Condition: the package's table of regions and the errors' variable read as their texts lay them.
-/
import Derived.Test.YtenafjdlaefepaaDoorOrder
import Derived.Test.YtenafjdlaefepaaDoorBusLaws
import Derived.Test.YtenafjdlaefepaaDoorOpen
import Derived.Deep.Slices
namespace Go.Proofs.YtenafjdlaefepaaDoor
open Go.ChangeShapes Go.WideShapes Go.RowKit

theorem ord_u32 {n : Int} (h : (Lit.int .u32 n).wf = true) : ∃ m : Nat, n = m := by
  simp [Lit.wf, IntKind.min, IntKind.max, IntKind.signed, IntKind.bits] at h
  exact ⟨n.toNat, by omega⟩
theorem post_cells {H : Type} {enc : TypeId × Value → H} {P : Program} {w : World} {base : Nat} {spare : Nat → Bool} {held : Bool} {fuel : Nat} {t i u : TypeId} {f0 f1 f2 f3 : Field} {cs : List Value} {x : DataW H × List MemPlace}
    (ht : P.underlying t = some (.struct #[f0, f1, f2, f3])) (t0 : f0.type = i) (t1 : f1.type = u) (t2 : f2.type = i) (t3 : f3.type = u) (o0 : f0.offset = 0) (o1 : f1.offset = 1) (o2 : f2.offset = 2) (o3 : f3.offset = 3) (hi : P.underlying i = some (.int .i64)) (hu : P.underlying u = some (.int .u32)) (hci : P.cellsOf i = 1) (hcu : P.cellsOf u = 1) (h4 : cs.length = 4) (h : DataW.trod enc P w base spare held fuel t cs = some x) :
    ∃ p : Pst, cs = [.int .i64 p.dev, .int .u32 p.at_, .int .i64 p.n, .int .u32 p.val] := by
  obtain ⟨xs, m, _, _, _, hxl, hf⟩ := DataW.trod_struct ht h
  match cs, h4, xs, hxl with
  | [c0, c1, c2, c3], _, [y0, y1, y2, y3], _ =>
    have g0 := hf 0 f0 rfl
    have g1 := hf 1 f1 rfl
    have g2 := hf 2 f2 rfl
    have g3 := hf 3 f3 rfl
    simp [o0, o1, o2, o3, t0, t1, t2, t3, hci, hcu] at g0 g1 g2 g3
    obtain ⟨a, e0, _, _⟩ := DataW.trod_int hi g0
    obtain ⟨b, e1, _, w1⟩ := DataW.trod_int hu g1
    obtain ⟨c, e2, _, _⟩ := DataW.trod_int hi g2
    obtain ⟨d, e3, _, w3⟩ := DataW.trod_int hu g3
    obtain ⟨B, rfl⟩ := ord_u32 w1
    obtain ⟨D, rfl⟩ := ord_u32 w3
    simp at e0 e1 e2 e3
    subst e0 e1 e2 e3
    exact ⟨⟨a, B, c, D⟩, rfl⟩
theorem open_postsarg {H : Type} {enc : TypeId × Value → H} {P : Program} {w : World} {r : Reach} {b0 : Nat} {t e i u : TypeId} {f0 f1 f2 f3 : Field} {v : Value} {d : DataW H} {ps : List MemPlace}
    (ht : P.underlying t = some (.slice e)) (he : P.underlying e = some (.struct #[f0, f1, f2, f3])) (t0 : f0.type = i) (t1 : f1.type = u) (t2 : f2.type = i) (t3 : f3.type = u) (o0 : f0.offset = 0) (o1 : f1.offset = 1) (o2 : f2.offset = 2) (o3 : f3.offset = 3) (hi : P.underlying i = some (.int .i64)) (hu : P.underlying u = some (.int .u32)) (hci : P.cellsOf i = 1) (hcu : P.cellsOf u = 1) (hce : P.cellsOf e = 4)
    (hval : Value.okWide P w r b0 t v) (hd : DataW.Trod enc P w 0 (fun _ => true) true t v d ps) :
    ∃ (p : Option Addr) (n cap : Nat), v = .slice p n cap ∧ PostsArg w p n := by
  obtain ⟨a, len, cap, rfl⟩ := okWide_slice ht hval
  obtain ⟨fuel, hf⟩ := hd
  rcases Go.Deep.open_slice ht hf with ⟨hcs, _⟩ | ⟨a', len', cap', m, n, D, Pl, hcs, _, hl, _, hmm, _, hx⟩
  · simp [Value.cells] at hcs
    obtain ⟨rfl, rfl, rfl⟩ := hcs
    exact ⟨none, 0, 0, rfl, fun k hk => absurd hk (by omega)⟩
  · simp [Value.cells] at hcs
    obtain ⟨rfl, rfl, rfl⟩ := hcs
    refine ⟨some a', len, cap, rfl, fun k hk => ?_⟩
    simp only [if_true] at hmm
    have one : ∀ k, k < len → ∃ x : Pst, ∀ j c, ([.int .i64 x.dev, .int .u32 x.at_, .int .i64 x.n, .int .u32 x.val] : List Value)[j]? = some c → w.cell? ((a'.add (k * 4)).add j) = some c := fun k hk => by
      obtain ⟨cs', h1, h2⟩ := hx k (by omega)
      rw [hce] at h1
      obtain ⟨_, hlen, hcell⟩ := World.cells?_some h1
      obtain ⟨x, rfl⟩ := post_cells he t0 t1 t2 t3 o0 o1 o2 o3 hi hu hci hcu hlen h2
      exact ⟨x, fun j c hj => (hcell j (by have := (List.getElem?_eq_some_iff.1 hj).1; simpa using this)).trans hj⟩
    obtain ⟨b, o, spot⟩ := a'
    have hs : spot = none := by
      obtain ⟨x, h0⟩ := one 0 (by omega)
      have := World.cell?_spot (h0 0 _ rfl)
      simpa [Addr.add] using this
    subst hs
    obtain ⟨x, hc⟩ := one k hk
    have c0 := hc 0 _ rfl
    have c1 := hc 1 _ rfl
    have c2 := hc 2 _ rfl
    have c3 := hc 3 _ rfl
    rw [add_plain, add_plain] at c0 c1 c2 c3
    simp only [Nat.add_zero] at c0
    have hb := World.block_lt_of_cell? _ _ c0
    exact ⟨b, o, x, rfl, fun W hW => ⟨(hW.cell hb).trans c0, (hW.cell (p := ⟨b, o + k * 4 + 1, none⟩) hb).trans c1, (hW.cell (p := ⟨b, o + k * 4 + 2, none⟩) hb).trans c2, (hW.cell (p := ⟨b, o + k * 4 + 3, none⟩) hb).trans c3⟩⟩
theorem open_boolsarg {H : Type} {enc : TypeId × Value → H} {P : Program} {w : World} {r : Reach} {b0 : Nat} {t e : TypeId} {v : Value} {d : DataW H} {ps : List MemPlace}
    (ht : P.underlying t = some (.slice e)) (he : P.underlying e = some .bool) (hce : P.cellsOf e = 1)
    (hval : Value.okWide P w r b0 t v) (hd : DataW.Trod enc P w 0 (fun _ => true) true t v d ps) :
    ∃ (p : Option Addr) (n cap : Nat), v = .slice p n cap ∧ BoolsArg w p n := by
  obtain ⟨a, len, cap, rfl⟩ := okWide_slice ht hval
  obtain ⟨fuel, hf⟩ := hd
  rcases Go.Deep.open_slice ht hf with ⟨hcs, _⟩ | ⟨a', len', cap', m, n, D, Pl, hcs, _, hl, _, hmm, _, hx⟩
  · simp [Value.cells] at hcs
    obtain ⟨rfl, rfl, rfl⟩ := hcs
    exact ⟨none, 0, 0, rfl, fun k hk => absurd hk (by omega)⟩
  · simp [Value.cells] at hcs
    obtain ⟨rfl, rfl, rfl⟩ := hcs
    refine ⟨some a', len, cap, rfl, fun k hk => ?_⟩
    simp only [if_true] at hmm
    have one : ∀ k, k < len → ∃ x : Bool, w.cell? ((a'.add (k * 1)).add 0) = some (.bool x) := fun k hk => by
      obtain ⟨cs', h1, h2⟩ := hx k (by omega)
      rw [hce] at h1
      obtain ⟨_, hlen, hcell⟩ := World.cells?_some h1
      obtain ⟨x, rfl, _⟩ := DataW.trod_bool he h2
      exact ⟨x, (hcell 0 (by omega)).trans rfl⟩
    obtain ⟨b, o, spot⟩ := a'
    have hs : spot = none := by
      obtain ⟨x, h0⟩ := one 0 (by omega)
      have := World.cell?_spot h0
      simpa [Addr.add] using this
    subst hs
    obtain ⟨x, c0⟩ := one k hk
    rw [add_plain, add_plain] at c0
    simp only [Nat.add_zero, Nat.mul_one] at c0
    have hb := World.block_lt_of_cell? _ _ c0
    exact ⟨b, o, x, rfl, fun W hW => (hW.cell hb).trans c0⟩
theorem law_BusOrder (lp bp : Option Addr) (n lc nb bc : Nat) (w : World) (HL : PostsArg w lp n) (HB : BoolsArg w bp nb) (hr : RegAt w) (he : ErrAt w) :
    Calls Tryd.prog 11 #[.slice lp n lc, .slice bp nb bc] w fun e w' => e = .returned (.bool true) ∧ Below w.heap.size w w' :=
  order_walk lp bp n lc nb bc w (Lib.hid HL) (Lib.hid HB) (Lib.hid hr) (Lib.hid fun W hW => law7_sure W (hr.below hW) (he.below hW))
end Go.Proofs.YtenafjdlaefepaaDoor

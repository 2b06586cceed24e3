/-
place and read of package dma, walked.
Condition: the table of regions of package bus reads as its text lays it.
-/
import Derived.Test.YtcakcfeipfjmpaaDoorDmaWrite
import Derived.Test.YtcakcfeipfjmpaaDoorBusBase
namespace Go.Proofs.YtcakcfeipfjmpaaDoor
open Go.RowKit

set_option maxRecDepth 100000 in
theorem err_nil_eql (w : World) : (binOp BinOp.eql 39 .nilIface .nilIface).run Tryd.prog w = .ok (.bool true) w := by
  have h1 : (Op.equalIn (9999 + 1) 39 .nilIface .nilIface).run Tryd.prog w = .ok true w := by
    generalize 9999 = d
    simp [Op.equalIn, go_sem]
  have h2 : (Op.equalIn Op.maxDepth 39 .nilIface .nilIface).run Tryd.prog w = .ok true w := h1
  simp [binOp, Op.equal, go_sem, h2]
set_option maxRecDepth 100000 in
theorem err_not_eql (t : TypeId) (m : Value) (w : World) : (binOp BinOp.eql 39 (.iface t m) .nilIface).run Tryd.prog w = .ok (.bool false) w := by
  have h1 : (Op.equalIn (9999 + 1) 39 (.iface t m) .nilIface).run Tryd.prog w = .ok false w := by
    generalize 9999 = d
    simp [Op.equalIn, go_sem]
  have h2 : (Op.equalIn Op.maxDepth 39 (.iface t m) .nilIface).run Tryd.prog w = .ok false w := h1
  simp [binOp, Op.equal, go_sem, h2]
theorem err_guard (a : Operand) (t : TypeId) (m : Value) (w : World) : (eqGuard BinOp.eql 39 a (.const .nilIface) (.iface t m) .nilIface).run Tryd.prog w = .ok () w := by
  simp [eqGuard, go_sem]
theorem RegAt.step {w w' : World} {F F' : Nat → Prop} (h : RegAt w) (hs : MemStep F F' w w') (hn : ¬ F 1) : RegAt w' :=
  ⟨Nat.lt_of_lt_of_le h.1 hs.kx.size, fun i hi => (hs.kx.cell (p := ⟨1, i, none⟩) h.1 hn).trans (h.2 i hi)⟩
theorem MemStep.of_below {F : Nat → Prop} {w w' : World} (hb : Below w.heap.size w w') : MemStep F F w w' := ⟨KX.of_below hb, fun _ h => .inl h⟩
theorem ownsRow_base {w : World} {base base' e size n : Nat} {v : Value} {xs : List Value} (h : w.ownsRow base e size v n xs) (hb : base' ≤ base) : w.ownsRow base' e size v n xs := by
  obtain ⟨h1, h2⟩ := h
  refine ⟨h1, ?_⟩
  rcases h2 with h2 | ⟨g, cap, cur, hv, hg, r⟩
  · exact .inl h2
  · exact .inr ⟨g, cap, cur, hv, Nat.le_trans hb hg, r⟩

set_option maxRecDepth 100000 in
set_option maxHeartbeats 1600000 in
theorem dma_place (a : Nat) (w : World) (hr : RegAt w) :
    Calls Tryd.prog 88 #[.int .u32 a] w fun e w' => e = .returned (.tuple #[.int .u32 (((a : Int) - 2147483648) % 4294967296), .bool (decide ((2147483648 : Int) ≤ (a : Int)))]) ∧ Below w.heap.size w w' := by
  have HB := Lib.hid (bus_Base 7 0 w (by omega) hr)
  have e1 : ((7 : Int).toNat) = 7 := rfl
  rw [e1] at HB
  have e2 : ((fromD 7 : Nat) : Int) = 2147483648 := rfl
  have e3 : ((roomD 0 7 : Nat) : Int) = 0 := rfl
  rw [e2, e3] at HB
  clear hr e1 e2 e3
  go_enter Tryd.func88, Tryd.ntmps88
  go_wp2_with fail
  refine (HB.out).mono ?_
  rintro e w1 ⟨rfl, hb⟩
  go_wp2_with fail
  go_ret2
  exact ⟨rfl, hb⟩
theorem dma_place_in (a : Nat) (w : World) (ha : a < 4294967296) (h31 : 2147483648 ≤ a) (hr : RegAt w) :
    Calls Tryd.prog 88 #[.int .u32 a] w fun e w' => e = .returned (.tuple #[.int .u32 ((a - 2147483648 : Nat) : Int), .bool true]) ∧ Below w.heap.size w w' := by
  have h := dma_place a w hr
  rw [show ((a : Int) - 2147483648) % 4294967296 = ((a - 2147483648 : Nat) : Int) by omega, decide_eq_true (by omega)] at h
  exact h
theorem dma_place_out (a : Nat) (w : World) (h31 : a < 2147483648) (hr : RegAt w) :
    Calls Tryd.prog 88 #[.int .u32 a] w fun e w' => (∃ x : Nat, x < 4294967296 ∧ e = .returned (.tuple #[.int .u32 x, .bool false])) ∧ Below w.heap.size w w' := by
  have h := dma_place a w hr
  rw [show ((a : Int) - 2147483648) % 4294967296 = ((a + 2147483648 : Nat) : Int) by omega, decide_eq_false (by omega)] at h
  exact h.mono (fun e w' ⟨h1, h2⟩ => ⟨⟨_, by omega, h1⟩, h2⟩)

set_option maxRecDepth 100000 in
set_option maxHeartbeats 1600000 in
theorem dma_read_low (mv : Value) (a n : Nat) (w : World) (h31 : a < 2147483648) (hr : RegAt w) :
    Calls Tryd.prog 87 #[mv, .int .u32 a, .int .u32 n] w fun e w' => e = .returned (.tuple #[.slice none 0 0, .bool false]) ∧ Below w.heap.size w w' := by
  have HP := Lib.hid (dma_place_out a w h31 hr)
  clear hr
  go_enter Tryd.func87, Tryd.ntmps87
  go_wp2_with fail
  refine (HP.out).mono ?_
  rintro e w1 ⟨⟨x, _, rfl⟩, hb⟩
  go_wp2_with fail
  go_ret2
  exact ⟨rfl, hb⟩
set_option maxRecDepth 100000 in
set_option maxHeartbeats 1600000 in
theorem dma_read_ok {g : Nat} {m : Mm} {F : Nat → Prop} {w : World} (h : RamIs w g m F) (a n : Nat) (ha : a < 4294967296) (hn : n < 4294967296) (h31 : 2147483648 ≤ a) (hs : a - 2147483648 + n ≤ 4096 * m.n) (hr : RegAt w) :
    Calls Tryd.prog 87 #[.pointer (some ⟨g, 0, none⟩), .int .u32 a, .int .u32 n] w fun e w' => ∃ v F', e = .returned (.tuple #[v, .bool true]) ∧ RamIs w' g m F' ∧ MemStep F F' w w' ∧ w'.ownsRow w.heap.size 5 1 v n ((cut m.f (a - 2147483648) n).map B8) ∧ (∀ b, v.ownBlock = some b → ¬ F' b) := by
  have HP := Lib.hid (dma_place_in a w ha h31 hr)
  have HR := Lib.hid (fun W (hb : Below w.heap.size w W) => mem_Read_ok (h.below hb) (a - 2147483648) n (by omega) hs)
  clear hr
  have hn2 := h.n2
  clear h
  obtain ⟨x, hx⟩ : ∃ x, x = a - 2147483648 := ⟨_, rfl⟩
  rw [← hx] at HP HR hs ⊢
  clear hx h31
  have hen := err_nil_eql
  go_enter Tryd.func87, Tryd.ntmps87
  go_wp2_with fail
  refine (HP.out).mono ?_
  rintro e w1 ⟨rfl, hb⟩
  have HB := Lib.hid hb
  clear hb
  go_wp2_with fail
  refine (HR.out _ HB.out).mono ?_
  rintro e w2 ⟨v, F', rfl, h1, h2, h3, h4⟩
  have HQ := Lib.hid (show RamIs w2 g m F' ∧ MemStep F F' w w2 ∧ w2.ownsRow w.heap.size 5 1 v n ((cut m.f x n).map B8) ∧ (∀ b, v.ownBlock = some b → ¬ F' b) from ⟨h1, (MemStep.of_below HB.out).trans h2, ownsRow_base h3 HB.out.size, h4⟩)
  clear h1 h2 h3 h4
  go_wp2_with fail
  go_quiet (fail)
  go_wp2_with fail
  go_ret2
  exact ⟨v, F', rfl, HQ.out.1.below (below_drewN (Below.refl _ _) _), HQ.out.2.1.below (below_drewN (Below.refl _ _) _), ownsRow_keep HQ.out.2.2.1 (fun _ _ => rfl), HQ.out.2.2.2⟩
set_option maxRecDepth 100000 in
set_option maxHeartbeats 1600000 in
theorem dma_read_far {g : Nat} {m : Mm} {F : Nat → Prop} {w : World} (h : RamIs w g m F) (a n : Nat) (ha : a < 4294967296) (hn : n < 4294967296) (h31 : 2147483648 ≤ a) (hs : 4096 * m.n < a - 2147483648 + n) (hr : RegAt w) :
    Calls Tryd.prog 87 #[.pointer (some ⟨g, 0, none⟩), .int .u32 a, .int .u32 n] w fun e w' => e = .returned (.tuple #[.slice none 0 0, .bool false]) ∧ Below w.heap.size w w' := by
  have HP := Lib.hid (dma_place_in a w ha h31 hr)
  have HR := Lib.hid (fun W (hb : Below w.heap.size w W) => mem_Read_range (h.below hb) (a - 2147483648) n (by omega) (by omega) hs)
  rw [errV_4] at HR
  clear hr h hs
  obtain ⟨x, hx⟩ : ∃ x, x = a - 2147483648 := ⟨_, rfl⟩
  rw [← hx] at HP HR
  clear hx h31
  have hen := err_not_eql
  have heg := err_guard
  go_enter Tryd.func87, Tryd.ntmps87
  go_wp2_with fail
  refine (HP.out).mono ?_
  rintro e w1 ⟨rfl, hb⟩
  have HB := Lib.hid hb
  clear hb
  go_wp2_with fail
  refine (HR.out _ HB.out).mono ?_
  rintro e w2 ⟨rfl, rfl⟩
  go_wp2_with fail
  go_quiet (fail)
  go_wp2_with fail
  go_ret2
  exact ⟨rfl, below_drewN HB.out _⟩
end Go.Proofs.YtcakcfeipfjmpaaDoor

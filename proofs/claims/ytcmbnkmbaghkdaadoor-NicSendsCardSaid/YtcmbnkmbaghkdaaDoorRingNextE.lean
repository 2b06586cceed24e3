/-
ring.Next, walked for every ring and memory.
Condition: the table of regions of package bus reads as its text lays it.
-/
import Derived.Test.YtcmbnkmbaghkdaaDoorG3

namespace Go.Proofs.YtcmbnkmbaghkdaaDoor
open Go.RowKit
set_option linter.unusedVariables false

set_option maxRecDepth 100000 in
set_option maxHeartbeats 8000000 in
theorem ring_Next_bad {g : Nat} {m : Mm} {F : Nat → Prop} {w : World} (size : Int) (de av us la pu : Nat) (h : RamIs w g m F)
    (HC : Hid (∀ W, Calls Tryd.prog 110 #[.agg #[.int .i64 size, .int .u32 de, .int .u32 av, .int .u32 us, .int .u16 la, .int .u16 pu], .pointer (some ⟨g, 0, none⟩)] W fun e w' => e = .returned (.iface 104 (.int .i64 1)) ∧ Below W.heap.size W w')) :
    Calls Tryd.prog 78 #[.agg #[.int .i64 size, .int .u32 de, .int .u32 av, .int .u32 us, .int .u16 la, .int .u16 pu], .pointer (some ⟨g, 0, none⟩)] w fun e w' => ∃ F2, e = .returned (.tuple #[.agg #[.int .i64 0, .int .u32 0, .int .u32 0, .int .u32 0, .int .u16 0, .int .u16 0], .int .i64 0, .bool false, .iface 104 (.int .i64 1)]) ∧ RamIs w' g m F2 ∧ MemStep F F2 w w' := by
  have HF := Lib.hid h.lt
  obtain ⟨k0, k1, hb0⟩ := two_new w (.cells #[.int .i64 size, .int .u32 de, .int .u32 av, .int .u32 us, .int .u16 la, .int .u16 pu] 68) (.cells #[.int .i64 0, .int .u32 0, .int .u32 0, .int .u32 0, .int .u16 0, .int .u16 0] 68)
  have K0 := Lib.hid k0
  have K1 := Lib.hid k1
  have HR0 := Lib.hid (And.intro (h.below hb0) (MemStep.of_below (F := F) hb0))
  have hn0 : ¬ F w.heap.size := fun hf => absurd (HF.out _ hf) (Nat.lt_irrefl _)
  have hn1 : ¬ F (w.heap.size + 1) := fun hf => by have := HF.out _ hf; omega
  have HN := Lib.hid (And.intro hn0 hn1)
  clear k0 k1 hb0 h hn0 hn1
  go_enter Tryd.func78, Tryd.ntmps78
  go_wp2_with fail
  refine (HC.out _).mono ?_
  rintro e w1 ⟨rfl, hb⟩
  have K2 := Lib.hid (keepB K0.out hb)
  have K3 := Lib.hid (keepB K1.out hb)
  have HR1 := Lib.hid (And.intro (HR0.out.1.below hb) (HR0.out.2.below hb))
  clear hb K0 K1 HR0 HC
  have HO := Lib.hid (show (#[.int .i64 0, .int .u32 0, .int .u32 0, .int .u32 0, .int .u16 0, .int .u16 0] : Array Value).all (·.oneCell') = true by simp [Value.oneCell'])
  go_wp2_with (first | go_skip | (refine wpList_store_to rfl 68 _ _ rfl (w.heap.size + 1) #[.int .i64 0, .int .u32 0, .int .u32 0, .int .u32 0, .int .u16 0, .int .u16 0] rfl rfl 68 #[.int .i64 0, .int .u32 0, .int .u32 0, .int .u32 0, .int .u16 0, .int .u16 0] K3.out (by kernel_rfl) rfl HO.out ?_))
  intro w20 hx hk
  have HRF := Lib.hid (And.intro (HR1.out.1.kx hx.out (fun k _ hf e => by subst e; exact HN.out.2 hf)) (HR1.out.2.own hx.out (by omega)))
  go_wp2_with fail
  exact bodyPost_ret (v := .tuple #[.agg #[.int .i64 0, .int .u32 0, .int .u32 0, .int .u32 0, .int .u16 0, .int .u16 0], .int .i64 0, .bool false, .iface 104 (.int .i64 1)]) (results_cell_tmp3 Tryd.results78 _ _ (w.heap.size + 1) 68 #[.int .i64 0, .int .u32 0, .int .u32 0, .int .u32 0, .int .u16 0, .int .u16 0] (0, 0) _ rfl hk Tryd.underlying68 rfl (by kernel_rfl)) rfl ⟨F, rfl, HRF.out.1, HRF.out.2⟩
set_option maxRecDepth 100000 in
set_option maxHeartbeats 8000000 in
theorem ring_Next_noload {g : Nat} {m : Mm} {F : Nat → Prop} {w : World} (size de av us la pu : Nat) (h : RamIs w g m F)
    (HC : Hid (∀ W, Calls Tryd.prog 110 #[.agg #[.int .i64 size, .int .u32 de, .int .u32 av, .int .u32 us, .int .u16 la, .int .u16 pu], .pointer (some ⟨g, 0, none⟩)] W fun e w' => e = .returned .nilIface ∧ Below W.heap.size W w'))
    (HL : Hid (∀ W F', RamIs W g m F' → Below w.heap.size w W ∨ True → MemStep F F' w W → Calls Tryd.prog 111 #[.pointer (some ⟨g, 0, none⟩), .int .u32 (((av : Int) + 2) % 4294967296), .int .i64 2] W fun e w' => ∃ F2, e = .returned (.tuple #[.int .u32 0, .iface 104 (.int .i64 22)]) ∧ RamIs w' g m F2 ∧ MemStep F' F2 W w')) :
    Calls Tryd.prog 78 #[.agg #[.int .i64 size, .int .u32 de, .int .u32 av, .int .u32 us, .int .u16 la, .int .u16 pu], .pointer (some ⟨g, 0, none⟩)] w fun e w' => ∃ F2, e = .returned (.tuple #[.agg #[.int .i64 0, .int .u32 0, .int .u32 0, .int .u32 0, .int .u16 0, .int .u16 0], .int .i64 0, .bool false, .iface 104 (.int .i64 22)]) ∧ RamIs w' g m F2 ∧ MemStep F F2 w w' := by
  have HF := Lib.hid h.lt
  obtain ⟨k0, k1, hb0⟩ := two_new w (.cells #[.int .i64 size, .int .u32 de, .int .u32 av, .int .u32 us, .int .u16 la, .int .u16 pu] 68) (.cells #[.int .i64 0, .int .u32 0, .int .u32 0, .int .u32 0, .int .u16 0, .int .u16 0] 68)
  have K0 := Lib.hid k0
  have K1 := Lib.hid k1
  have HR0 := Lib.hid (And.intro (h.below hb0) (MemStep.of_below (F := F) hb0))
  have hn0 : ¬ F w.heap.size := fun hf => absurd (HF.out _ hf) (Nat.lt_irrefl _)
  have hn1 : ¬ F (w.heap.size + 1) := fun hf => by have := HF.out _ hf; omega
  have HN := Lib.hid (And.intro hn0 hn1)
  clear k0 k1 hb0 h hn0 hn1
  go_enter Tryd.func78, Tryd.ntmps78
  go_wp2_with fail
  refine (HC.out _).mono ?_
  rintro e w1 ⟨rfl, hb⟩
  have K2 := Lib.hid (keepB K0.out hb)
  have K3 := Lib.hid (keepB K1.out hb)
  have HR1 := Lib.hid (And.intro (HR0.out.1.below hb) (HR0.out.2.below hb))
  clear hb K0 K1 HR0 HC
  have HL1 := Lib.hid (HL.out w1 F HR1.out.1 (.inr trivial) HR1.out.2)
  have c2 := (cell_of_row _ _ 2 _ _ _ K2.out).trans (rfl : _ = some (.int .u32 av : Value))
  go_wp2_with fail
  refine (HL1.out).mono ?_
  rintro e w2 ⟨F2, rfl, h1, h2⟩
  have K4 := Lib.hid (h2.heap K2.out HN.out.1)
  have K5 := Lib.hid (h2.heap K3.out HN.out.2)
  have HN2 := Lib.hid (And.intro (h2.off (lt_heap K2.out) HN.out.1) (h2.off (lt_heap K3.out) HN.out.2))
  have HR2 := Lib.hid (And.intro h1 (HR1.out.2.trans h2))
  clear h1 h2 HL1 c2 K2 K3 HR1
  have HO := Lib.hid (show (#[.int .i64 0, .int .u32 0, .int .u32 0, .int .u32 0, .int .u16 0, .int .u16 0] : Array Value).all (·.oneCell') = true by simp [Value.oneCell'])
  go_wp2_with (first | go_skip | (refine wpList_store_to rfl 68 _ _ rfl (w.heap.size + 1) #[.int .i64 0, .int .u32 0, .int .u32 0, .int .u32 0, .int .u16 0, .int .u16 0] rfl rfl 68 #[.int .i64 0, .int .u32 0, .int .u32 0, .int .u32 0, .int .u16 0, .int .u16 0] K5.out (by kernel_rfl) rfl HO.out ?_))
  intro w20 hx hk
  have HRF := Lib.hid (And.intro (HR2.out.1.kx hx.out (fun k _ hf e => by subst e; exact HN2.out.2 hf)) (HR2.out.2.own hx.out (by omega)))
  go_wp2_with fail
  exact bodyPost_ret (v := .tuple #[.agg #[.int .i64 0, .int .u32 0, .int .u32 0, .int .u32 0, .int .u16 0, .int .u16 0], .int .i64 0, .bool false, .iface 104 (.int .i64 22)]) (results_cell_tmp3 Tryd.results78 _ _ (w.heap.size + 1) 68 #[.int .i64 0, .int .u32 0, .int .u32 0, .int .u32 0, .int .u16 0, .int .u16 0] (0, 0) _ rfl hk Tryd.underlying68 rfl (by kernel_rfl)) rfl ⟨F2, rfl, HRF.out.1, HRF.out.2⟩
set_option maxRecDepth 100000 in
set_option maxHeartbeats 8000000 in
theorem ring_Next_far {g : Nat} {m : Mm} {F : Nat → Prop} {w : World} (size de av us la pu c : Nat) (h : RamIs w g m F) (hs1 : 1 ≤ size) (hs2 : size ≤ 256) (hla : la < 65536) (hc : c < 65536)
    (HC : Hid (∀ W, Calls Tryd.prog 110 #[.agg #[.int .i64 size, .int .u32 de, .int .u32 av, .int .u32 us, .int .u16 la, .int .u16 pu], .pointer (some ⟨g, 0, none⟩)] W fun e w' => e = .returned .nilIface ∧ Below W.heap.size W w'))
    (HL : Hid (∀ W F', RamIs W g m F' → Below w.heap.size w W ∨ True → MemStep F F' w W → Calls Tryd.prog 111 #[.pointer (some ⟨g, 0, none⟩), .int .u32 (((av : Int) + 2) % 4294967296), .int .i64 2] W fun e w' => ∃ F2, e = .returned (.tuple #[.int .u32 c, .nilIface]) ∧ RamIs w' g m F2 ∧ MemStep F' F2 W w')) (hne : ¬ c = la) (dd : Nat) (hdd : ((c : Int) - (la : Int)) % 65536 = (dd : Int)) (hdb : dd < 65536) (hah : size < dd) :
    Calls Tryd.prog 78 #[.agg #[.int .i64 size, .int .u32 de, .int .u32 av, .int .u32 us, .int .u16 la, .int .u16 pu], .pointer (some ⟨g, 0, none⟩)] w fun e w' => ∃ F2, e = .returned (.tuple #[.agg #[.int .i64 0, .int .u32 0, .int .u32 0, .int .u32 0, .int .u16 0, .int .u16 0], .int .i64 0, .bool false, .iface 104 (.int .i64 22)]) ∧ RamIs w' g m F2 ∧ MemStep F F2 w w' := by
  have hla0 : (0 : Int) ≤ (la : Int) := by omega
  have hc0 : (0 : Int) ≤ (c : Int) := by omega
  have hcm : (c : Int) % 65536 = (c : Int) := by omega
  have hsz1 : (1 : Int) ≤ (size : Int) := by omega
  have hsz2 : (size : Int) ≤ 256 := by omega
  have hne2 : ((c : Int) == (la : Int)) = false := by simp; omega
  have hddw : wrap64 (IntKind.u16.wrap ((c : Int) - (la : Int))) = (dd : Int) := by rw [IntKind.wrap_u16, hdd]; unfold wrap64; omega
  clear hdd
  have hdd0 : (0 : Int) ≤ (dd : Int) := by omega
  have hah2 : (size : Int) < (dd : Int) := by omega
  clear hne hah hs1 hs2 hla hc hdb
  have HF := Lib.hid h.lt
  obtain ⟨k0, k1, hb0⟩ := two_new w (.cells #[.int .i64 size, .int .u32 de, .int .u32 av, .int .u32 us, .int .u16 la, .int .u16 pu] 68) (.cells #[.int .i64 0, .int .u32 0, .int .u32 0, .int .u32 0, .int .u16 0, .int .u16 0] 68)
  have K0 := Lib.hid k0
  have K1 := Lib.hid k1
  have HR0 := Lib.hid (And.intro (h.below hb0) (MemStep.of_below (F := F) hb0))
  have hn0 : ¬ F w.heap.size := fun hf => absurd (HF.out _ hf) (Nat.lt_irrefl _)
  have hn1 : ¬ F (w.heap.size + 1) := fun hf => by have := HF.out _ hf; omega
  have HN := Lib.hid (And.intro hn0 hn1)
  clear k0 k1 hb0 h hn0 hn1
  go_enter Tryd.func78, Tryd.ntmps78
  go_wp2_with fail
  refine (HC.out _).mono ?_
  rintro e w1 ⟨rfl, hb⟩
  have K2 := Lib.hid (keepB K0.out hb)
  have K3 := Lib.hid (keepB K1.out hb)
  have HR1 := Lib.hid (And.intro (HR0.out.1.below hb) (HR0.out.2.below hb))
  clear hb K0 K1 HR0 HC
  have HL1 := Lib.hid (HL.out w1 F HR1.out.1 (.inr trivial) HR1.out.2)
  have c2 := (cell_of_row _ _ 2 _ _ _ K2.out).trans (rfl : _ = some (.int .u32 av : Value))
  go_wp2_with fail
  refine (HL1.out).mono ?_
  rintro e w2 ⟨F2, rfl, h1, h2⟩
  have K4 := Lib.hid (h2.heap K2.out HN.out.1)
  have K5 := Lib.hid (h2.heap K3.out HN.out.2)
  have HN2 := Lib.hid (And.intro (h2.off (lt_heap K2.out) HN.out.1) (h2.off (lt_heap K3.out) HN.out.2))
  have HR2 := Lib.hid (And.intro h1 (HR1.out.2.trans h2))
  clear h1 h2 HL1 c2 K2 K3 HR1
  have c4 := (cell_of_row _ _ 4 _ _ _ K4.out).trans (rfl : _ = some (.int .u16 la : Value))
  have c0 := (cell_of_row _ _ 0 _ _ _ K4.out).trans (rfl : _ = some (.int .i64 size : Value))
  have HO := Lib.hid (show (#[.int .i64 0, .int .u32 0, .int .u32 0, .int .u32 0, .int .u16 0, .int .u16 0] : Array Value).all (·.oneCell') = true by simp [Value.oneCell'])
  go_wp2_with (first | go_skip | (refine wpList_store_to rfl 68 _ _ rfl (w.heap.size + 1) #[.int .i64 0, .int .u32 0, .int .u32 0, .int .u32 0, .int .u16 0, .int .u16 0] rfl rfl 68 #[.int .i64 0, .int .u32 0, .int .u32 0, .int .u32 0, .int .u16 0, .int .u16 0] K5.out (by kernel_rfl) rfl HO.out ?_))
  intro w20 hx hk
  have HRF := Lib.hid (And.intro (HR2.out.1.kx hx.out (fun k _ hf e => by subst e; exact HN2.out.2 hf)) (HR2.out.2.own hx.out (by omega)))
  go_wp2_with fail
  exact bodyPost_ret (v := .tuple #[.agg #[.int .i64 0, .int .u32 0, .int .u32 0, .int .u32 0, .int .u16 0, .int .u16 0], .int .i64 0, .bool false, .iface 104 (.int .i64 22)]) (results_cell_tmp3 Tryd.results78 _ _ (w.heap.size + 1) 68 #[.int .i64 0, .int .u32 0, .int .u32 0, .int .u32 0, .int .u16 0, .int .u16 0] (0, 0) _ rfl hk Tryd.underlying68 rfl (by kernel_rfl)) rfl ⟨F2, rfl, HRF.out.1, HRF.out.2⟩
set_option maxRecDepth 100000 in
set_option maxHeartbeats 8000000 in
theorem ring_Next_noload2 {g : Nat} {m : Mm} {F : Nat → Prop} {w : World} (size de av us la pu c : Nat) (h : RamIs w g m F) (hs1 : 1 ≤ size) (hs2 : size ≤ 256) (hla : la < 65536) (hc : c < 65536)
    (HC : Hid (∀ W, Calls Tryd.prog 110 #[.agg #[.int .i64 size, .int .u32 de, .int .u32 av, .int .u32 us, .int .u16 la, .int .u16 pu], .pointer (some ⟨g, 0, none⟩)] W fun e w' => e = .returned .nilIface ∧ Below W.heap.size W w'))
    (HL : Hid (∀ W F', RamIs W g m F' → Below w.heap.size w W ∨ True → MemStep F F' w W → Calls Tryd.prog 111 #[.pointer (some ⟨g, 0, none⟩), .int .u32 (((av : Int) + 2) % 4294967296), .int .i64 2] W fun e w' => ∃ F2, e = .returned (.tuple #[.int .u32 c, .nilIface]) ∧ RamIs w' g m F2 ∧ MemStep F' F2 W w')) (hne : ¬ c = la) (dd : Nat) (hdd : ((c : Int) - (la : Int)) % 65536 = (dd : Int)) (hdb : dd < 65536) (hah : dd ≤ size) (a2 : Int) (HARG : Hid (IntKind.u32.wrap (IntKind.u32.wrap ((av : Int) + 4) + IntKind.u32.wrap (2 * IntKind.u32.wrap ((IntKind.i64.wrap (la : Int)).tmod (size : Int)))) = a2))
    (HL2 : Hid (∀ W F', RamIs W g m F' → MemStep F F' w W → Calls Tryd.prog 111 #[.pointer (some ⟨g, 0, none⟩), .int .u32 a2, .int .i64 2] W fun e w' => ∃ F2, e = .returned (.tuple #[.int .u32 0, .iface 104 (.int .i64 22)]) ∧ RamIs w' g m F2 ∧ MemStep F' F2 W w')) :
    Calls Tryd.prog 78 #[.agg #[.int .i64 size, .int .u32 de, .int .u32 av, .int .u32 us, .int .u16 la, .int .u16 pu], .pointer (some ⟨g, 0, none⟩)] w fun e w' => ∃ F2, e = .returned (.tuple #[.agg #[.int .i64 0, .int .u32 0, .int .u32 0, .int .u32 0, .int .u16 0, .int .u16 0], .int .i64 0, .bool false, .iface 104 (.int .i64 22)]) ∧ RamIs w' g m F2 ∧ MemStep F F2 w w' := by
  have hla0 : (0 : Int) ≤ (la : Int) := by omega
  have hc0 : (0 : Int) ≤ (c : Int) := by omega
  have hcm : (c : Int) % 65536 = (c : Int) := by omega
  have hsz1 : (1 : Int) ≤ (size : Int) := by omega
  have hsz2 : (size : Int) ≤ 256 := by omega
  have hne2 : ((c : Int) == (la : Int)) = false := by simp; omega
  have hddw : wrap64 (IntKind.u16.wrap ((c : Int) - (la : Int))) = (dd : Int) := by rw [IntKind.wrap_u16, hdd]; unfold wrap64; omega
  clear hdd
  have hdd0 : (0 : Int) ≤ (dd : Int) := by omega
  have hah2 : ¬ (size : Int) < (dd : Int) := by omega
  have hdd1 : (dd : Int) ≤ 256 := by omega
  have hsz0 : ¬ size = 0 := by omega
  clear hne hah hs1 hs2 hla hc hdb
  have HF := Lib.hid h.lt
  obtain ⟨k0, k1, hb0⟩ := two_new w (.cells #[.int .i64 size, .int .u32 de, .int .u32 av, .int .u32 us, .int .u16 la, .int .u16 pu] 68) (.cells #[.int .i64 0, .int .u32 0, .int .u32 0, .int .u32 0, .int .u16 0, .int .u16 0] 68)
  have K0 := Lib.hid k0
  have K1 := Lib.hid k1
  have HR0 := Lib.hid (And.intro (h.below hb0) (MemStep.of_below (F := F) hb0))
  have hn0 : ¬ F w.heap.size := fun hf => absurd (HF.out _ hf) (Nat.lt_irrefl _)
  have hn1 : ¬ F (w.heap.size + 1) := fun hf => by have := HF.out _ hf; omega
  have HN := Lib.hid (And.intro hn0 hn1)
  clear k0 k1 hb0 h hn0 hn1
  go_enter Tryd.func78, Tryd.ntmps78
  go_wp2_with fail
  refine (HC.out _).mono ?_
  rintro e w1 ⟨rfl, hb⟩
  have K2 := Lib.hid (keepB K0.out hb)
  have K3 := Lib.hid (keepB K1.out hb)
  have HR1 := Lib.hid (And.intro (HR0.out.1.below hb) (HR0.out.2.below hb))
  clear hb K0 K1 HR0 HC
  have HL1 := Lib.hid (HL.out w1 F HR1.out.1 (.inr trivial) HR1.out.2)
  have c2 := (cell_of_row _ _ 2 _ _ _ K2.out).trans (rfl : _ = some (.int .u32 av : Value))
  go_wp2_with fail
  refine (HL1.out).mono ?_
  rintro e w2 ⟨F2, rfl, h1, h2⟩
  have K4 := Lib.hid (h2.heap K2.out HN.out.1)
  have K5 := Lib.hid (h2.heap K3.out HN.out.2)
  have HN2 := Lib.hid (And.intro (h2.off (lt_heap K2.out) HN.out.1) (h2.off (lt_heap K3.out) HN.out.2))
  have HR2 := Lib.hid (And.intro h1 (HR1.out.2.trans h2))
  clear h1 h2 HL1 c2 K2 K3 HR1
  have c4 := (cell_of_row _ _ 4 _ _ _ K4.out).trans (rfl : _ = some (.int .u16 la : Value))
  have c0 := (cell_of_row _ _ 0 _ _ _ K4.out).trans (rfl : _ = some (.int .i64 size : Value))
  go_upto_region 11 with fail
  clear c0 c4
  refine wp_region_held_drew (S := fun W => W.heap[w.heap.size]? = some (.cells #[.int .i64 size, .int .u32 de, .int .u32 av, .int .u32 us, .int .u16 la, .int .u16 pu] 68 (0, 0))) (by kernel_rfl) K4.out (fun hH0 => ?_)
  refine wpAnyH_take (i := 0) (v := ?v0) rfl (by kernel_rfl) (by kernel_rfl) (by kernel_rfl) (fun _ _ _ h => h) (Or.inl ⟨by rfl, ?hy0⟩) (by assumption) ?rest0
  case hy0 => (intro W hSw; go_simp; first | done | with_reducible rfl)
  simp only [Act.put, List.getElem_toArray, List.getElem_cons_zero, List.setIfInBounds_toArray, List.set_cons_zero, List.set_cons_succ]
  refine wpAnyH_take (i := 1) (v := ?v1) rfl (by kernel_rfl) (by kernel_rfl) (by kernel_rfl) (fun _ _ _ h => h) (Or.inl ⟨by rfl, ?hy1⟩) (by assumption) ?rest1
  case hy1 => (intro W hSw; go_simp; first | done | with_reducible rfl)
  simp only [Act.put, List.getElem_toArray, List.getElem_cons_zero, List.getElem_cons_succ, List.setIfInBounds_toArray, List.set_cons_zero, List.set_cons_succ]
  refine wpAnyH_take (i := 2) (v := ?v2) rfl (by kernel_rfl) (by kernel_rfl) (by kernel_rfl) (fun _ _ _ h => h) (Or.inl ⟨by rfl, ?hy2⟩) (by assumption) ?rest2
  case hy2 => (intro W hSw; have cj := (cell_of_row _ _ 2 _ _ _ hSw).trans (rfl : _ = some (.int .u32 av : Value)); go_simp; first | done | with_reducible rfl)
  simp only [Act.put, List.getElem_toArray, List.getElem_cons_zero, List.getElem_cons_succ, List.setIfInBounds_toArray, List.set_cons_zero, List.set_cons_succ]
  refine wpAnyH_take (i := 3) (v := ?v3) rfl (by kernel_rfl) (by kernel_rfl) (by kernel_rfl) (fun _ _ _ h => h) (Or.inl ⟨by rfl, ?hy3⟩) (by assumption) ?rest3
  case hy3 => (intro W hSw; go_simp; first | done | with_reducible rfl)
  simp only [Act.put, List.getElem_toArray, List.getElem_cons_zero, List.getElem_cons_succ, List.setIfInBounds_toArray, List.set_cons_zero, List.set_cons_succ]
  refine wpAnyH_take (i := 4) (v := ?v4) rfl (by kernel_rfl) (by kernel_rfl) (by kernel_rfl) (fun _ _ _ h => h) (Or.inl ⟨by rfl, ?hy4⟩) (by assumption) ?rest4
  case hy4 => (intro W hSw; go_simp; first | done | with_reducible rfl)
  simp only [Act.put, List.getElem_toArray, List.getElem_cons_zero, List.getElem_cons_succ, List.setIfInBounds_toArray, List.set_cons_zero, List.set_cons_succ]
  refine wpAnyH_take (i := 5) (v := ?v5) rfl (by kernel_rfl) (by kernel_rfl) (by kernel_rfl) (fun _ _ _ h => h) (Or.inl ⟨by rfl, ?hy5⟩) (by assumption) ?rest5
  case hy5 => (intro W hSw; have cj := (cell_of_row _ _ 4 _ _ _ hSw).trans (rfl : _ = some (.int .u16 la : Value)); go_simp; first | done | with_reducible rfl)
  simp only [Act.put, List.getElem_toArray, List.getElem_cons_zero, List.getElem_cons_succ, List.setIfInBounds_toArray, List.set_cons_zero, List.set_cons_succ]
  refine wpAnyH_take (i := 6) (v := ?v6) rfl (by kernel_rfl) (by kernel_rfl) (by kernel_rfl) (fun _ _ _ h => h) (Or.inl ⟨by rfl, ?hy6⟩) (by assumption) ?rest6
  case hy6 => (intro W hSw; go_simp; first | done | with_reducible rfl)
  simp only [Act.put, List.getElem_toArray, List.getElem_cons_zero, List.getElem_cons_succ, List.setIfInBounds_toArray, List.set_cons_zero, List.set_cons_succ]
  refine wpAnyH_take (i := 7) (v := ?v7) rfl (by kernel_rfl) (by kernel_rfl) (by kernel_rfl) (fun _ _ _ h => h) (Or.inl ⟨by rfl, ?hy7⟩) (by assumption) ?rest7
  case hy7 => (intro W hSw; go_simp; first | done | with_reducible rfl)
  simp only [Act.put, List.getElem_toArray, List.getElem_cons_zero, List.getElem_cons_succ, List.setIfInBounds_toArray, List.set_cons_zero, List.set_cons_succ]
  refine wpAnyH_take (i := 8) (v := ?v8) rfl (by kernel_rfl) (by kernel_rfl) (by kernel_rfl) (fun _ _ _ h => h) (Or.inl ⟨by rfl, ?hy8⟩) (by assumption) ?rest8
  case hy8 => (intro W hSw; have cj := (cell_of_row _ _ 0 _ _ _ hSw).trans (rfl : _ = some (.int .i64 size : Value)); go_simp; first | done | with_reducible rfl)
  simp only [Act.put, List.getElem_toArray, List.getElem_cons_zero, List.getElem_cons_succ, List.setIfInBounds_toArray, List.set_cons_zero, List.set_cons_succ]
  refine wpAnyH_take (i := 9) (v := ?v9) rfl (by kernel_rfl) (by kernel_rfl) (by kernel_rfl) (fun _ _ _ h => h) (Or.inl ⟨by rfl, ?hy9⟩) (by assumption) ?rest9
  case hy9 => (intro W hSw; go_simp; first | done | with_reducible rfl)
  simp only [Act.put, List.getElem_toArray, List.getElem_cons_zero, List.getElem_cons_succ, List.setIfInBounds_toArray, List.set_cons_zero, List.set_cons_succ]
  refine wpAnyH_take (i := 10) (v := ?v10) rfl (by kernel_rfl) (by kernel_rfl) (by kernel_rfl) (fun _ _ _ h => h) (Or.inl ⟨by rfl, ?hy10⟩) (by assumption) ?rest10
  case hy10 => (intro W hSw; go_simp; first | done | with_reducible rfl)
  simp only [Act.put, List.getElem_toArray, List.getElem_cons_zero, List.getElem_cons_succ, List.setIfInBounds_toArray, List.set_cons_zero, List.set_cons_succ]
  refine wpAnyH_take (i := 11) (v := ?v11) rfl (by kernel_rfl) (by kernel_rfl) (by kernel_rfl) (fun _ _ _ h => h) (Or.inl ⟨by rfl, ?hy11⟩) (by assumption) ?rest11
  case hy11 => (intro W hSw; go_simp; first | done | with_reducible rfl)
  simp only [Act.put, List.getElem_toArray, List.getElem_cons_zero, List.getElem_cons_succ, List.setIfInBounds_toArray, List.set_cons_zero, List.set_cons_succ]
  refine wpAnyH_take (i := 12) (v := ?v12) rfl (by kernel_rfl) (by kernel_rfl) (by kernel_rfl) (fun _ _ _ h => h) (Or.inl ⟨by rfl, ?hy12⟩) (by assumption) ?rest12
  case hy12 => (intro W hSw; go_simp; first | done | with_reducible rfl)
  simp only [Act.put, List.getElem_toArray, List.getElem_cons_zero, List.getElem_cons_succ, List.setIfInBounds_toArray, List.set_cons_zero, List.set_cons_succ]
  refine wpAnyH_ready (rs := [13]) (by kernel_rfl) (by simp) ?_
  refine AllReadyH.cons (o := _) rfl (fun K hK => ?_) (AllReadyH.nil)
  simp only [List.getElem_toArray, List.getElem_cons_zero, List.getElem_cons_succ]
  go_simp
  rw [HARG.out]
  have HL3 := Lib.hid (HL2.out w2.drew F2 (HR2.out.1.below (Below.refl _ _).drew) HR2.out.2.drew)
  refine (HL3.out).mono ?_
  rintro e w3 ⟨F3, rfl, h1, h2⟩
  have h2' : MemStep F2 F3 w2 w3 := (MemStep.of_below ((Below.refl w2.heap.size w2).drew)).trans h2
  have K6 := Lib.hid (h2'.heap K4.out HN2.out.1)
  have K7 := Lib.hid (h2'.heap K5.out HN2.out.2)
  have HN3 := Lib.hid (And.intro (h2'.off (lt_heap K4.out) HN2.out.1) (h2'.off (lt_heap K5.out) HN2.out.2))
  have HR3 := Lib.hid (And.intro h1 (HR2.out.2.trans h2'))
  refine hK.out _ _ K6.out (fun hH1 => ?_)
  clear hK K hH0 h1 h2 h2' HL3 K4 K5 HN2 HR2 HL2 HARG
  try simp only [Act.put, List.setIfInBounds_toArray, List.set_cons_zero, List.set_cons_succ]
  refine wpAnyH_take (i := 14) (v := ?v14) rfl (by kernel_rfl) (by kernel_rfl) (by kernel_rfl) (fun _ _ _ h => h) (Or.inl ⟨by rfl, ?hy14⟩) (by assumption) ?rest14
  case hy14 => (intro W hSw; go_simp; first | done | with_reducible rfl)
  simp only [Act.put, List.getElem_toArray, List.getElem_cons_zero, List.getElem_cons_succ, List.setIfInBounds_toArray, List.set_cons_zero, List.set_cons_succ]
  refine wpAnyH_take (i := 15) (v := ?v15) rfl (by kernel_rfl) (by kernel_rfl) (by kernel_rfl) (fun _ _ _ h => h) (Or.inl ⟨by rfl, ?hy15⟩) (by assumption) ?rest15
  case hy15 => (intro W hSw; go_simp; first | done | with_reducible rfl)
  simp only [Act.put, List.getElem_toArray, List.getElem_cons_zero, List.getElem_cons_succ, List.setIfInBounds_toArray, List.set_cons_zero, List.set_cons_succ]
  refine wpAnyH_take (i := 16) (v := ?v16) rfl (by kernel_rfl) (by kernel_rfl) (by kernel_rfl) (fun _ _ _ h => h) (Or.inl ⟨by rfl, ?hy16⟩) (by assumption) ?rest16
  case hy16 => (intro W hSw; go_simp; first | done | with_reducible rfl)
  simp only [Act.put, List.getElem_toArray, List.getElem_cons_zero, List.getElem_cons_succ, List.setIfInBounds_toArray, List.set_cons_zero, List.set_cons_succ]
  refine wpAnyH_take (i := 17) (v := ?v17) rfl (by kernel_rfl) (by kernel_rfl) (by kernel_rfl) (fun _ _ _ h => h) (Or.inl ⟨by rfl, ?hy17⟩) (by assumption) ?rest17
  case hy17 => (intro W hSw; go_simp; first | done | with_reducible rfl)
  simp only [Act.put, List.getElem_toArray, List.getElem_cons_zero, List.getElem_cons_succ, List.setIfInBounds_toArray, List.set_cons_zero, List.set_cons_succ]
  refine wpAnyH_take (i := 18) (v := ?v18) rfl (by kernel_rfl) (by kernel_rfl) (by kernel_rfl) (fun _ _ _ h => h) (Or.inl ⟨by rfl, ?hy18⟩) (by assumption) ?rest18
  case hy18 => (intro W hSw; go_simp; first | done | with_reducible rfl)
  simp only [Act.put, List.getElem_toArray, List.getElem_cons_zero, List.getElem_cons_succ, List.setIfInBounds_toArray, List.set_cons_zero, List.set_cons_succ]
  refine wpAnyH_done (by kernel_rfl) ?_ _
  clear hH1
  have c0 := (cell_of_row _ _ 0 _ _ _ K6.out).trans (rfl : _ = some (.int .i64 size : Value))
  have HO := Lib.hid (show (#[.int .i64 0, .int .u32 0, .int .u32 0, .int .u32 0, .int .u16 0, .int .u16 0] : Array Value).all (·.oneCell') = true by simp [Value.oneCell'])
  go_wp2_with (first | go_skip | (refine wpList_store_to rfl 68 _ _ rfl (w.heap.size + 1) #[.int .i64 0, .int .u32 0, .int .u32 0, .int .u32 0, .int .u16 0, .int .u16 0] rfl rfl 68 #[.int .i64 0, .int .u32 0, .int .u32 0, .int .u32 0, .int .u16 0, .int .u16 0] K7.out (by kernel_rfl) rfl HO.out ?_))
  intro w20 hx hk
  have HRF := Lib.hid (And.intro (HR3.out.1.kx hx.out (fun k _ hf e => by subst e; exact HN3.out.2 hf)) (HR3.out.2.own hx.out (by omega)))
  go_wp2_with fail
  exact bodyPost_ret (v := .tuple #[.agg #[.int .i64 0, .int .u32 0, .int .u32 0, .int .u32 0, .int .u16 0, .int .u16 0], .int .i64 0, .bool false, .iface 104 (.int .i64 22)]) (results_cell_tmp3 Tryd.results78 _ _ (w.heap.size + 1) 68 #[.int .i64 0, .int .u32 0, .int .u32 0, .int .u32 0, .int .u16 0, .int .u16 0] (0, 0) _ rfl hk Tryd.underlying68 rfl (by kernel_rfl)) rfl ⟨F3, rfl, HRF.out.1, HRF.out.2⟩
set_option maxRecDepth 100000 in
set_option maxHeartbeats 8000000 in
theorem ring_Next_high {g : Nat} {m : Mm} {F : Nat → Prop} {w : World} (size de av us la pu c : Nat) (h : RamIs w g m F) (hs1 : 1 ≤ size) (hs2 : size ≤ 256) (hla : la < 65536) (hc : c < 65536)
    (HC : Hid (∀ W, Calls Tryd.prog 110 #[.agg #[.int .i64 size, .int .u32 de, .int .u32 av, .int .u32 us, .int .u16 la, .int .u16 pu], .pointer (some ⟨g, 0, none⟩)] W fun e w' => e = .returned .nilIface ∧ Below W.heap.size W w'))
    (HL : Hid (∀ W F', RamIs W g m F' → Below w.heap.size w W ∨ True → MemStep F F' w W → Calls Tryd.prog 111 #[.pointer (some ⟨g, 0, none⟩), .int .u32 (((av : Int) + 2) % 4294967296), .int .i64 2] W fun e w' => ∃ F2, e = .returned (.tuple #[.int .u32 c, .nilIface]) ∧ RamIs w' g m F2 ∧ MemStep F' F2 W w')) (hne : ¬ c = la) (dd : Nat) (hdd : ((c : Int) - (la : Int)) % 65536 = (dd : Int)) (hdb : dd < 65536) (hd : Nat) (hdh : size ≤ hd) (hd6 : hd < 65536) (hah : dd ≤ size) (a2 : Int) (HARG : Hid (IntKind.u32.wrap (IntKind.u32.wrap ((av : Int) + 4) + IntKind.u32.wrap (2 * IntKind.u32.wrap ((IntKind.i64.wrap (la : Int)).tmod (size : Int)))) = a2))
    (HL2 : Hid (∀ W F', RamIs W g m F' → MemStep F F' w W → Calls Tryd.prog 111 #[.pointer (some ⟨g, 0, none⟩), .int .u32 a2, .int .i64 2] W fun e w' => ∃ F2, e = .returned (.tuple #[.int .u32 hd, .nilIface]) ∧ RamIs w' g m F2 ∧ MemStep F' F2 W w')) :
    Calls Tryd.prog 78 #[.agg #[.int .i64 size, .int .u32 de, .int .u32 av, .int .u32 us, .int .u16 la, .int .u16 pu], .pointer (some ⟨g, 0, none⟩)] w fun e w' => ∃ F2, e = .returned (.tuple #[.agg #[.int .i64 0, .int .u32 0, .int .u32 0, .int .u32 0, .int .u16 0, .int .u16 0], .int .i64 0, .bool false, .iface 104 (.int .i64 22)]) ∧ RamIs w' g m F2 ∧ MemStep F F2 w w' := by
  have hla0 : (0 : Int) ≤ (la : Int) := by omega
  have hc0 : (0 : Int) ≤ (c : Int) := by omega
  have hcm : (c : Int) % 65536 = (c : Int) := by omega
  have hsz1 : (1 : Int) ≤ (size : Int) := by omega
  have hsz2 : (size : Int) ≤ 256 := by omega
  have hne2 : ((c : Int) == (la : Int)) = false := by simp; omega
  have hddw : wrap64 (IntKind.u16.wrap ((c : Int) - (la : Int))) = (dd : Int) := by rw [IntKind.wrap_u16, hdd]; unfold wrap64; omega
  clear hdd
  have hdd0 : (0 : Int) ≤ (dd : Int) := by omega
  have hah2 : ¬ (size : Int) < (dd : Int) := by omega
  have hdd1 : (dd : Int) ≤ 256 := by omega
  have hsz0 : ¬ size = 0 := by omega
  have hdU : (hd : Int) ≤ 65535 := by omega
  have hd0 : (0 : Int) ≤ (hd : Int) := by omega
  have hd2 : (size : Int) ≤ (hd : Int) := by omega
  clear hne hah hs1 hs2 hla hc hdb hdh hd6
  have HF := Lib.hid h.lt
  obtain ⟨k0, k1, hb0⟩ := two_new w (.cells #[.int .i64 size, .int .u32 de, .int .u32 av, .int .u32 us, .int .u16 la, .int .u16 pu] 68) (.cells #[.int .i64 0, .int .u32 0, .int .u32 0, .int .u32 0, .int .u16 0, .int .u16 0] 68)
  have K0 := Lib.hid k0
  have K1 := Lib.hid k1
  have HR0 := Lib.hid (And.intro (h.below hb0) (MemStep.of_below (F := F) hb0))
  have hn0 : ¬ F w.heap.size := fun hf => absurd (HF.out _ hf) (Nat.lt_irrefl _)
  have hn1 : ¬ F (w.heap.size + 1) := fun hf => by have := HF.out _ hf; omega
  have HN := Lib.hid (And.intro hn0 hn1)
  clear k0 k1 hb0 h hn0 hn1
  go_enter Tryd.func78, Tryd.ntmps78
  go_wp2_with fail
  refine (HC.out _).mono ?_
  rintro e w1 ⟨rfl, hb⟩
  have K2 := Lib.hid (keepB K0.out hb)
  have K3 := Lib.hid (keepB K1.out hb)
  have HR1 := Lib.hid (And.intro (HR0.out.1.below hb) (HR0.out.2.below hb))
  clear hb K0 K1 HR0 HC
  have HL1 := Lib.hid (HL.out w1 F HR1.out.1 (.inr trivial) HR1.out.2)
  have c2 := (cell_of_row _ _ 2 _ _ _ K2.out).trans (rfl : _ = some (.int .u32 av : Value))
  go_wp2_with fail
  refine (HL1.out).mono ?_
  rintro e w2 ⟨F2, rfl, h1, h2⟩
  have K4 := Lib.hid (h2.heap K2.out HN.out.1)
  have K5 := Lib.hid (h2.heap K3.out HN.out.2)
  have HN2 := Lib.hid (And.intro (h2.off (lt_heap K2.out) HN.out.1) (h2.off (lt_heap K3.out) HN.out.2))
  have HR2 := Lib.hid (And.intro h1 (HR1.out.2.trans h2))
  clear h1 h2 HL1 c2 K2 K3 HR1
  have c4 := (cell_of_row _ _ 4 _ _ _ K4.out).trans (rfl : _ = some (.int .u16 la : Value))
  have c0 := (cell_of_row _ _ 0 _ _ _ K4.out).trans (rfl : _ = some (.int .i64 size : Value))
  go_upto_region 11 with fail
  clear c0 c4
  refine wp_region_held_drew (S := fun W => W.heap[w.heap.size]? = some (.cells #[.int .i64 size, .int .u32 de, .int .u32 av, .int .u32 us, .int .u16 la, .int .u16 pu] 68 (0, 0))) (by kernel_rfl) K4.out (fun hH0 => ?_)
  refine wpAnyH_take (i := 0) (v := ?v0) rfl (by kernel_rfl) (by kernel_rfl) (by kernel_rfl) (fun _ _ _ h => h) (Or.inl ⟨by rfl, ?hy0⟩) (by assumption) ?rest0
  case hy0 => (intro W hSw; go_simp; first | done | with_reducible rfl)
  simp only [Act.put, List.getElem_toArray, List.getElem_cons_zero, List.setIfInBounds_toArray, List.set_cons_zero, List.set_cons_succ]
  refine wpAnyH_take (i := 1) (v := ?v1) rfl (by kernel_rfl) (by kernel_rfl) (by kernel_rfl) (fun _ _ _ h => h) (Or.inl ⟨by rfl, ?hy1⟩) (by assumption) ?rest1
  case hy1 => (intro W hSw; go_simp; first | done | with_reducible rfl)
  simp only [Act.put, List.getElem_toArray, List.getElem_cons_zero, List.getElem_cons_succ, List.setIfInBounds_toArray, List.set_cons_zero, List.set_cons_succ]
  refine wpAnyH_take (i := 2) (v := ?v2) rfl (by kernel_rfl) (by kernel_rfl) (by kernel_rfl) (fun _ _ _ h => h) (Or.inl ⟨by rfl, ?hy2⟩) (by assumption) ?rest2
  case hy2 => (intro W hSw; have cj := (cell_of_row _ _ 2 _ _ _ hSw).trans (rfl : _ = some (.int .u32 av : Value)); go_simp; first | done | with_reducible rfl)
  simp only [Act.put, List.getElem_toArray, List.getElem_cons_zero, List.getElem_cons_succ, List.setIfInBounds_toArray, List.set_cons_zero, List.set_cons_succ]
  refine wpAnyH_take (i := 3) (v := ?v3) rfl (by kernel_rfl) (by kernel_rfl) (by kernel_rfl) (fun _ _ _ h => h) (Or.inl ⟨by rfl, ?hy3⟩) (by assumption) ?rest3
  case hy3 => (intro W hSw; go_simp; first | done | with_reducible rfl)
  simp only [Act.put, List.getElem_toArray, List.getElem_cons_zero, List.getElem_cons_succ, List.setIfInBounds_toArray, List.set_cons_zero, List.set_cons_succ]
  refine wpAnyH_take (i := 4) (v := ?v4) rfl (by kernel_rfl) (by kernel_rfl) (by kernel_rfl) (fun _ _ _ h => h) (Or.inl ⟨by rfl, ?hy4⟩) (by assumption) ?rest4
  case hy4 => (intro W hSw; go_simp; first | done | with_reducible rfl)
  simp only [Act.put, List.getElem_toArray, List.getElem_cons_zero, List.getElem_cons_succ, List.setIfInBounds_toArray, List.set_cons_zero, List.set_cons_succ]
  refine wpAnyH_take (i := 5) (v := ?v5) rfl (by kernel_rfl) (by kernel_rfl) (by kernel_rfl) (fun _ _ _ h => h) (Or.inl ⟨by rfl, ?hy5⟩) (by assumption) ?rest5
  case hy5 => (intro W hSw; have cj := (cell_of_row _ _ 4 _ _ _ hSw).trans (rfl : _ = some (.int .u16 la : Value)); go_simp; first | done | with_reducible rfl)
  simp only [Act.put, List.getElem_toArray, List.getElem_cons_zero, List.getElem_cons_succ, List.setIfInBounds_toArray, List.set_cons_zero, List.set_cons_succ]
  refine wpAnyH_take (i := 6) (v := ?v6) rfl (by kernel_rfl) (by kernel_rfl) (by kernel_rfl) (fun _ _ _ h => h) (Or.inl ⟨by rfl, ?hy6⟩) (by assumption) ?rest6
  case hy6 => (intro W hSw; go_simp; first | done | with_reducible rfl)
  simp only [Act.put, List.getElem_toArray, List.getElem_cons_zero, List.getElem_cons_succ, List.setIfInBounds_toArray, List.set_cons_zero, List.set_cons_succ]
  refine wpAnyH_take (i := 7) (v := ?v7) rfl (by kernel_rfl) (by kernel_rfl) (by kernel_rfl) (fun _ _ _ h => h) (Or.inl ⟨by rfl, ?hy7⟩) (by assumption) ?rest7
  case hy7 => (intro W hSw; go_simp; first | done | with_reducible rfl)
  simp only [Act.put, List.getElem_toArray, List.getElem_cons_zero, List.getElem_cons_succ, List.setIfInBounds_toArray, List.set_cons_zero, List.set_cons_succ]
  refine wpAnyH_take (i := 8) (v := ?v8) rfl (by kernel_rfl) (by kernel_rfl) (by kernel_rfl) (fun _ _ _ h => h) (Or.inl ⟨by rfl, ?hy8⟩) (by assumption) ?rest8
  case hy8 => (intro W hSw; have cj := (cell_of_row _ _ 0 _ _ _ hSw).trans (rfl : _ = some (.int .i64 size : Value)); go_simp; first | done | with_reducible rfl)
  simp only [Act.put, List.getElem_toArray, List.getElem_cons_zero, List.getElem_cons_succ, List.setIfInBounds_toArray, List.set_cons_zero, List.set_cons_succ]
  refine wpAnyH_take (i := 9) (v := ?v9) rfl (by kernel_rfl) (by kernel_rfl) (by kernel_rfl) (fun _ _ _ h => h) (Or.inl ⟨by rfl, ?hy9⟩) (by assumption) ?rest9
  case hy9 => (intro W hSw; go_simp; first | done | with_reducible rfl)
  simp only [Act.put, List.getElem_toArray, List.getElem_cons_zero, List.getElem_cons_succ, List.setIfInBounds_toArray, List.set_cons_zero, List.set_cons_succ]
  refine wpAnyH_take (i := 10) (v := ?v10) rfl (by kernel_rfl) (by kernel_rfl) (by kernel_rfl) (fun _ _ _ h => h) (Or.inl ⟨by rfl, ?hy10⟩) (by assumption) ?rest10
  case hy10 => (intro W hSw; go_simp; first | done | with_reducible rfl)
  simp only [Act.put, List.getElem_toArray, List.getElem_cons_zero, List.getElem_cons_succ, List.setIfInBounds_toArray, List.set_cons_zero, List.set_cons_succ]
  refine wpAnyH_take (i := 11) (v := ?v11) rfl (by kernel_rfl) (by kernel_rfl) (by kernel_rfl) (fun _ _ _ h => h) (Or.inl ⟨by rfl, ?hy11⟩) (by assumption) ?rest11
  case hy11 => (intro W hSw; go_simp; first | done | with_reducible rfl)
  simp only [Act.put, List.getElem_toArray, List.getElem_cons_zero, List.getElem_cons_succ, List.setIfInBounds_toArray, List.set_cons_zero, List.set_cons_succ]
  refine wpAnyH_take (i := 12) (v := ?v12) rfl (by kernel_rfl) (by kernel_rfl) (by kernel_rfl) (fun _ _ _ h => h) (Or.inl ⟨by rfl, ?hy12⟩) (by assumption) ?rest12
  case hy12 => (intro W hSw; go_simp; first | done | with_reducible rfl)
  simp only [Act.put, List.getElem_toArray, List.getElem_cons_zero, List.getElem_cons_succ, List.setIfInBounds_toArray, List.set_cons_zero, List.set_cons_succ]
  refine wpAnyH_ready (rs := [13]) (by kernel_rfl) (by simp) ?_
  refine AllReadyH.cons (o := _) rfl (fun K hK => ?_) (AllReadyH.nil)
  simp only [List.getElem_toArray, List.getElem_cons_zero, List.getElem_cons_succ]
  go_simp
  rw [HARG.out]
  have HL3 := Lib.hid (HL2.out w2.drew F2 (HR2.out.1.below (Below.refl _ _).drew) HR2.out.2.drew)
  refine (HL3.out).mono ?_
  rintro e w3 ⟨F3, rfl, h1, h2⟩
  have h2' : MemStep F2 F3 w2 w3 := (MemStep.of_below ((Below.refl w2.heap.size w2).drew)).trans h2
  have K6 := Lib.hid (h2'.heap K4.out HN2.out.1)
  have K7 := Lib.hid (h2'.heap K5.out HN2.out.2)
  have HN3 := Lib.hid (And.intro (h2'.off (lt_heap K4.out) HN2.out.1) (h2'.off (lt_heap K5.out) HN2.out.2))
  have HR3 := Lib.hid (And.intro h1 (HR2.out.2.trans h2'))
  refine hK.out _ _ K6.out (fun hH1 => ?_)
  clear hK K hH0 h1 h2 h2' HL3 K4 K5 HN2 HR2 HL2 HARG
  try simp only [Act.put, List.setIfInBounds_toArray, List.set_cons_zero, List.set_cons_succ]
  refine wpAnyH_take (i := 14) (v := ?v14) rfl (by kernel_rfl) (by kernel_rfl) (by kernel_rfl) (fun _ _ _ h => h) (Or.inl ⟨by rfl, ?hy14⟩) (by assumption) ?rest14
  case hy14 => (intro W hSw; go_simp; first | done | with_reducible rfl)
  simp only [Act.put, List.getElem_toArray, List.getElem_cons_zero, List.getElem_cons_succ, List.setIfInBounds_toArray, List.set_cons_zero, List.set_cons_succ]
  refine wpAnyH_take (i := 15) (v := ?v15) rfl (by kernel_rfl) (by kernel_rfl) (by kernel_rfl) (fun _ _ _ h => h) (Or.inl ⟨by rfl, ?hy15⟩) (by assumption) ?rest15
  case hy15 => (intro W hSw; go_simp; first | done | with_reducible rfl)
  simp only [Act.put, List.getElem_toArray, List.getElem_cons_zero, List.getElem_cons_succ, List.setIfInBounds_toArray, List.set_cons_zero, List.set_cons_succ]
  refine wpAnyH_take (i := 16) (v := ?v16) rfl (by kernel_rfl) (by kernel_rfl) (by kernel_rfl) (fun _ _ _ h => h) (Or.inl ⟨by rfl, ?hy16⟩) (by assumption) ?rest16
  case hy16 => (intro W hSw; go_simp; first | done | with_reducible rfl)
  simp only [Act.put, List.getElem_toArray, List.getElem_cons_zero, List.getElem_cons_succ, List.setIfInBounds_toArray, List.set_cons_zero, List.set_cons_succ]
  refine wpAnyH_take (i := 17) (v := ?v17) rfl (by kernel_rfl) (by kernel_rfl) (by kernel_rfl) (fun _ _ _ h => h) (Or.inl ⟨by rfl, ?hy17⟩) (by assumption) ?rest17
  case hy17 => (intro W hSw; go_simp; first | done | with_reducible rfl)
  simp only [Act.put, List.getElem_toArray, List.getElem_cons_zero, List.getElem_cons_succ, List.setIfInBounds_toArray, List.set_cons_zero, List.set_cons_succ]
  refine wpAnyH_take (i := 18) (v := ?v18) rfl (by kernel_rfl) (by kernel_rfl) (by kernel_rfl) (fun _ _ _ h => h) (Or.inl ⟨by rfl, ?hy18⟩) (by assumption) ?rest18
  case hy18 => (intro W hSw; go_simp; first | done | with_reducible rfl)
  simp only [Act.put, List.getElem_toArray, List.getElem_cons_zero, List.getElem_cons_succ, List.setIfInBounds_toArray, List.set_cons_zero, List.set_cons_succ]
  refine wpAnyH_done (by kernel_rfl) ?_ _
  clear hH1
  have c0 := (cell_of_row _ _ 0 _ _ _ K6.out).trans (rfl : _ = some (.int .i64 size : Value))
  have HO := Lib.hid (show (#[.int .i64 0, .int .u32 0, .int .u32 0, .int .u32 0, .int .u16 0, .int .u16 0] : Array Value).all (·.oneCell') = true by simp [Value.oneCell'])
  go_wp2_with (first | go_skip | (refine wpList_store_to rfl 68 _ _ rfl (w.heap.size + 1) #[.int .i64 0, .int .u32 0, .int .u32 0, .int .u32 0, .int .u16 0, .int .u16 0] rfl rfl 68 #[.int .i64 0, .int .u32 0, .int .u32 0, .int .u32 0, .int .u16 0, .int .u16 0] K7.out (by kernel_rfl) rfl HO.out ?_))
  intro w20 hx hk
  have HRF := Lib.hid (And.intro (HR3.out.1.kx hx.out (fun k _ hf e => by subst e; exact HN3.out.2 hf)) (HR3.out.2.own hx.out (by omega)))
  go_wp2_with fail
  exact bodyPost_ret (v := .tuple #[.agg #[.int .i64 0, .int .u32 0, .int .u32 0, .int .u32 0, .int .u16 0, .int .u16 0], .int .i64 0, .bool false, .iface 104 (.int .i64 22)]) (results_cell_tmp3 Tryd.results78 _ _ (w.heap.size + 1) 68 #[.int .i64 0, .int .u32 0, .int .u32 0, .int .u32 0, .int .u16 0, .int .u16 0] (0, 0) _ rfl hk Tryd.underlying68 rfl (by kernel_rfl)) rfl ⟨F3, rfl, HRF.out.1, HRF.out.2⟩
end Go.Proofs.YtcmbnkmbaghkdaaDoor

/-
pinnaceref13.Next, walked: the next head of any ring in any memory, as the program tells it.
No condition.
-/
import Derived.Test.YtcmbnkmbaghkdaaDoorRef13C
import Derived.Test.YtcmbnkmbaghkdaaDoorRingNextA
import Derived.Test.YtcmbnkmbaghkdaaDoorTwoStores
import Derived.Test.YtcmbnkmbaghkdaaDoorVioRow
import Derived.Test.YtcmbnkmbaghkdaaDoorYieldsBuild
import Derived.Test.YtcmbnkmbaghkdaaDoorG5
namespace Go.Proofs.YtcmbnkmbaghkdaaDoor
open Go.RowKit
set_option linter.unusedVariables false

set_option maxRecDepth 100000 in
set_option maxHeartbeats 8000000 in
theorem ref13_Next_bad (size : Int) (de av us la pu : Nat) (rc : Array Value) (hrc : rc.size = 3) (w : World) (HC : Hid (∀ W, Calls Tryd.prog 84 #[.agg #[.int .i64 size, .int .u32 de, .int .u32 av, .int .u32 us, .int .u16 la, .int .u16 pu]] W fun e w' => e = .returned (.int .i64 1) ∧ Below W.heap.size W w')) :
    Calls Tryd.prog 48 #[.agg #[.int .i64 size, .int .u32 de, .int .u32 av, .int .u32 us, .int .u16 la, .int .u16 pu], .agg rc] w fun e w' => e = .returned (.tuple #[.agg #[.int .i64 0, .int .u32 0, .int .u32 0, .int .u32 0, .int .u16 0, .int .u16 0], .int .i64 0, .bool false, .int .i64 1]) ∧ Below w.heap.size w w' := by
  have HI := Lib.hid (show (Tryd.prog.info? 65).map (·.size) = some rc.size by rw [hrc]; kernel_rfl)
  clear hrc
  obtain ⟨k0, k1, k2, hb0⟩ := new3 w (.cells #[.int .i64 size, .int .u32 de, .int .u32 av, .int .u32 us, .int .u16 la, .int .u16 pu] 52) (.cells rc 65) (.cells #[.int .i64 0, .int .u32 0, .int .u32 0, .int .u32 0, .int .u16 0, .int .u16 0] 52)
  have K0a := Lib.hid k0
  have K1a := Lib.hid k1
  have K2a := Lib.hid k2
  have HB0a := Lib.hid hb0
  clear k0 k1 k2 hb0
  go_enter Tryd.func48, Tryd.ntmps48
  go_wp2_with (first | go_skip | (refine wpList_load_row rfl 52 _ rfl (w.heap.size) rfl 52 #[.int .i64 size, .int .u32 de, .int .u32 av, .int .u32 us, .int .u16 la, .int .u16 pu] (0, 0) _ K0a.out Tryd.underlying52 rfl (by kernel_rfl) ?_))
  refine (HC.out _).mono ?_
  rintro e w1 ⟨rfl, hb⟩
  have K2 := Lib.hid (keepB K0a.out hb)
  clear K0a
  have K3 := Lib.hid (keepB K1a.out hb)
  clear K1a
  have K4 := Lib.hid (keepB K2a.out hb)
  clear K2a
  have HB5 := Lib.hid (HB0a.out.trans (hb.mono HB0a.out.size))
  clear HB0a
  clear hb
  have HO6 := Lib.hid (show (#[.int .i64 0, .int .u32 0, .int .u32 0, .int .u32 0, .int .u16 0, .int .u16 0] : Array Value).all (·.oneCell') = true from by simp [Value.oneCell'])
  go_wp2_with (first | go_skip | (refine wpList_store_to rfl 52 _ _ rfl (w.heap.size + 1 + 1) #[.int .i64 0, .int .u32 0, .int .u32 0, .int .u32 0, .int .u16 0, .int .u16 0] rfl rfl 52 #[.int .i64 0, .int .u32 0, .int .u32 0, .int .u32 0, .int .u16 0, .int .u16 0] K4.out (by kernel_rfl) rfl HO6.out ?_))
  intro w7 hx8 hkk
  have K9 := Lib.hid (hx8.out.heap K2.out (by omega))
  clear K2
  have K10 := Lib.hid (hx8.out.heap K3.out (by omega))
  clear K3
  have K11 := Lib.hid hkk
  clear hkk K4
  have HB12 := Lib.hid (HB5.out.trans (hx8.out.below (B := w.heap.size) (fun k hk e => by omega) HB5.out.size))
  clear HB5 hx8
  go_wp2_with fail
  exact bodyPost_ret (v := .tuple #[.agg #[.int .i64 0, .int .u32 0, .int .u32 0, .int .u32 0, .int .u16 0, .int .u16 0], .int .i64 0, .bool false, .int .i64 1]) (results_cell_tmp3 Tryd.results48 _ _ (w.heap.size + 1 + 1) 52 #[.int .i64 0, .int .u32 0, .int .u32 0, .int .u32 0, .int .u16 0, .int .u16 0] (0, 0) _ rfl K11.out Tryd.underlying52 rfl (by kernel_rfl)) rfl ⟨rfl, HB12.out⟩
set_option maxRecDepth 100000 in
set_option maxHeartbeats 8000000 in
theorem ref13_Next_noload (size : Nat) (de av us la pu : Nat) (rc : Array Value) (hrc : rc.size = 3) (w : World) (HC : Hid (∀ W, Calls Tryd.prog 84 #[.agg #[.int .i64 size, .int .u32 de, .int .u32 av, .int .u32 us, .int .u16 la, .int .u16 pu]] W fun e w' => e = .returned (.int .i64 0) ∧ Below W.heap.size W w')) (HL1 : Hid (∀ W, Below w.heap.size w W → Calls Tryd.prog 85 #[.agg rc, .int .u32 (((av : Int) + 2) % 4294967296), .int .i64 2] W fun e w' => e = .returned (.tuple #[.int .u32 0, .bool false]) ∧ Below W.heap.size W w')) :
    Calls Tryd.prog 48 #[.agg #[.int .i64 size, .int .u32 de, .int .u32 av, .int .u32 us, .int .u16 la, .int .u16 pu], .agg rc] w fun e w' => e = .returned (.tuple #[.agg #[.int .i64 0, .int .u32 0, .int .u32 0, .int .u32 0, .int .u16 0, .int .u16 0], .int .i64 0, .bool false, .int .i64 22]) ∧ Below w.heap.size w w' := by
  have HI := Lib.hid (show (Tryd.prog.info? 65).map (·.size) = some rc.size by rw [hrc]; kernel_rfl)
  clear hrc
  obtain ⟨k0, k1, k2, hb0⟩ := new3 w (.cells #[.int .i64 size, .int .u32 de, .int .u32 av, .int .u32 us, .int .u16 la, .int .u16 pu] 52) (.cells rc 65) (.cells #[.int .i64 0, .int .u32 0, .int .u32 0, .int .u32 0, .int .u16 0, .int .u16 0] 52)
  have K0a := Lib.hid k0
  have K1a := Lib.hid k1
  have K2a := Lib.hid k2
  have HB0a := Lib.hid hb0
  clear k0 k1 k2 hb0
  go_enter Tryd.func48, Tryd.ntmps48
  go_wp2_with (first | go_skip | (refine wpList_load_row rfl 52 _ rfl (w.heap.size) rfl 52 #[.int .i64 size, .int .u32 de, .int .u32 av, .int .u32 us, .int .u16 la, .int .u16 pu] (0, 0) _ K0a.out Tryd.underlying52 rfl (by kernel_rfl) ?_))
  refine (HC.out _).mono ?_
  rintro e w1 ⟨rfl, hb⟩
  have K2 := Lib.hid (keepB K0a.out hb)
  clear K0a
  have K3 := Lib.hid (keepB K1a.out hb)
  clear K1a
  have K4 := Lib.hid (keepB K2a.out hb)
  clear K2a
  have HB5 := Lib.hid (HB0a.out.trans (hb.mono HB0a.out.size))
  clear HB0a
  clear hb
  have cf6 := (cell_of_row _ _ 2 _ _ _ K2.out).trans (rfl : _ = some (.int .u32 av : Value))
  go_wp2_with (first | go_skip | (refine wpList_load_row rfl 65 _ rfl (w.heap.size + 1) rfl 65 (rc) (0, 0) _ K3.out Tryd.underlying65 rfl HI.out ?_))
  refine (HL1.out _ HB5.out).mono ?_
  rintro e w7 ⟨rfl, hb⟩
  have K8 := Lib.hid (keepB K2.out hb)
  clear K2
  have K9 := Lib.hid (keepB K3.out hb)
  clear K3
  have K10 := Lib.hid (keepB K4.out hb)
  clear K4
  have HB11 := Lib.hid (HB5.out.trans (hb.mono HB5.out.size))
  clear HB5
  clear hb
  clear cf6
  have HO12 := Lib.hid (show (#[.int .i64 0, .int .u32 0, .int .u32 0, .int .u32 0, .int .u16 0, .int .u16 0] : Array Value).all (·.oneCell') = true from by simp [Value.oneCell'])
  go_wp2_with (first | go_skip | (refine wpList_store_to rfl 52 _ _ rfl (w.heap.size + 1 + 1) #[.int .i64 0, .int .u32 0, .int .u32 0, .int .u32 0, .int .u16 0, .int .u16 0] rfl rfl 52 #[.int .i64 0, .int .u32 0, .int .u32 0, .int .u32 0, .int .u16 0, .int .u16 0] K10.out (by kernel_rfl) rfl HO12.out ?_))
  intro w13 hx14 hkk
  have K15 := Lib.hid (hx14.out.heap K8.out (by omega))
  clear K8
  have K16 := Lib.hid (hx14.out.heap K9.out (by omega))
  clear K9
  have K17 := Lib.hid hkk
  clear hkk K10
  have HB18 := Lib.hid (HB11.out.trans (hx14.out.below (B := w.heap.size) (fun k hk e => by omega) HB11.out.size))
  clear HB11 hx14
  go_wp2_with fail
  exact bodyPost_ret (v := .tuple #[.agg #[.int .i64 0, .int .u32 0, .int .u32 0, .int .u32 0, .int .u16 0, .int .u16 0], .int .i64 0, .bool false, .int .i64 22]) (results_cell_tmp3 Tryd.results48 _ _ (w.heap.size + 1 + 1) 52 #[.int .i64 0, .int .u32 0, .int .u32 0, .int .u32 0, .int .u16 0, .int .u16 0] (0, 0) _ rfl K17.out Tryd.underlying52 rfl (by kernel_rfl)) rfl ⟨rfl, HB18.out⟩
set_option maxRecDepth 100000 in
set_option maxHeartbeats 8000000 in
theorem ref13_Next_none (size : Nat) (de av us la pu : Nat) (rc : Array Value) (hrc : rc.size = 3) (w : World) (c dd : Nat) (HC : Hid (∀ W, Calls Tryd.prog 84 #[.agg #[.int .i64 size, .int .u32 de, .int .u32 av, .int .u32 us, .int .u16 la, .int .u16 pu]] W fun e w' => e = .returned (.int .i64 0) ∧ Below W.heap.size W w')) (HL1 : Hid (∀ W, Below w.heap.size w W → Calls Tryd.prog 85 #[.agg rc, .int .u32 (((av : Int) + 2) % 4294967296), .int .i64 2] W fun e w' => e = .returned (.tuple #[.int .u32 c, .bool true]) ∧ Below W.heap.size W w')) (hla : la < 65536) (hc : c < 65536) (hdd : ((c : Int) - (la : Int) + 65536) % 65536 = (dd : Int)) (h0 : dd = 0) :
    Calls Tryd.prog 48 #[.agg #[.int .i64 size, .int .u32 de, .int .u32 av, .int .u32 us, .int .u16 la, .int .u16 pu], .agg rc] w fun e w' => e = .returned (.tuple #[.agg #[.int .i64 size, .int .u32 de, .int .u32 av, .int .u32 us, .int .u16 la, .int .u16 pu], .int .i64 0, .bool false, .int .i64 0]) ∧ Below w.heap.size w w' := by
  have HI := Lib.hid (show (Tryd.prog.info? 65).map (·.size) = some rc.size by rw [hrc]; kernel_rfl)
  clear hrc
  have hla0 : (0 : Int) ≤ (la : Int) := by omega
  have hc0 : (0 : Int) ≤ (c : Int) := by omega
  have hah : (IntKind.i64.wrap (IntKind.i64.wrap ((c : Int) - (la : Int)) + 65536)).tmod 65536 = (dd : Int) := by simp only [IntKind.wrap_i64]; rw [Int.tmod_eq_emod_of_nonneg (by omega)]; omega
  have hah2 : wrap64 ((wrap64 (wrap64 ((c : Int) - (la : Int)) + 65536)).tmod 65536) = (dd : Int) := by unfold wrap64; rw [Int.tmod_eq_emod_of_nonneg (by omega)]; omega
  have hah3 : ((c : Int) - (la : Int) + 65536).tmod 65536 = (dd : Int) := by rw [Int.tmod_eq_emod_of_nonneg (by omega)]; omega
  have hcb : (c : Int) < 65536 := by omega
  have hlb : (la : Int) < 65536 := by omega
  have hdd0 : (0 : Int) ≤ (dd : Int) := by omega
  have hdd1 : (dd : Int) < 65536 := by omega
  clear hdd hla hc
  have hd0 : ((dd : Int) == 0) = true := by simp; omega
  clear h0
  obtain ⟨k0, k1, k2, hb0⟩ := new3 w (.cells #[.int .i64 size, .int .u32 de, .int .u32 av, .int .u32 us, .int .u16 la, .int .u16 pu] 52) (.cells rc 65) (.cells #[.int .i64 0, .int .u32 0, .int .u32 0, .int .u32 0, .int .u16 0, .int .u16 0] 52)
  have K0a := Lib.hid k0
  have K1a := Lib.hid k1
  have K2a := Lib.hid k2
  have HB0a := Lib.hid hb0
  clear k0 k1 k2 hb0
  go_enter Tryd.func48, Tryd.ntmps48
  go_wp2_with (first | go_skip | (refine wpList_load_row rfl 52 _ rfl (w.heap.size) rfl 52 #[.int .i64 size, .int .u32 de, .int .u32 av, .int .u32 us, .int .u16 la, .int .u16 pu] (0, 0) _ K0a.out Tryd.underlying52 rfl (by kernel_rfl) ?_))
  refine (HC.out _).mono ?_
  rintro e w1 ⟨rfl, hb⟩
  have K2 := Lib.hid (keepB K0a.out hb)
  clear K0a
  have K3 := Lib.hid (keepB K1a.out hb)
  clear K1a
  have K4 := Lib.hid (keepB K2a.out hb)
  clear K2a
  have HB5 := Lib.hid (HB0a.out.trans (hb.mono HB0a.out.size))
  clear HB0a
  clear hb
  have cf6 := (cell_of_row _ _ 2 _ _ _ K2.out).trans (rfl : _ = some (.int .u32 av : Value))
  go_wp2_with (first | go_skip | (refine wpList_load_row rfl 65 _ rfl (w.heap.size + 1) rfl 65 (rc) (0, 0) _ K3.out Tryd.underlying65 rfl HI.out ?_))
  refine (HL1.out _ HB5.out).mono ?_
  rintro e w7 ⟨rfl, hb⟩
  have K8 := Lib.hid (keepB K2.out hb)
  clear K2
  have K9 := Lib.hid (keepB K3.out hb)
  clear K3
  have K10 := Lib.hid (keepB K4.out hb)
  clear K4
  have HB11 := Lib.hid (HB5.out.trans (hb.mono HB5.out.size))
  clear HB5
  clear hb
  clear cf6
  have cf12 := (cell_of_row _ _ 4 _ _ _ K8.out).trans (rfl : _ = some (.int .u16 la : Value))
  have cf13 := (cell_of_row _ _ 0 _ _ _ K8.out).trans (rfl : _ = some (.int .i64 size : Value))
  have HO14 := Lib.hid (show (#[.int .i64 size, .int .u32 de, .int .u32 av, .int .u32 us, .int .u16 la, .int .u16 pu] : Array Value).all (·.oneCell') = true from by simp [Value.oneCell'])
  go_wp2_with (first | go_skip | (refine wpList_load_row rfl 52 _ rfl (w.heap.size) rfl 52 #[.int .i64 size, .int .u32 de, .int .u32 av, .int .u32 us, .int .u16 la, .int .u16 pu] (0, 0) _ K8.out Tryd.underlying52 rfl (by kernel_rfl) ?_) | (refine wpList_store_to rfl 52 _ _ rfl (w.heap.size + 1 + 1) #[.int .i64 size, .int .u32 de, .int .u32 av, .int .u32 us, .int .u16 la, .int .u16 pu] rfl rfl 52 #[.int .i64 0, .int .u32 0, .int .u32 0, .int .u32 0, .int .u16 0, .int .u16 0] K10.out (by kernel_rfl) rfl HO14.out ?_))
  intro w15 hx16 hkk
  clear cf12 cf13
  have K17 := Lib.hid (hx16.out.heap K8.out (by omega))
  clear K8
  have K18 := Lib.hid (hx16.out.heap K9.out (by omega))
  clear K9
  have K19 := Lib.hid hkk
  clear hkk K10
  have HB20 := Lib.hid (HB11.out.trans (hx16.out.below (B := w.heap.size) (fun k hk e => by omega) HB11.out.size))
  clear HB11 hx16
  go_wp2_with fail
  exact bodyPost_ret (v := .tuple #[.agg #[.int .i64 size, .int .u32 de, .int .u32 av, .int .u32 us, .int .u16 la, .int .u16 pu], .int .i64 0, .bool false, .int .i64 0]) (results_cell_tmp3 Tryd.results48 _ _ (w.heap.size + 1 + 1) 52 #[.int .i64 size, .int .u32 de, .int .u32 av, .int .u32 us, .int .u16 la, .int .u16 pu] (0, 0) _ rfl K19.out Tryd.underlying52 rfl (by kernel_rfl)) rfl ⟨rfl, HB20.out⟩
set_option maxRecDepth 100000 in
set_option maxHeartbeats 8000000 in
theorem ref13_Next_far (size : Nat) (de av us la pu : Nat) (rc : Array Value) (hrc : rc.size = 3) (w : World) (c dd : Nat) (HC : Hid (∀ W, Calls Tryd.prog 84 #[.agg #[.int .i64 size, .int .u32 de, .int .u32 av, .int .u32 us, .int .u16 la, .int .u16 pu]] W fun e w' => e = .returned (.int .i64 0) ∧ Below W.heap.size W w')) (HL1 : Hid (∀ W, Below w.heap.size w W → Calls Tryd.prog 85 #[.agg rc, .int .u32 (((av : Int) + 2) % 4294967296), .int .i64 2] W fun e w' => e = .returned (.tuple #[.int .u32 c, .bool true]) ∧ Below W.heap.size W w')) (hla : la < 65536) (hc : c < 65536) (hdd : ((c : Int) - (la : Int) + 65536) % 65536 = (dd : Int)) (h0 : ¬ dd = 0) (hs1 : 1 ≤ size) (hs2 : size ≤ 256) (a2 : Int) (HARG : Hid (IntKind.u32.wrap (IntKind.u32.wrap ((av : Int) + 4) + IntKind.u32.wrap (2 * IntKind.u32.wrap ((IntKind.i64.wrap (la : Int)).tmod (size : Int)))) = a2)) (x : Nat) (y : Bool) (HL2 : Hid (∀ W, Below w.heap.size w W → Calls Tryd.prog 85 #[.agg rc, .int .u32 a2, .int .i64 2] W fun e w' => e = .returned (.tuple #[.int .u32 x, .bool y]) ∧ Below W.heap.size W w')) (hfar : size < dd) :
    Calls Tryd.prog 48 #[.agg #[.int .i64 size, .int .u32 de, .int .u32 av, .int .u32 us, .int .u16 la, .int .u16 pu], .agg rc] w fun e w' => e = .returned (.tuple #[.agg #[.int .i64 0, .int .u32 0, .int .u32 0, .int .u32 0, .int .u16 0, .int .u16 0], .int .i64 0, .bool false, .int .i64 22]) ∧ Below w.heap.size w w' := by
  have HI := Lib.hid (show (Tryd.prog.info? 65).map (·.size) = some rc.size by rw [hrc]; kernel_rfl)
  clear hrc
  have hla0 : (0 : Int) ≤ (la : Int) := by omega
  have hc0 : (0 : Int) ≤ (c : Int) := by omega
  have hah : (IntKind.i64.wrap (IntKind.i64.wrap ((c : Int) - (la : Int)) + 65536)).tmod 65536 = (dd : Int) := by simp only [IntKind.wrap_i64]; rw [Int.tmod_eq_emod_of_nonneg (by omega)]; omega
  have hah2 : wrap64 ((wrap64 (wrap64 ((c : Int) - (la : Int)) + 65536)).tmod 65536) = (dd : Int) := by unfold wrap64; rw [Int.tmod_eq_emod_of_nonneg (by omega)]; omega
  have hah3 : ((c : Int) - (la : Int) + 65536).tmod 65536 = (dd : Int) := by rw [Int.tmod_eq_emod_of_nonneg (by omega)]; omega
  have hcb : (c : Int) < 65536 := by omega
  have hlb : (la : Int) < 65536 := by omega
  have hdd0 : (0 : Int) ≤ (dd : Int) := by omega
  have hdd1 : (dd : Int) < 65536 := by omega
  clear hdd hla hc
  have hd0 : ((dd : Int) == 0) = false := by simp; omega
  have hsz1 : (1 : Int) ≤ (size : Int) := by omega
  have hsz2 : (size : Int) ≤ 256 := by omega
  have hsz0 : ¬ size = 0 := by omega
  have hsz3 : ¬ (size : Int) = 0 := by omega
  have hf : decide ((size : Int) < (dd : Int)) = true := by simp; omega
  have hfN : decide (size < dd) = true := by simp; omega
  clear hfar h0 hs1 hs2
  obtain ⟨k0, k1, k2, hb0⟩ := new3 w (.cells #[.int .i64 size, .int .u32 de, .int .u32 av, .int .u32 us, .int .u16 la, .int .u16 pu] 52) (.cells rc 65) (.cells #[.int .i64 0, .int .u32 0, .int .u32 0, .int .u32 0, .int .u16 0, .int .u16 0] 52)
  have K0a := Lib.hid k0
  have K1a := Lib.hid k1
  have K2a := Lib.hid k2
  have HB0a := Lib.hid hb0
  clear k0 k1 k2 hb0
  go_enter Tryd.func48, Tryd.ntmps48
  go_wp2_with (first | go_skip | (refine wpList_load_row rfl 52 _ rfl (w.heap.size) rfl 52 #[.int .i64 size, .int .u32 de, .int .u32 av, .int .u32 us, .int .u16 la, .int .u16 pu] (0, 0) _ K0a.out Tryd.underlying52 rfl (by kernel_rfl) ?_))
  refine (HC.out _).mono ?_
  rintro e w1 ⟨rfl, hb⟩
  have K2 := Lib.hid (keepB K0a.out hb)
  clear K0a
  have K3 := Lib.hid (keepB K1a.out hb)
  clear K1a
  have K4 := Lib.hid (keepB K2a.out hb)
  clear K2a
  have HB5 := Lib.hid (HB0a.out.trans (hb.mono HB0a.out.size))
  clear HB0a
  clear hb
  have cf6 := (cell_of_row _ _ 2 _ _ _ K2.out).trans (rfl : _ = some (.int .u32 av : Value))
  go_wp2_with (first | go_skip | (refine wpList_load_row rfl 65 _ rfl (w.heap.size + 1) rfl 65 (rc) (0, 0) _ K3.out Tryd.underlying65 rfl HI.out ?_))
  refine (HL1.out _ HB5.out).mono ?_
  rintro e w7 ⟨rfl, hb⟩
  have K8 := Lib.hid (keepB K2.out hb)
  clear K2
  have K9 := Lib.hid (keepB K3.out hb)
  clear K3
  have K10 := Lib.hid (keepB K4.out hb)
  clear K4
  have HB11 := Lib.hid (HB5.out.trans (hb.mono HB5.out.size))
  clear HB5
  clear hb
  clear cf6
  have cf12 := (cell_of_row _ _ 4 _ _ _ K8.out).trans (rfl : _ = some (.int .u16 la : Value))
  have cf13 := (cell_of_row _ _ 0 _ _ _ K8.out).trans (rfl : _ = some (.int .i64 size : Value))
  go_upto_region 9 with fail
  clear cf12 cf13
  refine wp_region_held_drew (S := fun W => KX (fun _ => False) (w7) W) (by kernel_rfl) ((KX.refl (fun _ => False) _).drew) (fun hHeld => ?_)
  refine wpAnyH_take (i := 0) rfl (by kernel_rfl) (by kernel_rfl) (by kernel_rfl) (fun _ _ _ h => h) (yieldsIf_load_mid (by rfl) 65 _ rfl (w.heap.size + 1) 0 rfl (rc).toList _ (fun W hSw => range_of_all (hSw.heap K9.out id)) Tryd.underlying65 rfl ?hi0) (by assumption) ?rest0
  case hi0 => exact HI.out
  simp only [Act.put, List.getElem_toArray, List.getElem_cons_zero, List.setIfInBounds_toArray, List.set_cons_zero, List.set_cons_succ]
  refine wpAnyH_take (i := 1) (v := ?v1) rfl (by kernel_rfl) (by kernel_rfl) (by kernel_rfl) (fun _ _ _ h => h) (Or.inl ⟨by rfl, ?hy1⟩) (by assumption) ?rest1
  case hy1 => (intro W hSw; go_simp; first | done | with_reducible rfl)
  simp only [Act.put, List.getElem_toArray, List.getElem_cons_zero, List.getElem_cons_succ, List.setIfInBounds_toArray, List.set_cons_zero, List.set_cons_succ]
  refine wpAnyH_take (i := 2) (v := ?v2) rfl (by kernel_rfl) (by kernel_rfl) (by kernel_rfl) (fun _ _ _ h => h) (Or.inl ⟨by rfl, ?hy2⟩) (by assumption) ?rest2
  case hy2 => (intro W hSw; have cj := (cell_of_row _ _ 2 _ _ _ (hSw.heap K8.out id)).trans (rfl : _ = some (.int .u32 av : Value)); go_simp; first | done | with_reducible rfl)
  simp only [Act.put, List.getElem_toArray, List.getElem_cons_zero, List.getElem_cons_succ, List.setIfInBounds_toArray, List.set_cons_zero, List.set_cons_succ]
  refine wpAnyH_take (i := 3) (v := ?v3) rfl (by kernel_rfl) (by kernel_rfl) (by kernel_rfl) (fun _ _ _ h => h) (Or.inl ⟨by rfl, ?hy3⟩) (by assumption) ?rest3
  case hy3 => (intro W hSw; go_simp; first | done | with_reducible rfl)
  simp only [Act.put, List.getElem_toArray, List.getElem_cons_zero, List.getElem_cons_succ, List.setIfInBounds_toArray, List.set_cons_zero, List.set_cons_succ]
  refine wpAnyH_take (i := 4) (v := ?v4) rfl (by kernel_rfl) (by kernel_rfl) (by kernel_rfl) (fun _ _ _ h => h) (Or.inl ⟨by rfl, ?hy4⟩) (by assumption) ?rest4
  case hy4 => (intro W hSw; go_simp; first | done | with_reducible rfl)
  simp only [Act.put, List.getElem_toArray, List.getElem_cons_zero, List.getElem_cons_succ, List.setIfInBounds_toArray, List.set_cons_zero, List.set_cons_succ]
  refine wpAnyH_take (i := 5) (v := ?v5) rfl (by kernel_rfl) (by kernel_rfl) (by kernel_rfl) (fun _ _ _ h => h) (Or.inl ⟨by rfl, ?hy5⟩) (by assumption) ?rest5
  case hy5 => (intro W hSw; have cj := (cell_of_row _ _ 4 _ _ _ (hSw.heap K8.out id)).trans (rfl : _ = some (.int .u16 la : Value)); go_simp; first | done | with_reducible rfl)
  simp only [Act.put, List.getElem_toArray, List.getElem_cons_zero, List.getElem_cons_succ, List.setIfInBounds_toArray, List.set_cons_zero, List.set_cons_succ]
  refine wpAnyH_take (i := 6) (v := ?v6) rfl (by kernel_rfl) (by kernel_rfl) (by kernel_rfl) (fun _ _ _ h => h) (Or.inl ⟨by rfl, ?hy6⟩) (by assumption) ?rest6
  case hy6 => (intro W hSw; go_simp; first | done | with_reducible rfl)
  simp only [Act.put, List.getElem_toArray, List.getElem_cons_zero, List.getElem_cons_succ, List.setIfInBounds_toArray, List.set_cons_zero, List.set_cons_succ]
  refine wpAnyH_take (i := 7) (v := ?v7) rfl (by kernel_rfl) (by kernel_rfl) (by kernel_rfl) (fun _ _ _ h => h) (Or.inl ⟨by rfl, ?hy7⟩) (by assumption) ?rest7
  case hy7 => (intro W hSw; go_simp; first | done | with_reducible rfl)
  simp only [Act.put, List.getElem_toArray, List.getElem_cons_zero, List.getElem_cons_succ, List.setIfInBounds_toArray, List.set_cons_zero, List.set_cons_succ]
  refine wpAnyH_take (i := 8) (v := ?v8) rfl (by kernel_rfl) (by kernel_rfl) (by kernel_rfl) (fun _ _ _ h => h) (Or.inl ⟨by rfl, ?hy8⟩) (by assumption) ?rest8
  case hy8 => (intro W hSw; have cj := (cell_of_row _ _ 0 _ _ _ (hSw.heap K8.out id)).trans (rfl : _ = some (.int .i64 size : Value)); go_simp; first | done | with_reducible rfl)
  simp only [Act.put, List.getElem_toArray, List.getElem_cons_zero, List.getElem_cons_succ, List.setIfInBounds_toArray, List.set_cons_zero, List.set_cons_succ]
  refine wpAnyH_take (i := 9) (v := ?v9) rfl (by kernel_rfl) (by kernel_rfl) (by kernel_rfl) (fun _ _ _ h => h) (Or.inl ⟨by rfl, ?hy9⟩) (by assumption) ?rest9
  case hy9 => (intro W hSw; go_simp; first | done | with_reducible rfl)
  simp only [Act.put, List.getElem_toArray, List.getElem_cons_zero, List.getElem_cons_succ, List.setIfInBounds_toArray, List.set_cons_zero, List.set_cons_succ]
  refine wpAnyH_take (i := 10) (v := ?v10) rfl (by kernel_rfl) (by kernel_rfl) (by kernel_rfl) (fun _ _ _ h => h) (Or.inl ⟨by rfl, ?hy10⟩) (by assumption) ?rest10
  case hy10 => (intro W hSw; go_simp; first | done | with_reducible rfl)
  simp only [Act.put, List.getElem_toArray, List.getElem_cons_zero, List.getElem_cons_succ, List.setIfInBounds_toArray, List.set_cons_zero, List.set_cons_succ]
  refine wpAnyH_take (i := 11) (v := ?v11) rfl (by kernel_rfl) (by kernel_rfl) (by kernel_rfl) (fun _ _ _ h => h) (Or.inl ⟨by rfl, ?hy11⟩) (by assumption) ?rest11
  case hy11 => (intro W hSw; go_simp; first | done | with_reducible rfl)
  simp only [Act.put, List.getElem_toArray, List.getElem_cons_zero, List.getElem_cons_succ, List.setIfInBounds_toArray, List.set_cons_zero, List.set_cons_succ]
  refine wpAnyH_take (i := 12) (v := ?v12) rfl (by kernel_rfl) (by kernel_rfl) (by kernel_rfl) (fun _ _ _ h => h) (Or.inl ⟨by rfl, ?hy12⟩) (by assumption) ?rest12
  case hy12 => (intro W hSw; have harg := HARG.out; go_simp; first | done | with_reducible rfl)
  simp only [Act.put, List.getElem_toArray, List.getElem_cons_zero, List.getElem_cons_succ, List.setIfInBounds_toArray, List.set_cons_zero, List.set_cons_succ]
  refine wpAnyH_ready (rs := [13]) (by kernel_rfl) (by simp) ?_
  refine AllReadyH.cons (o := _) rfl (fun K hK => ?_) (AllReadyH.nil)
  simp only [List.getElem_toArray, List.getElem_cons_zero, List.getElem_cons_succ]
  go_simp
  refine (HL2.out _ HB11.out.drew).mono ?_
  rintro e w14 ⟨rfl, hb⟩
  refine hK.out _ _ (hHeld.trans (KX.of_below (X := (fun _ => False)) hb) (fun _ _ h => h)) (fun hHeld15 => ?_)
  clear hK K
  have K16 := Lib.hid (keepB (a := (w7).drew) K8.out hb)
  have K17 := Lib.hid (keepB (a := (w7).drew) K9.out hb)
  have K18 := Lib.hid (keepB (a := (w7).drew) K10.out hb)
  have HB19 := Lib.hid ((HB11.out.drew).trans (hb.mono (HB11.out.drew).size))
  clear HB11
  clear hb
  refine wpAnyH_take (i := 14) (v := ?v14) rfl (by kernel_rfl) (by kernel_rfl) (by kernel_rfl) (fun _ _ _ h => h) (Or.inl ⟨by rfl, ?hy14⟩) (by assumption) ?rest14
  case hy14 => (intro W hSw; go_simp; first | done | with_reducible rfl)
  simp only [Act.put, List.getElem_toArray, List.getElem_cons_zero, List.getElem_cons_succ, List.setIfInBounds_toArray, List.set_cons_zero, List.set_cons_succ]
  refine wpAnyH_take (i := 15) (v := ?v15) rfl (by kernel_rfl) (by kernel_rfl) (by kernel_rfl) (fun _ _ _ h => h) (Or.inl ⟨by rfl, ?hy15⟩) (by assumption) ?rest15
  case hy15 => (intro W hSw; go_simp; first | done | with_reducible rfl)
  simp only [Act.put, List.getElem_toArray, List.getElem_cons_zero, List.getElem_cons_succ, List.setIfInBounds_toArray, List.set_cons_zero, List.set_cons_succ]
  refine wpAnyH_take (i := 16) (v := ?v16) rfl (by kernel_rfl) (by kernel_rfl) (by kernel_rfl) (fun _ _ _ h => h) (Or.inl ⟨by rfl, ?hy16⟩) (by assumption) ?rest16
  case hy16 => (intro W hSw; go_simp; first | done | with_reducible rfl)
  simp only [Act.put, List.getElem_toArray, List.getElem_cons_zero, List.getElem_cons_succ, List.setIfInBounds_toArray, List.set_cons_zero, List.set_cons_succ]
  refine wpAnyH_take (i := 17) (v := ?v17) rfl (by kernel_rfl) (by kernel_rfl) (by kernel_rfl) (fun _ _ _ h => h) (Or.inl ⟨by rfl, ?hy17⟩) (by assumption) ?rest17
  case hy17 => (intro W hSw; go_simp; first | done | with_reducible rfl)
  simp only [Act.put, List.getElem_toArray, List.getElem_cons_zero, List.getElem_cons_succ, List.setIfInBounds_toArray, List.set_cons_zero, List.set_cons_succ]
  refine wpAnyH_take (i := 18) (v := ?v18) rfl (by kernel_rfl) (by kernel_rfl) (by kernel_rfl) (fun _ _ _ h => h) (Or.inl ⟨by rfl, ?hy18⟩) (by assumption) ?rest18
  case hy18 => (intro W hSw; go_simp; first | done | with_reducible rfl)
  simp only [Act.put, List.getElem_toArray, List.getElem_cons_zero, List.getElem_cons_succ, List.setIfInBounds_toArray, List.set_cons_zero, List.set_cons_succ]
  refine wpAnyH_done (by kernel_rfl) ?_ _
  clear hHeld15
  have cf20 := (cell_of_row _ _ 4 _ _ _ K16.out).trans (rfl : _ = some (.int .u16 la : Value))
  have cf21 := (cell_of_row _ _ 0 _ _ _ K16.out).trans (rfl : _ = some (.int .i64 size : Value))
  have HO22 := Lib.hid (show (#[.int .i64 0, .int .u32 0, .int .u32 0, .int .u32 0, .int .u16 0, .int .u16 0] : Array Value).all (·.oneCell') = true from by simp [Value.oneCell'])
  go_wp2_with (first | go_skip | (refine wpList_store_to rfl 52 _ _ rfl (w.heap.size + 1 + 1) #[.int .i64 0, .int .u32 0, .int .u32 0, .int .u32 0, .int .u16 0, .int .u16 0] rfl rfl 52 #[.int .i64 0, .int .u32 0, .int .u32 0, .int .u32 0, .int .u16 0, .int .u16 0] K18.out (by kernel_rfl) rfl HO22.out ?_))
  intro w23 hx24 hkk
  clear cf20 cf21
  have K25 := Lib.hid (hx24.out.heap K16.out (by omega))
  clear K16
  have K26 := Lib.hid (hx24.out.heap K17.out (by omega))
  clear K17
  have K27 := Lib.hid hkk
  clear hkk K18
  have HB28 := Lib.hid (HB19.out.trans (hx24.out.below (B := w.heap.size) (fun k hk e => by omega) HB19.out.size))
  clear HB19 hx24
  go_wp2_with fail
  exact bodyPost_ret (v := .tuple #[.agg #[.int .i64 0, .int .u32 0, .int .u32 0, .int .u32 0, .int .u16 0, .int .u16 0], .int .i64 0, .bool false, .int .i64 22]) (results_cell_tmp3 Tryd.results48 _ _ (w.heap.size + 1 + 1) 52 #[.int .i64 0, .int .u32 0, .int .u32 0, .int .u32 0, .int .u16 0, .int .u16 0] (0, 0) _ rfl K27.out Tryd.underlying52 rfl (by kernel_rfl)) rfl ⟨rfl, HB28.out⟩
set_option maxRecDepth 100000 in
set_option maxHeartbeats 8000000 in
theorem ref13_Next_noload2 (size : Nat) (de av us la pu : Nat) (rc : Array Value) (hrc : rc.size = 3) (w : World) (c dd : Nat) (HC : Hid (∀ W, Calls Tryd.prog 84 #[.agg #[.int .i64 size, .int .u32 de, .int .u32 av, .int .u32 us, .int .u16 la, .int .u16 pu]] W fun e w' => e = .returned (.int .i64 0) ∧ Below W.heap.size W w')) (HL1 : Hid (∀ W, Below w.heap.size w W → Calls Tryd.prog 85 #[.agg rc, .int .u32 (((av : Int) + 2) % 4294967296), .int .i64 2] W fun e w' => e = .returned (.tuple #[.int .u32 c, .bool true]) ∧ Below W.heap.size W w')) (hla : la < 65536) (hc : c < 65536) (hdd : ((c : Int) - (la : Int) + 65536) % 65536 = (dd : Int)) (h0 : ¬ dd = 0) (hs1 : 1 ≤ size) (hs2 : size ≤ 256) (a2 : Int) (HARG : Hid (IntKind.u32.wrap (IntKind.u32.wrap ((av : Int) + 4) + IntKind.u32.wrap (2 * IntKind.u32.wrap ((IntKind.i64.wrap (la : Int)).tmod (size : Int)))) = a2)) (HL2 : Hid (∀ W, Below w.heap.size w W → Calls Tryd.prog 85 #[.agg rc, .int .u32 a2, .int .i64 2] W fun e w' => e = .returned (.tuple #[.int .u32 0, .bool false]) ∧ Below W.heap.size W w')) (hfar : ¬ size < dd) :
    Calls Tryd.prog 48 #[.agg #[.int .i64 size, .int .u32 de, .int .u32 av, .int .u32 us, .int .u16 la, .int .u16 pu], .agg rc] w fun e w' => e = .returned (.tuple #[.agg #[.int .i64 0, .int .u32 0, .int .u32 0, .int .u32 0, .int .u16 0, .int .u16 0], .int .i64 0, .bool false, .int .i64 22]) ∧ Below w.heap.size w w' := by
  have HI := Lib.hid (show (Tryd.prog.info? 65).map (·.size) = some rc.size by rw [hrc]; kernel_rfl)
  clear hrc
  have hla0 : (0 : Int) ≤ (la : Int) := by omega
  have hc0 : (0 : Int) ≤ (c : Int) := by omega
  have hah : (IntKind.i64.wrap (IntKind.i64.wrap ((c : Int) - (la : Int)) + 65536)).tmod 65536 = (dd : Int) := by simp only [IntKind.wrap_i64]; rw [Int.tmod_eq_emod_of_nonneg (by omega)]; omega
  have hah2 : wrap64 ((wrap64 (wrap64 ((c : Int) - (la : Int)) + 65536)).tmod 65536) = (dd : Int) := by unfold wrap64; rw [Int.tmod_eq_emod_of_nonneg (by omega)]; omega
  have hah3 : ((c : Int) - (la : Int) + 65536).tmod 65536 = (dd : Int) := by rw [Int.tmod_eq_emod_of_nonneg (by omega)]; omega
  have hcb : (c : Int) < 65536 := by omega
  have hlb : (la : Int) < 65536 := by omega
  have hdd0 : (0 : Int) ≤ (dd : Int) := by omega
  have hdd1 : (dd : Int) < 65536 := by omega
  clear hdd hla hc
  have hd0 : ((dd : Int) == 0) = false := by simp; omega
  have hsz1 : (1 : Int) ≤ (size : Int) := by omega
  have hsz2 : (size : Int) ≤ 256 := by omega
  have hsz0 : ¬ size = 0 := by omega
  have hsz3 : ¬ (size : Int) = 0 := by omega
  have hf : decide ((size : Int) < (dd : Int)) = false := by simp; omega
  have hfN : decide (size < dd) = false := by simp; omega
  clear hfar h0 hs1 hs2
  obtain ⟨k0, k1, k2, hb0⟩ := new3 w (.cells #[.int .i64 size, .int .u32 de, .int .u32 av, .int .u32 us, .int .u16 la, .int .u16 pu] 52) (.cells rc 65) (.cells #[.int .i64 0, .int .u32 0, .int .u32 0, .int .u32 0, .int .u16 0, .int .u16 0] 52)
  have K0a := Lib.hid k0
  have K1a := Lib.hid k1
  have K2a := Lib.hid k2
  have HB0a := Lib.hid hb0
  clear k0 k1 k2 hb0
  go_enter Tryd.func48, Tryd.ntmps48
  go_wp2_with (first | go_skip | (refine wpList_load_row rfl 52 _ rfl (w.heap.size) rfl 52 #[.int .i64 size, .int .u32 de, .int .u32 av, .int .u32 us, .int .u16 la, .int .u16 pu] (0, 0) _ K0a.out Tryd.underlying52 rfl (by kernel_rfl) ?_))
  refine (HC.out _).mono ?_
  rintro e w1 ⟨rfl, hb⟩
  have K2 := Lib.hid (keepB K0a.out hb)
  clear K0a
  have K3 := Lib.hid (keepB K1a.out hb)
  clear K1a
  have K4 := Lib.hid (keepB K2a.out hb)
  clear K2a
  have HB5 := Lib.hid (HB0a.out.trans (hb.mono HB0a.out.size))
  clear HB0a
  clear hb
  have cf6 := (cell_of_row _ _ 2 _ _ _ K2.out).trans (rfl : _ = some (.int .u32 av : Value))
  go_wp2_with (first | go_skip | (refine wpList_load_row rfl 65 _ rfl (w.heap.size + 1) rfl 65 (rc) (0, 0) _ K3.out Tryd.underlying65 rfl HI.out ?_))
  refine (HL1.out _ HB5.out).mono ?_
  rintro e w7 ⟨rfl, hb⟩
  have K8 := Lib.hid (keepB K2.out hb)
  clear K2
  have K9 := Lib.hid (keepB K3.out hb)
  clear K3
  have K10 := Lib.hid (keepB K4.out hb)
  clear K4
  have HB11 := Lib.hid (HB5.out.trans (hb.mono HB5.out.size))
  clear HB5
  clear hb
  clear cf6
  have cf12 := (cell_of_row _ _ 4 _ _ _ K8.out).trans (rfl : _ = some (.int .u16 la : Value))
  have cf13 := (cell_of_row _ _ 0 _ _ _ K8.out).trans (rfl : _ = some (.int .i64 size : Value))
  go_upto_region 9 with fail
  clear cf12 cf13
  refine wp_region_held_drew (S := fun W => KX (fun _ => False) (w7) W) (by kernel_rfl) ((KX.refl (fun _ => False) _).drew) (fun hHeld => ?_)
  refine wpAnyH_take (i := 0) rfl (by kernel_rfl) (by kernel_rfl) (by kernel_rfl) (fun _ _ _ h => h) (yieldsIf_load_mid (by rfl) 65 _ rfl (w.heap.size + 1) 0 rfl (rc).toList _ (fun W hSw => range_of_all (hSw.heap K9.out id)) Tryd.underlying65 rfl ?hi0) (by assumption) ?rest0
  case hi0 => exact HI.out
  simp only [Act.put, List.getElem_toArray, List.getElem_cons_zero, List.setIfInBounds_toArray, List.set_cons_zero, List.set_cons_succ]
  refine wpAnyH_take (i := 1) (v := ?v1) rfl (by kernel_rfl) (by kernel_rfl) (by kernel_rfl) (fun _ _ _ h => h) (Or.inl ⟨by rfl, ?hy1⟩) (by assumption) ?rest1
  case hy1 => (intro W hSw; go_simp; first | done | with_reducible rfl)
  simp only [Act.put, List.getElem_toArray, List.getElem_cons_zero, List.getElem_cons_succ, List.setIfInBounds_toArray, List.set_cons_zero, List.set_cons_succ]
  refine wpAnyH_take (i := 2) (v := ?v2) rfl (by kernel_rfl) (by kernel_rfl) (by kernel_rfl) (fun _ _ _ h => h) (Or.inl ⟨by rfl, ?hy2⟩) (by assumption) ?rest2
  case hy2 => (intro W hSw; have cj := (cell_of_row _ _ 2 _ _ _ (hSw.heap K8.out id)).trans (rfl : _ = some (.int .u32 av : Value)); go_simp; first | done | with_reducible rfl)
  simp only [Act.put, List.getElem_toArray, List.getElem_cons_zero, List.getElem_cons_succ, List.setIfInBounds_toArray, List.set_cons_zero, List.set_cons_succ]
  refine wpAnyH_take (i := 3) (v := ?v3) rfl (by kernel_rfl) (by kernel_rfl) (by kernel_rfl) (fun _ _ _ h => h) (Or.inl ⟨by rfl, ?hy3⟩) (by assumption) ?rest3
  case hy3 => (intro W hSw; go_simp; first | done | with_reducible rfl)
  simp only [Act.put, List.getElem_toArray, List.getElem_cons_zero, List.getElem_cons_succ, List.setIfInBounds_toArray, List.set_cons_zero, List.set_cons_succ]
  refine wpAnyH_take (i := 4) (v := ?v4) rfl (by kernel_rfl) (by kernel_rfl) (by kernel_rfl) (fun _ _ _ h => h) (Or.inl ⟨by rfl, ?hy4⟩) (by assumption) ?rest4
  case hy4 => (intro W hSw; go_simp; first | done | with_reducible rfl)
  simp only [Act.put, List.getElem_toArray, List.getElem_cons_zero, List.getElem_cons_succ, List.setIfInBounds_toArray, List.set_cons_zero, List.set_cons_succ]
  refine wpAnyH_take (i := 5) (v := ?v5) rfl (by kernel_rfl) (by kernel_rfl) (by kernel_rfl) (fun _ _ _ h => h) (Or.inl ⟨by rfl, ?hy5⟩) (by assumption) ?rest5
  case hy5 => (intro W hSw; have cj := (cell_of_row _ _ 4 _ _ _ (hSw.heap K8.out id)).trans (rfl : _ = some (.int .u16 la : Value)); go_simp; first | done | with_reducible rfl)
  simp only [Act.put, List.getElem_toArray, List.getElem_cons_zero, List.getElem_cons_succ, List.setIfInBounds_toArray, List.set_cons_zero, List.set_cons_succ]
  refine wpAnyH_take (i := 6) (v := ?v6) rfl (by kernel_rfl) (by kernel_rfl) (by kernel_rfl) (fun _ _ _ h => h) (Or.inl ⟨by rfl, ?hy6⟩) (by assumption) ?rest6
  case hy6 => (intro W hSw; go_simp; first | done | with_reducible rfl)
  simp only [Act.put, List.getElem_toArray, List.getElem_cons_zero, List.getElem_cons_succ, List.setIfInBounds_toArray, List.set_cons_zero, List.set_cons_succ]
  refine wpAnyH_take (i := 7) (v := ?v7) rfl (by kernel_rfl) (by kernel_rfl) (by kernel_rfl) (fun _ _ _ h => h) (Or.inl ⟨by rfl, ?hy7⟩) (by assumption) ?rest7
  case hy7 => (intro W hSw; go_simp; first | done | with_reducible rfl)
  simp only [Act.put, List.getElem_toArray, List.getElem_cons_zero, List.getElem_cons_succ, List.setIfInBounds_toArray, List.set_cons_zero, List.set_cons_succ]
  refine wpAnyH_take (i := 8) (v := ?v8) rfl (by kernel_rfl) (by kernel_rfl) (by kernel_rfl) (fun _ _ _ h => h) (Or.inl ⟨by rfl, ?hy8⟩) (by assumption) ?rest8
  case hy8 => (intro W hSw; have cj := (cell_of_row _ _ 0 _ _ _ (hSw.heap K8.out id)).trans (rfl : _ = some (.int .i64 size : Value)); go_simp; first | done | with_reducible rfl)
  simp only [Act.put, List.getElem_toArray, List.getElem_cons_zero, List.getElem_cons_succ, List.setIfInBounds_toArray, List.set_cons_zero, List.set_cons_succ]
  refine wpAnyH_take (i := 9) (v := ?v9) rfl (by kernel_rfl) (by kernel_rfl) (by kernel_rfl) (fun _ _ _ h => h) (Or.inl ⟨by rfl, ?hy9⟩) (by assumption) ?rest9
  case hy9 => (intro W hSw; go_simp; first | done | with_reducible rfl)
  simp only [Act.put, List.getElem_toArray, List.getElem_cons_zero, List.getElem_cons_succ, List.setIfInBounds_toArray, List.set_cons_zero, List.set_cons_succ]
  refine wpAnyH_take (i := 10) (v := ?v10) rfl (by kernel_rfl) (by kernel_rfl) (by kernel_rfl) (fun _ _ _ h => h) (Or.inl ⟨by rfl, ?hy10⟩) (by assumption) ?rest10
  case hy10 => (intro W hSw; go_simp; first | done | with_reducible rfl)
  simp only [Act.put, List.getElem_toArray, List.getElem_cons_zero, List.getElem_cons_succ, List.setIfInBounds_toArray, List.set_cons_zero, List.set_cons_succ]
  refine wpAnyH_take (i := 11) (v := ?v11) rfl (by kernel_rfl) (by kernel_rfl) (by kernel_rfl) (fun _ _ _ h => h) (Or.inl ⟨by rfl, ?hy11⟩) (by assumption) ?rest11
  case hy11 => (intro W hSw; go_simp; first | done | with_reducible rfl)
  simp only [Act.put, List.getElem_toArray, List.getElem_cons_zero, List.getElem_cons_succ, List.setIfInBounds_toArray, List.set_cons_zero, List.set_cons_succ]
  refine wpAnyH_take (i := 12) (v := ?v12) rfl (by kernel_rfl) (by kernel_rfl) (by kernel_rfl) (fun _ _ _ h => h) (Or.inl ⟨by rfl, ?hy12⟩) (by assumption) ?rest12
  case hy12 => (intro W hSw; have harg := HARG.out; go_simp; first | done | with_reducible rfl)
  simp only [Act.put, List.getElem_toArray, List.getElem_cons_zero, List.getElem_cons_succ, List.setIfInBounds_toArray, List.set_cons_zero, List.set_cons_succ]
  refine wpAnyH_ready (rs := [13]) (by kernel_rfl) (by simp) ?_
  refine AllReadyH.cons (o := _) rfl (fun K hK => ?_) (AllReadyH.nil)
  simp only [List.getElem_toArray, List.getElem_cons_zero, List.getElem_cons_succ]
  go_simp
  refine (HL2.out _ HB11.out.drew).mono ?_
  rintro e w14 ⟨rfl, hb⟩
  refine hK.out _ _ (hHeld.trans (KX.of_below (X := (fun _ => False)) hb) (fun _ _ h => h)) (fun hHeld15 => ?_)
  clear hK K
  have K16 := Lib.hid (keepB (a := (w7).drew) K8.out hb)
  have K17 := Lib.hid (keepB (a := (w7).drew) K9.out hb)
  have K18 := Lib.hid (keepB (a := (w7).drew) K10.out hb)
  have HB19 := Lib.hid ((HB11.out.drew).trans (hb.mono (HB11.out.drew).size))
  clear HB11
  clear hb
  refine wpAnyH_take (i := 14) (v := ?v14) rfl (by kernel_rfl) (by kernel_rfl) (by kernel_rfl) (fun _ _ _ h => h) (Or.inl ⟨by rfl, ?hy14⟩) (by assumption) ?rest14
  case hy14 => (intro W hSw; go_simp; first | done | with_reducible rfl)
  simp only [Act.put, List.getElem_toArray, List.getElem_cons_zero, List.getElem_cons_succ, List.setIfInBounds_toArray, List.set_cons_zero, List.set_cons_succ]
  refine wpAnyH_take (i := 15) (v := ?v15) rfl (by kernel_rfl) (by kernel_rfl) (by kernel_rfl) (fun _ _ _ h => h) (Or.inl ⟨by rfl, ?hy15⟩) (by assumption) ?rest15
  case hy15 => (intro W hSw; go_simp; first | done | with_reducible rfl)
  simp only [Act.put, List.getElem_toArray, List.getElem_cons_zero, List.getElem_cons_succ, List.setIfInBounds_toArray, List.set_cons_zero, List.set_cons_succ]
  refine wpAnyH_take (i := 16) (v := ?v16) rfl (by kernel_rfl) (by kernel_rfl) (by kernel_rfl) (fun _ _ _ h => h) (Or.inl ⟨by rfl, ?hy16⟩) (by assumption) ?rest16
  case hy16 => (intro W hSw; go_simp; first | done | with_reducible rfl)
  simp only [Act.put, List.getElem_toArray, List.getElem_cons_zero, List.getElem_cons_succ, List.setIfInBounds_toArray, List.set_cons_zero, List.set_cons_succ]
  refine wpAnyH_take (i := 17) (v := ?v17) rfl (by kernel_rfl) (by kernel_rfl) (by kernel_rfl) (fun _ _ _ h => h) (Or.inl ⟨by rfl, ?hy17⟩) (by assumption) ?rest17
  case hy17 => (intro W hSw; go_simp; first | done | with_reducible rfl)
  simp only [Act.put, List.getElem_toArray, List.getElem_cons_zero, List.getElem_cons_succ, List.setIfInBounds_toArray, List.set_cons_zero, List.set_cons_succ]
  refine wpAnyH_take (i := 18) (v := ?v18) rfl (by kernel_rfl) (by kernel_rfl) (by kernel_rfl) (fun _ _ _ h => h) (Or.inl ⟨by rfl, ?hy18⟩) (by assumption) ?rest18
  case hy18 => (intro W hSw; go_simp; first | done | with_reducible rfl)
  simp only [Act.put, List.getElem_toArray, List.getElem_cons_zero, List.getElem_cons_succ, List.setIfInBounds_toArray, List.set_cons_zero, List.set_cons_succ]
  refine wpAnyH_done (by kernel_rfl) ?_ _
  clear hHeld15
  have cf20 := (cell_of_row _ _ 4 _ _ _ K16.out).trans (rfl : _ = some (.int .u16 la : Value))
  have cf21 := (cell_of_row _ _ 0 _ _ _ K16.out).trans (rfl : _ = some (.int .i64 size : Value))
  have HO22 := Lib.hid (show (#[.int .i64 0, .int .u32 0, .int .u32 0, .int .u32 0, .int .u16 0, .int .u16 0] : Array Value).all (·.oneCell') = true from by simp [Value.oneCell'])
  go_wp2_with (first | go_skip | (refine wpList_store_to rfl 52 _ _ rfl (w.heap.size + 1 + 1) #[.int .i64 0, .int .u32 0, .int .u32 0, .int .u32 0, .int .u16 0, .int .u16 0] rfl rfl 52 #[.int .i64 0, .int .u32 0, .int .u32 0, .int .u32 0, .int .u16 0, .int .u16 0] K18.out (by kernel_rfl) rfl HO22.out ?_))
  intro w23 hx24 hkk
  clear cf20 cf21
  have K25 := Lib.hid (hx24.out.heap K16.out (by omega))
  clear K16
  have K26 := Lib.hid (hx24.out.heap K17.out (by omega))
  clear K17
  have K27 := Lib.hid hkk
  clear hkk K18
  have HB28 := Lib.hid (HB19.out.trans (hx24.out.below (B := w.heap.size) (fun k hk e => by omega) HB19.out.size))
  clear HB19 hx24
  go_wp2_with fail
  exact bodyPost_ret (v := .tuple #[.agg #[.int .i64 0, .int .u32 0, .int .u32 0, .int .u32 0, .int .u16 0, .int .u16 0], .int .i64 0, .bool false, .int .i64 22]) (results_cell_tmp3 Tryd.results48 _ _ (w.heap.size + 1 + 1) 52 #[.int .i64 0, .int .u32 0, .int .u32 0, .int .u32 0, .int .u16 0, .int .u16 0] (0, 0) _ rfl K27.out Tryd.underlying52 rfl (by kernel_rfl)) rfl ⟨rfl, HB28.out⟩
set_option maxRecDepth 100000 in
set_option maxHeartbeats 8000000 in
theorem ref13_Next_high (size : Nat) (de av us la pu : Nat) (rc : Array Value) (hrc : rc.size = 3) (w : World) (c dd : Nat) (HC : Hid (∀ W, Calls Tryd.prog 84 #[.agg #[.int .i64 size, .int .u32 de, .int .u32 av, .int .u32 us, .int .u16 la, .int .u16 pu]] W fun e w' => e = .returned (.int .i64 0) ∧ Below W.heap.size W w')) (HL1 : Hid (∀ W, Below w.heap.size w W → Calls Tryd.prog 85 #[.agg rc, .int .u32 (((av : Int) + 2) % 4294967296), .int .i64 2] W fun e w' => e = .returned (.tuple #[.int .u32 c, .bool true]) ∧ Below W.heap.size W w')) (hla : la < 65536) (hc : c < 65536) (hdd : ((c : Int) - (la : Int) + 65536) % 65536 = (dd : Int)) (h0 : ¬ dd = 0) (hs1 : 1 ≤ size) (hs2 : size ≤ 256) (a2 : Int) (HARG : Hid (IntKind.u32.wrap (IntKind.u32.wrap ((av : Int) + 4) + IntKind.u32.wrap (2 * IntKind.u32.wrap ((IntKind.i64.wrap (la : Int)).tmod (size : Int)))) = a2)) (hd : Nat) (HL2 : Hid (∀ W, Below w.heap.size w W → Calls Tryd.prog 85 #[.agg rc, .int .u32 a2, .int .i64 2] W fun e w' => e = .returned (.tuple #[.int .u32 hd, .bool true]) ∧ Below W.heap.size W w')) (hfar : ¬ size < dd) (hhi : size ≤ hd) (hhb : hd < 65536) :
    Calls Tryd.prog 48 #[.agg #[.int .i64 size, .int .u32 de, .int .u32 av, .int .u32 us, .int .u16 la, .int .u16 pu], .agg rc] w fun e w' => e = .returned (.tuple #[.agg #[.int .i64 0, .int .u32 0, .int .u32 0, .int .u32 0, .int .u16 0, .int .u16 0], .int .i64 0, .bool false, .int .i64 22]) ∧ Below w.heap.size w w' := by
  have HI := Lib.hid (show (Tryd.prog.info? 65).map (·.size) = some rc.size by rw [hrc]; kernel_rfl)
  clear hrc
  have hla0 : (0 : Int) ≤ (la : Int) := by omega
  have hc0 : (0 : Int) ≤ (c : Int) := by omega
  have hah : (IntKind.i64.wrap (IntKind.i64.wrap ((c : Int) - (la : Int)) + 65536)).tmod 65536 = (dd : Int) := by simp only [IntKind.wrap_i64]; rw [Int.tmod_eq_emod_of_nonneg (by omega)]; omega
  have hah2 : wrap64 ((wrap64 (wrap64 ((c : Int) - (la : Int)) + 65536)).tmod 65536) = (dd : Int) := by unfold wrap64; rw [Int.tmod_eq_emod_of_nonneg (by omega)]; omega
  have hah3 : ((c : Int) - (la : Int) + 65536).tmod 65536 = (dd : Int) := by rw [Int.tmod_eq_emod_of_nonneg (by omega)]; omega
  have hcb : (c : Int) < 65536 := by omega
  have hlb : (la : Int) < 65536 := by omega
  have hdd0 : (0 : Int) ≤ (dd : Int) := by omega
  have hdd1 : (dd : Int) < 65536 := by omega
  clear hdd hla hc
  have hd0 : ((dd : Int) == 0) = false := by simp; omega
  have hsz1 : (1 : Int) ≤ (size : Int) := by omega
  have hsz2 : (size : Int) ≤ 256 := by omega
  have hsz0 : ¬ size = 0 := by omega
  have hsz3 : ¬ (size : Int) = 0 := by omega
  have hf : decide ((size : Int) < (dd : Int)) = false := by simp; omega
  have hfN : decide (size < dd) = false := by simp; omega
  have hh0 : (0 : Int) ≤ (hd : Int) := by omega
  have hh1 : (hd : Int) < 65536 := by omega
  have hhd : decide ((size : Int) ≤ (hd : Int)) = true := by simp; omega
  have hhN : decide (size ≤ hd) = true := by simp; omega
  clear hfar h0 hs1 hs2 hhi hhb
  obtain ⟨k0, k1, k2, hb0⟩ := new3 w (.cells #[.int .i64 size, .int .u32 de, .int .u32 av, .int .u32 us, .int .u16 la, .int .u16 pu] 52) (.cells rc 65) (.cells #[.int .i64 0, .int .u32 0, .int .u32 0, .int .u32 0, .int .u16 0, .int .u16 0] 52)
  have K0a := Lib.hid k0
  have K1a := Lib.hid k1
  have K2a := Lib.hid k2
  have HB0a := Lib.hid hb0
  clear k0 k1 k2 hb0
  go_enter Tryd.func48, Tryd.ntmps48
  go_wp2_with (first | go_skip | (refine wpList_load_row rfl 52 _ rfl (w.heap.size) rfl 52 #[.int .i64 size, .int .u32 de, .int .u32 av, .int .u32 us, .int .u16 la, .int .u16 pu] (0, 0) _ K0a.out Tryd.underlying52 rfl (by kernel_rfl) ?_))
  refine (HC.out _).mono ?_
  rintro e w1 ⟨rfl, hb⟩
  have K2 := Lib.hid (keepB K0a.out hb)
  clear K0a
  have K3 := Lib.hid (keepB K1a.out hb)
  clear K1a
  have K4 := Lib.hid (keepB K2a.out hb)
  clear K2a
  have HB5 := Lib.hid (HB0a.out.trans (hb.mono HB0a.out.size))
  clear HB0a
  clear hb
  have cf6 := (cell_of_row _ _ 2 _ _ _ K2.out).trans (rfl : _ = some (.int .u32 av : Value))
  go_wp2_with (first | go_skip | (refine wpList_load_row rfl 65 _ rfl (w.heap.size + 1) rfl 65 (rc) (0, 0) _ K3.out Tryd.underlying65 rfl HI.out ?_))
  refine (HL1.out _ HB5.out).mono ?_
  rintro e w7 ⟨rfl, hb⟩
  have K8 := Lib.hid (keepB K2.out hb)
  clear K2
  have K9 := Lib.hid (keepB K3.out hb)
  clear K3
  have K10 := Lib.hid (keepB K4.out hb)
  clear K4
  have HB11 := Lib.hid (HB5.out.trans (hb.mono HB5.out.size))
  clear HB5
  clear hb
  clear cf6
  have cf12 := (cell_of_row _ _ 4 _ _ _ K8.out).trans (rfl : _ = some (.int .u16 la : Value))
  have cf13 := (cell_of_row _ _ 0 _ _ _ K8.out).trans (rfl : _ = some (.int .i64 size : Value))
  go_upto_region 9 with fail
  clear cf12 cf13
  refine wp_region_held_drew (S := fun W => KX (fun _ => False) (w7) W) (by kernel_rfl) ((KX.refl (fun _ => False) _).drew) (fun hHeld => ?_)
  refine wpAnyH_take (i := 0) rfl (by kernel_rfl) (by kernel_rfl) (by kernel_rfl) (fun _ _ _ h => h) (yieldsIf_load_mid (by rfl) 65 _ rfl (w.heap.size + 1) 0 rfl (rc).toList _ (fun W hSw => range_of_all (hSw.heap K9.out id)) Tryd.underlying65 rfl ?hi0) (by assumption) ?rest0
  case hi0 => exact HI.out
  simp only [Act.put, List.getElem_toArray, List.getElem_cons_zero, List.setIfInBounds_toArray, List.set_cons_zero, List.set_cons_succ]
  refine wpAnyH_take (i := 1) (v := ?v1) rfl (by kernel_rfl) (by kernel_rfl) (by kernel_rfl) (fun _ _ _ h => h) (Or.inl ⟨by rfl, ?hy1⟩) (by assumption) ?rest1
  case hy1 => (intro W hSw; go_simp; first | done | with_reducible rfl)
  simp only [Act.put, List.getElem_toArray, List.getElem_cons_zero, List.getElem_cons_succ, List.setIfInBounds_toArray, List.set_cons_zero, List.set_cons_succ]
  refine wpAnyH_take (i := 2) (v := ?v2) rfl (by kernel_rfl) (by kernel_rfl) (by kernel_rfl) (fun _ _ _ h => h) (Or.inl ⟨by rfl, ?hy2⟩) (by assumption) ?rest2
  case hy2 => (intro W hSw; have cj := (cell_of_row _ _ 2 _ _ _ (hSw.heap K8.out id)).trans (rfl : _ = some (.int .u32 av : Value)); go_simp; first | done | with_reducible rfl)
  simp only [Act.put, List.getElem_toArray, List.getElem_cons_zero, List.getElem_cons_succ, List.setIfInBounds_toArray, List.set_cons_zero, List.set_cons_succ]
  refine wpAnyH_take (i := 3) (v := ?v3) rfl (by kernel_rfl) (by kernel_rfl) (by kernel_rfl) (fun _ _ _ h => h) (Or.inl ⟨by rfl, ?hy3⟩) (by assumption) ?rest3
  case hy3 => (intro W hSw; go_simp; first | done | with_reducible rfl)
  simp only [Act.put, List.getElem_toArray, List.getElem_cons_zero, List.getElem_cons_succ, List.setIfInBounds_toArray, List.set_cons_zero, List.set_cons_succ]
  refine wpAnyH_take (i := 4) (v := ?v4) rfl (by kernel_rfl) (by kernel_rfl) (by kernel_rfl) (fun _ _ _ h => h) (Or.inl ⟨by rfl, ?hy4⟩) (by assumption) ?rest4
  case hy4 => (intro W hSw; go_simp; first | done | with_reducible rfl)
  simp only [Act.put, List.getElem_toArray, List.getElem_cons_zero, List.getElem_cons_succ, List.setIfInBounds_toArray, List.set_cons_zero, List.set_cons_succ]
  refine wpAnyH_take (i := 5) (v := ?v5) rfl (by kernel_rfl) (by kernel_rfl) (by kernel_rfl) (fun _ _ _ h => h) (Or.inl ⟨by rfl, ?hy5⟩) (by assumption) ?rest5
  case hy5 => (intro W hSw; have cj := (cell_of_row _ _ 4 _ _ _ (hSw.heap K8.out id)).trans (rfl : _ = some (.int .u16 la : Value)); go_simp; first | done | with_reducible rfl)
  simp only [Act.put, List.getElem_toArray, List.getElem_cons_zero, List.getElem_cons_succ, List.setIfInBounds_toArray, List.set_cons_zero, List.set_cons_succ]
  refine wpAnyH_take (i := 6) (v := ?v6) rfl (by kernel_rfl) (by kernel_rfl) (by kernel_rfl) (fun _ _ _ h => h) (Or.inl ⟨by rfl, ?hy6⟩) (by assumption) ?rest6
  case hy6 => (intro W hSw; go_simp; first | done | with_reducible rfl)
  simp only [Act.put, List.getElem_toArray, List.getElem_cons_zero, List.getElem_cons_succ, List.setIfInBounds_toArray, List.set_cons_zero, List.set_cons_succ]
  refine wpAnyH_take (i := 7) (v := ?v7) rfl (by kernel_rfl) (by kernel_rfl) (by kernel_rfl) (fun _ _ _ h => h) (Or.inl ⟨by rfl, ?hy7⟩) (by assumption) ?rest7
  case hy7 => (intro W hSw; go_simp; first | done | with_reducible rfl)
  simp only [Act.put, List.getElem_toArray, List.getElem_cons_zero, List.getElem_cons_succ, List.setIfInBounds_toArray, List.set_cons_zero, List.set_cons_succ]
  refine wpAnyH_take (i := 8) (v := ?v8) rfl (by kernel_rfl) (by kernel_rfl) (by kernel_rfl) (fun _ _ _ h => h) (Or.inl ⟨by rfl, ?hy8⟩) (by assumption) ?rest8
  case hy8 => (intro W hSw; have cj := (cell_of_row _ _ 0 _ _ _ (hSw.heap K8.out id)).trans (rfl : _ = some (.int .i64 size : Value)); go_simp; first | done | with_reducible rfl)
  simp only [Act.put, List.getElem_toArray, List.getElem_cons_zero, List.getElem_cons_succ, List.setIfInBounds_toArray, List.set_cons_zero, List.set_cons_succ]
  refine wpAnyH_take (i := 9) (v := ?v9) rfl (by kernel_rfl) (by kernel_rfl) (by kernel_rfl) (fun _ _ _ h => h) (Or.inl ⟨by rfl, ?hy9⟩) (by assumption) ?rest9
  case hy9 => (intro W hSw; go_simp; first | done | with_reducible rfl)
  simp only [Act.put, List.getElem_toArray, List.getElem_cons_zero, List.getElem_cons_succ, List.setIfInBounds_toArray, List.set_cons_zero, List.set_cons_succ]
  refine wpAnyH_take (i := 10) (v := ?v10) rfl (by kernel_rfl) (by kernel_rfl) (by kernel_rfl) (fun _ _ _ h => h) (Or.inl ⟨by rfl, ?hy10⟩) (by assumption) ?rest10
  case hy10 => (intro W hSw; go_simp; first | done | with_reducible rfl)
  simp only [Act.put, List.getElem_toArray, List.getElem_cons_zero, List.getElem_cons_succ, List.setIfInBounds_toArray, List.set_cons_zero, List.set_cons_succ]
  refine wpAnyH_take (i := 11) (v := ?v11) rfl (by kernel_rfl) (by kernel_rfl) (by kernel_rfl) (fun _ _ _ h => h) (Or.inl ⟨by rfl, ?hy11⟩) (by assumption) ?rest11
  case hy11 => (intro W hSw; go_simp; first | done | with_reducible rfl)
  simp only [Act.put, List.getElem_toArray, List.getElem_cons_zero, List.getElem_cons_succ, List.setIfInBounds_toArray, List.set_cons_zero, List.set_cons_succ]
  refine wpAnyH_take (i := 12) (v := ?v12) rfl (by kernel_rfl) (by kernel_rfl) (by kernel_rfl) (fun _ _ _ h => h) (Or.inl ⟨by rfl, ?hy12⟩) (by assumption) ?rest12
  case hy12 => (intro W hSw; have harg := HARG.out; go_simp; first | done | with_reducible rfl)
  simp only [Act.put, List.getElem_toArray, List.getElem_cons_zero, List.getElem_cons_succ, List.setIfInBounds_toArray, List.set_cons_zero, List.set_cons_succ]
  refine wpAnyH_ready (rs := [13]) (by kernel_rfl) (by simp) ?_
  refine AllReadyH.cons (o := _) rfl (fun K hK => ?_) (AllReadyH.nil)
  simp only [List.getElem_toArray, List.getElem_cons_zero, List.getElem_cons_succ]
  go_simp
  refine (HL2.out _ HB11.out.drew).mono ?_
  rintro e w14 ⟨rfl, hb⟩
  refine hK.out _ _ (hHeld.trans (KX.of_below (X := (fun _ => False)) hb) (fun _ _ h => h)) (fun hHeld15 => ?_)
  clear hK K
  have K16 := Lib.hid (keepB (a := (w7).drew) K8.out hb)
  have K17 := Lib.hid (keepB (a := (w7).drew) K9.out hb)
  have K18 := Lib.hid (keepB (a := (w7).drew) K10.out hb)
  have HB19 := Lib.hid ((HB11.out.drew).trans (hb.mono (HB11.out.drew).size))
  clear HB11
  clear hb
  refine wpAnyH_take (i := 14) (v := ?v14) rfl (by kernel_rfl) (by kernel_rfl) (by kernel_rfl) (fun _ _ _ h => h) (Or.inl ⟨by rfl, ?hy14⟩) (by assumption) ?rest14
  case hy14 => (intro W hSw; go_simp; first | done | with_reducible rfl)
  simp only [Act.put, List.getElem_toArray, List.getElem_cons_zero, List.getElem_cons_succ, List.setIfInBounds_toArray, List.set_cons_zero, List.set_cons_succ]
  refine wpAnyH_take (i := 15) (v := ?v15) rfl (by kernel_rfl) (by kernel_rfl) (by kernel_rfl) (fun _ _ _ h => h) (Or.inl ⟨by rfl, ?hy15⟩) (by assumption) ?rest15
  case hy15 => (intro W hSw; go_simp; first | done | with_reducible rfl)
  simp only [Act.put, List.getElem_toArray, List.getElem_cons_zero, List.getElem_cons_succ, List.setIfInBounds_toArray, List.set_cons_zero, List.set_cons_succ]
  refine wpAnyH_take (i := 16) (v := ?v16) rfl (by kernel_rfl) (by kernel_rfl) (by kernel_rfl) (fun _ _ _ h => h) (Or.inl ⟨by rfl, ?hy16⟩) (by assumption) ?rest16
  case hy16 => (intro W hSw; go_simp; first | done | with_reducible rfl)
  simp only [Act.put, List.getElem_toArray, List.getElem_cons_zero, List.getElem_cons_succ, List.setIfInBounds_toArray, List.set_cons_zero, List.set_cons_succ]
  refine wpAnyH_take (i := 17) (v := ?v17) rfl (by kernel_rfl) (by kernel_rfl) (by kernel_rfl) (fun _ _ _ h => h) (Or.inl ⟨by rfl, ?hy17⟩) (by assumption) ?rest17
  case hy17 => (intro W hSw; go_simp; first | done | with_reducible rfl)
  simp only [Act.put, List.getElem_toArray, List.getElem_cons_zero, List.getElem_cons_succ, List.setIfInBounds_toArray, List.set_cons_zero, List.set_cons_succ]
  refine wpAnyH_take (i := 18) (v := ?v18) rfl (by kernel_rfl) (by kernel_rfl) (by kernel_rfl) (fun _ _ _ h => h) (Or.inl ⟨by rfl, ?hy18⟩) (by assumption) ?rest18
  case hy18 => (intro W hSw; go_simp; first | done | with_reducible rfl)
  simp only [Act.put, List.getElem_toArray, List.getElem_cons_zero, List.getElem_cons_succ, List.setIfInBounds_toArray, List.set_cons_zero, List.set_cons_succ]
  refine wpAnyH_done (by kernel_rfl) ?_ _
  clear hHeld15
  have cf20 := (cell_of_row _ _ 4 _ _ _ K16.out).trans (rfl : _ = some (.int .u16 la : Value))
  have cf21 := (cell_of_row _ _ 0 _ _ _ K16.out).trans (rfl : _ = some (.int .i64 size : Value))
  have HO22 := Lib.hid (show (#[.int .i64 0, .int .u32 0, .int .u32 0, .int .u32 0, .int .u16 0, .int .u16 0] : Array Value).all (·.oneCell') = true from by simp [Value.oneCell'])
  go_wp2_with (first | go_skip | (refine wpList_store_to rfl 52 _ _ rfl (w.heap.size + 1 + 1) #[.int .i64 0, .int .u32 0, .int .u32 0, .int .u32 0, .int .u16 0, .int .u16 0] rfl rfl 52 #[.int .i64 0, .int .u32 0, .int .u32 0, .int .u32 0, .int .u16 0, .int .u16 0] K18.out (by kernel_rfl) rfl HO22.out ?_))
  intro w23 hx24 hkk
  clear cf20 cf21
  have K25 := Lib.hid (hx24.out.heap K16.out (by omega))
  clear K16
  have K26 := Lib.hid (hx24.out.heap K17.out (by omega))
  clear K17
  have K27 := Lib.hid hkk
  clear hkk K18
  have HB28 := Lib.hid (HB19.out.trans (hx24.out.below (B := w.heap.size) (fun k hk e => by omega) HB19.out.size))
  clear HB19 hx24
  go_wp2_with fail
  exact bodyPost_ret (v := .tuple #[.agg #[.int .i64 0, .int .u32 0, .int .u32 0, .int .u32 0, .int .u16 0, .int .u16 0], .int .i64 0, .bool false, .int .i64 22]) (results_cell_tmp3 Tryd.results48 _ _ (w.heap.size + 1 + 1) 52 #[.int .i64 0, .int .u32 0, .int .u32 0, .int .u32 0, .int .u16 0, .int .u16 0] (0, 0) _ rfl K27.out Tryd.underlying52 rfl (by kernel_rfl)) rfl ⟨rfl, HB28.out⟩
set_option maxRecDepth 100000 in
set_option maxHeartbeats 8000000 in
theorem ref13_Next_some (size : Nat) (de av us la pu : Nat) (rc : Array Value) (hrc : rc.size = 3) (w : World) (c dd : Nat) (HC : Hid (∀ W, Calls Tryd.prog 84 #[.agg #[.int .i64 size, .int .u32 de, .int .u32 av, .int .u32 us, .int .u16 la, .int .u16 pu]] W fun e w' => e = .returned (.int .i64 0) ∧ Below W.heap.size W w')) (HL1 : Hid (∀ W, Below w.heap.size w W → Calls Tryd.prog 85 #[.agg rc, .int .u32 (((av : Int) + 2) % 4294967296), .int .i64 2] W fun e w' => e = .returned (.tuple #[.int .u32 c, .bool true]) ∧ Below W.heap.size W w')) (hla : la < 65536) (hc : c < 65536) (hdd : ((c : Int) - (la : Int) + 65536) % 65536 = (dd : Int)) (h0 : ¬ dd = 0) (hs1 : 1 ≤ size) (hs2 : size ≤ 256) (a2 : Int) (HARG : Hid (IntKind.u32.wrap (IntKind.u32.wrap ((av : Int) + 4) + IntKind.u32.wrap (2 * IntKind.u32.wrap ((IntKind.i64.wrap (la : Int)).tmod (size : Int)))) = a2)) (hd : Nat) (HL2 : Hid (∀ W, Below w.heap.size w W → Calls Tryd.prog 85 #[.agg rc, .int .u32 a2, .int .i64 2] W fun e w' => e = .returned (.tuple #[.int .u32 hd, .bool true]) ∧ Below W.heap.size W w')) (hfar : ¬ size < dd) (hhi : hd < size) :
    Calls Tryd.prog 48 #[.agg #[.int .i64 size, .int .u32 de, .int .u32 av, .int .u32 us, .int .u16 la, .int .u16 pu], .agg rc] w fun e w' => e = .returned (.tuple #[.agg #[.int .i64 size, .int .u32 de, .int .u32 av, .int .u32 us, .int .u16 (IntKind.u16.wrap ((la : Int) + 1)), .int .u16 pu], .int .i64 hd, .bool true, .int .i64 0]) ∧ Below w.heap.size w w' := by
  have HI := Lib.hid (show (Tryd.prog.info? 65).map (·.size) = some rc.size by rw [hrc]; kernel_rfl)
  clear hrc
  have hla0 : (0 : Int) ≤ (la : Int) := by omega
  have hc0 : (0 : Int) ≤ (c : Int) := by omega
  have hah : (IntKind.i64.wrap (IntKind.i64.wrap ((c : Int) - (la : Int)) + 65536)).tmod 65536 = (dd : Int) := by simp only [IntKind.wrap_i64]; rw [Int.tmod_eq_emod_of_nonneg (by omega)]; omega
  have hah2 : wrap64 ((wrap64 (wrap64 ((c : Int) - (la : Int)) + 65536)).tmod 65536) = (dd : Int) := by unfold wrap64; rw [Int.tmod_eq_emod_of_nonneg (by omega)]; omega
  have hah3 : ((c : Int) - (la : Int) + 65536).tmod 65536 = (dd : Int) := by rw [Int.tmod_eq_emod_of_nonneg (by omega)]; omega
  have hcb : (c : Int) < 65536 := by omega
  have hlb : (la : Int) < 65536 := by omega
  have hdd0 : (0 : Int) ≤ (dd : Int) := by omega
  have hdd1 : (dd : Int) < 65536 := by omega
  clear hdd hla hc
  have hd0 : ((dd : Int) == 0) = false := by simp; omega
  have hsz1 : (1 : Int) ≤ (size : Int) := by omega
  have hsz2 : (size : Int) ≤ 256 := by omega
  have hsz0 : ¬ size = 0 := by omega
  have hsz3 : ¬ (size : Int) = 0 := by omega
  have hf : decide ((size : Int) < (dd : Int)) = false := by simp; omega
  have hfN : decide (size < dd) = false := by simp; omega
  have hh0 : (0 : Int) ≤ (hd : Int) := by omega
  have hh1 : (hd : Int) < 65536 := by omega
  have hhd : decide ((size : Int) ≤ (hd : Int)) = false := by simp; omega
  have hhN : decide (size ≤ hd) = false := by simp; omega
  clear hfar h0 hs1 hs2 hhi
  obtain ⟨k0, k1, k2, hb0⟩ := new3 w (.cells #[.int .i64 size, .int .u32 de, .int .u32 av, .int .u32 us, .int .u16 la, .int .u16 pu] 52) (.cells rc 65) (.cells #[.int .i64 0, .int .u32 0, .int .u32 0, .int .u32 0, .int .u16 0, .int .u16 0] 52)
  have K0a := Lib.hid k0
  have K1a := Lib.hid k1
  have K2a := Lib.hid k2
  have HB0a := Lib.hid hb0
  clear k0 k1 k2 hb0
  go_enter Tryd.func48, Tryd.ntmps48
  go_wp2_with (first | go_skip | (refine wpList_load_row rfl 52 _ rfl (w.heap.size) rfl 52 #[.int .i64 size, .int .u32 de, .int .u32 av, .int .u32 us, .int .u16 la, .int .u16 pu] (0, 0) _ K0a.out Tryd.underlying52 rfl (by kernel_rfl) ?_))
  refine (HC.out _).mono ?_
  rintro e w1 ⟨rfl, hb⟩
  have K2 := Lib.hid (keepB K0a.out hb)
  clear K0a
  have K3 := Lib.hid (keepB K1a.out hb)
  clear K1a
  have K4 := Lib.hid (keepB K2a.out hb)
  clear K2a
  have HB5 := Lib.hid (HB0a.out.trans (hb.mono HB0a.out.size))
  clear HB0a
  clear hb
  have cf6 := (cell_of_row _ _ 2 _ _ _ K2.out).trans (rfl : _ = some (.int .u32 av : Value))
  go_wp2_with (first | go_skip | (refine wpList_load_row rfl 65 _ rfl (w.heap.size + 1) rfl 65 (rc) (0, 0) _ K3.out Tryd.underlying65 rfl HI.out ?_))
  refine (HL1.out _ HB5.out).mono ?_
  rintro e w7 ⟨rfl, hb⟩
  have K8 := Lib.hid (keepB K2.out hb)
  clear K2
  have K9 := Lib.hid (keepB K3.out hb)
  clear K3
  have K10 := Lib.hid (keepB K4.out hb)
  clear K4
  have HB11 := Lib.hid (HB5.out.trans (hb.mono HB5.out.size))
  clear HB5
  clear hb
  clear cf6
  have cf12 := (cell_of_row _ _ 4 _ _ _ K8.out).trans (rfl : _ = some (.int .u16 la : Value))
  have cf13 := (cell_of_row _ _ 0 _ _ _ K8.out).trans (rfl : _ = some (.int .i64 size : Value))
  go_upto_region 9 with fail
  clear cf12 cf13
  refine wp_region_held_drew (S := fun W => KX (fun _ => False) (w7) W) (by kernel_rfl) ((KX.refl (fun _ => False) _).drew) (fun hHeld => ?_)
  refine wpAnyH_take (i := 0) rfl (by kernel_rfl) (by kernel_rfl) (by kernel_rfl) (fun _ _ _ h => h) (yieldsIf_load_mid (by rfl) 65 _ rfl (w.heap.size + 1) 0 rfl (rc).toList _ (fun W hSw => range_of_all (hSw.heap K9.out id)) Tryd.underlying65 rfl ?hi0) (by assumption) ?rest0
  case hi0 => exact HI.out
  simp only [Act.put, List.getElem_toArray, List.getElem_cons_zero, List.setIfInBounds_toArray, List.set_cons_zero, List.set_cons_succ]
  refine wpAnyH_take (i := 1) (v := ?v1) rfl (by kernel_rfl) (by kernel_rfl) (by kernel_rfl) (fun _ _ _ h => h) (Or.inl ⟨by rfl, ?hy1⟩) (by assumption) ?rest1
  case hy1 => (intro W hSw; go_simp; first | done | with_reducible rfl)
  simp only [Act.put, List.getElem_toArray, List.getElem_cons_zero, List.getElem_cons_succ, List.setIfInBounds_toArray, List.set_cons_zero, List.set_cons_succ]
  refine wpAnyH_take (i := 2) (v := ?v2) rfl (by kernel_rfl) (by kernel_rfl) (by kernel_rfl) (fun _ _ _ h => h) (Or.inl ⟨by rfl, ?hy2⟩) (by assumption) ?rest2
  case hy2 => (intro W hSw; have cj := (cell_of_row _ _ 2 _ _ _ (hSw.heap K8.out id)).trans (rfl : _ = some (.int .u32 av : Value)); go_simp; first | done | with_reducible rfl)
  simp only [Act.put, List.getElem_toArray, List.getElem_cons_zero, List.getElem_cons_succ, List.setIfInBounds_toArray, List.set_cons_zero, List.set_cons_succ]
  refine wpAnyH_take (i := 3) (v := ?v3) rfl (by kernel_rfl) (by kernel_rfl) (by kernel_rfl) (fun _ _ _ h => h) (Or.inl ⟨by rfl, ?hy3⟩) (by assumption) ?rest3
  case hy3 => (intro W hSw; go_simp; first | done | with_reducible rfl)
  simp only [Act.put, List.getElem_toArray, List.getElem_cons_zero, List.getElem_cons_succ, List.setIfInBounds_toArray, List.set_cons_zero, List.set_cons_succ]
  refine wpAnyH_take (i := 4) (v := ?v4) rfl (by kernel_rfl) (by kernel_rfl) (by kernel_rfl) (fun _ _ _ h => h) (Or.inl ⟨by rfl, ?hy4⟩) (by assumption) ?rest4
  case hy4 => (intro W hSw; go_simp; first | done | with_reducible rfl)
  simp only [Act.put, List.getElem_toArray, List.getElem_cons_zero, List.getElem_cons_succ, List.setIfInBounds_toArray, List.set_cons_zero, List.set_cons_succ]
  refine wpAnyH_take (i := 5) (v := ?v5) rfl (by kernel_rfl) (by kernel_rfl) (by kernel_rfl) (fun _ _ _ h => h) (Or.inl ⟨by rfl, ?hy5⟩) (by assumption) ?rest5
  case hy5 => (intro W hSw; have cj := (cell_of_row _ _ 4 _ _ _ (hSw.heap K8.out id)).trans (rfl : _ = some (.int .u16 la : Value)); go_simp; first | done | with_reducible rfl)
  simp only [Act.put, List.getElem_toArray, List.getElem_cons_zero, List.getElem_cons_succ, List.setIfInBounds_toArray, List.set_cons_zero, List.set_cons_succ]
  refine wpAnyH_take (i := 6) (v := ?v6) rfl (by kernel_rfl) (by kernel_rfl) (by kernel_rfl) (fun _ _ _ h => h) (Or.inl ⟨by rfl, ?hy6⟩) (by assumption) ?rest6
  case hy6 => (intro W hSw; go_simp; first | done | with_reducible rfl)
  simp only [Act.put, List.getElem_toArray, List.getElem_cons_zero, List.getElem_cons_succ, List.setIfInBounds_toArray, List.set_cons_zero, List.set_cons_succ]
  refine wpAnyH_take (i := 7) (v := ?v7) rfl (by kernel_rfl) (by kernel_rfl) (by kernel_rfl) (fun _ _ _ h => h) (Or.inl ⟨by rfl, ?hy7⟩) (by assumption) ?rest7
  case hy7 => (intro W hSw; go_simp; first | done | with_reducible rfl)
  simp only [Act.put, List.getElem_toArray, List.getElem_cons_zero, List.getElem_cons_succ, List.setIfInBounds_toArray, List.set_cons_zero, List.set_cons_succ]
  refine wpAnyH_take (i := 8) (v := ?v8) rfl (by kernel_rfl) (by kernel_rfl) (by kernel_rfl) (fun _ _ _ h => h) (Or.inl ⟨by rfl, ?hy8⟩) (by assumption) ?rest8
  case hy8 => (intro W hSw; have cj := (cell_of_row _ _ 0 _ _ _ (hSw.heap K8.out id)).trans (rfl : _ = some (.int .i64 size : Value)); go_simp; first | done | with_reducible rfl)
  simp only [Act.put, List.getElem_toArray, List.getElem_cons_zero, List.getElem_cons_succ, List.setIfInBounds_toArray, List.set_cons_zero, List.set_cons_succ]
  refine wpAnyH_take (i := 9) (v := ?v9) rfl (by kernel_rfl) (by kernel_rfl) (by kernel_rfl) (fun _ _ _ h => h) (Or.inl ⟨by rfl, ?hy9⟩) (by assumption) ?rest9
  case hy9 => (intro W hSw; go_simp; first | done | with_reducible rfl)
  simp only [Act.put, List.getElem_toArray, List.getElem_cons_zero, List.getElem_cons_succ, List.setIfInBounds_toArray, List.set_cons_zero, List.set_cons_succ]
  refine wpAnyH_take (i := 10) (v := ?v10) rfl (by kernel_rfl) (by kernel_rfl) (by kernel_rfl) (fun _ _ _ h => h) (Or.inl ⟨by rfl, ?hy10⟩) (by assumption) ?rest10
  case hy10 => (intro W hSw; go_simp; first | done | with_reducible rfl)
  simp only [Act.put, List.getElem_toArray, List.getElem_cons_zero, List.getElem_cons_succ, List.setIfInBounds_toArray, List.set_cons_zero, List.set_cons_succ]
  refine wpAnyH_take (i := 11) (v := ?v11) rfl (by kernel_rfl) (by kernel_rfl) (by kernel_rfl) (fun _ _ _ h => h) (Or.inl ⟨by rfl, ?hy11⟩) (by assumption) ?rest11
  case hy11 => (intro W hSw; go_simp; first | done | with_reducible rfl)
  simp only [Act.put, List.getElem_toArray, List.getElem_cons_zero, List.getElem_cons_succ, List.setIfInBounds_toArray, List.set_cons_zero, List.set_cons_succ]
  refine wpAnyH_take (i := 12) (v := ?v12) rfl (by kernel_rfl) (by kernel_rfl) (by kernel_rfl) (fun _ _ _ h => h) (Or.inl ⟨by rfl, ?hy12⟩) (by assumption) ?rest12
  case hy12 => (intro W hSw; have harg := HARG.out; go_simp; first | done | with_reducible rfl)
  simp only [Act.put, List.getElem_toArray, List.getElem_cons_zero, List.getElem_cons_succ, List.setIfInBounds_toArray, List.set_cons_zero, List.set_cons_succ]
  refine wpAnyH_ready (rs := [13]) (by kernel_rfl) (by simp) ?_
  refine AllReadyH.cons (o := _) rfl (fun K hK => ?_) (AllReadyH.nil)
  simp only [List.getElem_toArray, List.getElem_cons_zero, List.getElem_cons_succ]
  go_simp
  refine (HL2.out _ HB11.out.drew).mono ?_
  rintro e w14 ⟨rfl, hb⟩
  refine hK.out _ _ (hHeld.trans (KX.of_below (X := (fun _ => False)) hb) (fun _ _ h => h)) (fun hHeld15 => ?_)
  clear hK K
  have K16 := Lib.hid (keepB (a := (w7).drew) K8.out hb)
  have K17 := Lib.hid (keepB (a := (w7).drew) K9.out hb)
  have K18 := Lib.hid (keepB (a := (w7).drew) K10.out hb)
  have HB19 := Lib.hid ((HB11.out.drew).trans (hb.mono (HB11.out.drew).size))
  clear HB11
  clear hb
  refine wpAnyH_take (i := 14) (v := ?v14) rfl (by kernel_rfl) (by kernel_rfl) (by kernel_rfl) (fun _ _ _ h => h) (Or.inl ⟨by rfl, ?hy14⟩) (by assumption) ?rest14
  case hy14 => (intro W hSw; go_simp; first | done | with_reducible rfl)
  simp only [Act.put, List.getElem_toArray, List.getElem_cons_zero, List.getElem_cons_succ, List.setIfInBounds_toArray, List.set_cons_zero, List.set_cons_succ]
  refine wpAnyH_take (i := 15) (v := ?v15) rfl (by kernel_rfl) (by kernel_rfl) (by kernel_rfl) (fun _ _ _ h => h) (Or.inl ⟨by rfl, ?hy15⟩) (by assumption) ?rest15
  case hy15 => (intro W hSw; go_simp; first | done | with_reducible rfl)
  simp only [Act.put, List.getElem_toArray, List.getElem_cons_zero, List.getElem_cons_succ, List.setIfInBounds_toArray, List.set_cons_zero, List.set_cons_succ]
  refine wpAnyH_take (i := 16) (v := ?v16) rfl (by kernel_rfl) (by kernel_rfl) (by kernel_rfl) (fun _ _ _ h => h) (Or.inl ⟨by rfl, ?hy16⟩) (by assumption) ?rest16
  case hy16 => (intro W hSw; go_simp; first | done | with_reducible rfl)
  simp only [Act.put, List.getElem_toArray, List.getElem_cons_zero, List.getElem_cons_succ, List.setIfInBounds_toArray, List.set_cons_zero, List.set_cons_succ]
  refine wpAnyH_take (i := 17) (v := ?v17) rfl (by kernel_rfl) (by kernel_rfl) (by kernel_rfl) (fun _ _ _ h => h) (Or.inl ⟨by rfl, ?hy17⟩) (by assumption) ?rest17
  case hy17 => (intro W hSw; go_simp; first | done | with_reducible rfl)
  simp only [Act.put, List.getElem_toArray, List.getElem_cons_zero, List.getElem_cons_succ, List.setIfInBounds_toArray, List.set_cons_zero, List.set_cons_succ]
  refine wpAnyH_take (i := 18) (v := ?v18) rfl (by kernel_rfl) (by kernel_rfl) (by kernel_rfl) (fun _ _ _ h => h) (Or.inl ⟨by rfl, ?hy18⟩) (by assumption) ?rest18
  case hy18 => (intro W hSw; go_simp; first | done | with_reducible rfl)
  simp only [Act.put, List.getElem_toArray, List.getElem_cons_zero, List.getElem_cons_succ, List.setIfInBounds_toArray, List.set_cons_zero, List.set_cons_succ]
  refine wpAnyH_done (by kernel_rfl) ?_ _
  clear hHeld15
  have cf20 := (cell_of_row _ _ 4 _ _ _ K16.out).trans (rfl : _ = some (.int .u16 la : Value))
  have cf21 := (cell_of_row _ _ 0 _ _ _ K16.out).trans (rfl : _ = some (.int .i64 size : Value))
  go_upto_region 12 with fail
  clear cf20 cf21
  clear HARG
  have cf22 := (cell_of_row _ _ 4 _ _ _ K16.out).trans (rfl : _ = some (.int .u16 la : Value))
  have f23 := frozen_of_row _ _ 4 _ _ K16.out
  have hkk : ((w14).setCell ⟨w.heap.size, 4, none⟩ (.int .u16 (IntKind.u16.wrap ((la : Int) + 1)))).heap[w.heap.size]? = some (.cells #[.int .i64 size, .int .u32 de, .int .u32 av, .int .u32 us, .int .u16 (IntKind.u16.wrap ((la : Int) + 1)), .int .u16 pu] 52 (0, 0)) := (set_cells K16.out).trans (rfl)
  have hx25 := Lib.hid (show KX (fun k => k = w.heap.size) w14 ((w14).setCell ⟨w.heap.size, 4, none⟩ (.int .u16 (IntKind.u16.wrap ((la : Int) + 1)))) from (KX.refl (fun k => k = w.heap.size) w14).setCell (p := ⟨w.heap.size, 4, none⟩) (.inl rfl) _)
  go_upto_region 13 with fail
  generalize (w14).setCell ⟨w.heap.size, 4, none⟩ (.int .u16 (IntKind.u16.wrap ((la : Int) + 1))) = w24 at hkk hx25 ⊢
  clear cf22 f23
  have K26 := Lib.hid (hx25.out.heap K17.out (by omega))
  clear K17
  have K27 := Lib.hid (hx25.out.heap K18.out (by omega))
  clear K18
  have K28 := Lib.hid hkk
  clear hkk K16
  have HB29 := Lib.hid (HB19.out.trans (hx25.out.below (B := w.heap.size) (fun k hk e => by omega) HB19.out.size))
  clear HB19 hx25
  have HO30 := Lib.hid (show (#[.int .i64 size, .int .u32 de, .int .u32 av, .int .u32 us, .int .u16 (IntKind.u16.wrap ((la : Int) + 1)), .int .u16 pu] : Array Value).all (·.oneCell') = true from by simp [Value.oneCell'])
  go_wp2_with (first | go_skip | (refine wpList_load_row rfl 52 _ rfl (w.heap.size) rfl 52 #[.int .i64 size, .int .u32 de, .int .u32 av, .int .u32 us, .int .u16 (IntKind.u16.wrap ((la : Int) + 1)), .int .u16 pu] (0, 0) _ K28.out Tryd.underlying52 rfl (by kernel_rfl) ?_) | (refine wpList_store_to rfl 52 _ _ rfl (w.heap.size + 1 + 1) #[.int .i64 size, .int .u32 de, .int .u32 av, .int .u32 us, .int .u16 (IntKind.u16.wrap ((la : Int) + 1)), .int .u16 pu] rfl rfl 52 #[.int .i64 0, .int .u32 0, .int .u32 0, .int .u32 0, .int .u16 0, .int .u16 0] K27.out (by kernel_rfl) rfl HO30.out ?_))
  intro w31 hx32 hkk
  have K33 := Lib.hid (hx32.out.heap K28.out (by omega))
  clear K28
  have K34 := Lib.hid (hx32.out.heap K26.out (by omega))
  clear K26
  have K35 := Lib.hid hkk
  clear hkk K27
  have HB36 := Lib.hid (HB29.out.trans (hx32.out.below (B := w.heap.size) (fun k hk e => by omega) HB29.out.size))
  clear HB29 hx32
  go_wp2_with fail
  exact bodyPost_ret (v := .tuple #[.agg #[.int .i64 size, .int .u32 de, .int .u32 av, .int .u32 us, .int .u16 (IntKind.u16.wrap ((la : Int) + 1)), .int .u16 pu], .int .i64 hd, .bool true, .int .i64 0]) (results_cell_tmp3 Tryd.results48 _ _ (w.heap.size + 1 + 1) 52 #[.int .i64 size, .int .u32 de, .int .u32 av, .int .u32 us, .int .u16 (IntKind.u16.wrap ((la : Int) + 1)), .int .u16 pu] (0, 0) _ rfl K35.out Tryd.underlying52 rfl (by kernel_rfl)) rfl ⟨rfl, HB36.out⟩
def next13V (q : Rg) : Option (Option Nat) → Value
  | none => .tuple #[.agg Rg.zero.c, .int .i64 0, .bool false, .int .i64 (errR q : Nat)]
  | some none => .tuple #[.agg q.c, .int .i64 0, .bool false, .int .i64 0]
  | some (some h) => .tuple #[.agg q.took.c, .int .i64 h, .bool true, .int .i64 0]
theorem ref13_Next {B : Nat} {v : Value} {m : Mm} {w : World} (q : Rg) (hq : q.wf) (h : RefAt w B v m) :
    Calls Tryd.prog 48 #[.agg q.c, v] w fun e w' => e = .returned (next13V q (rnext q m)) ∧ Below w.heap.size w w' := by
  have HB := fun W => ref13_Check q W
  obtain ⟨n1, n2, b1, c1, b2, c2, ⟨rfl, hcc⟩, g1, g2, r1, r2⟩ := h
  by_cases hok : q.okP
  · obtain ⟨h1, h2, h3, h4, h5, h6⟩ := hok
    have hok : q.okP := ⟨h1, h2, h3, h4, h5, h6⟩
    obtain ⟨n, hn⟩ : ∃ n : Nat, q.size = (n : Int) := ⟨q.size.toNat, by omega⟩
    have hn1 : 1 ≤ n := by omega
    have hn2 : n ≤ 256 := by omega
    have hav := hq.hav
    have hla := hq.hla
    rw [if_pos hok] at HB
    have hqc : q.c = #[.int .i64 n, .int .u32 q.de, .int .u32 q.av, .int .u32 q.us, .int .u16 q.la, .int .u16 q.pu] := by unfold Rg.c; rw [hn]
    have HL : ∀ W, Below w.heap.size w W → Calls Tryd.prog 85 #[.agg (refC b1 (4096 * m.n) c1 b2 m.n c2 m.wr), .int .u32 (((q.av : Int) + 2) % 4294967296), .int .i64 2] W fun e w' => e = .returned (loadB (rload m ((q.av + 2) % 4294967296) 2)) ∧ Below W.heap.size W w' := fun W hb =>
      ref13_load m.f (4096 * m.n) b1 c1 b2 m.n c2 m.wr ((q.av + 2) % 4294967296) 2 _ 2 (by omega) rfl W (r1.below hb) (.inl rfl) (by omega) (by omega) (by omega) (by omega)
    have HL2 : ∀ W, Below w.heap.size w W → Calls Tryd.prog 85 #[.agg (refC b1 (4096 * m.n) c1 b2 m.n c2 m.wr), .int .u32 (((q.av + 4 + 2 * (q.la % n)) % 4294967296 : Nat) : Int), .int .i64 2] W fun e w' => e = .returned (loadB (rload m ((q.av + 4 + 2 * (q.la % n)) % 4294967296) 2)) ∧ Below W.heap.size W w' := fun W hb =>
      ref13_load m.f (4096 * m.n) b1 c1 b2 m.n c2 m.wr _ 2 _ 2 rfl rfl W (r1.below hb) (.inl rfl) (by omega) (by omega) (by omega) (by omega)
    have hnn : q.size.toNat = n := by omega
    have hE : next13V q none = .tuple #[.agg Rg.zero.c, .int .i64 0, .bool false, .int .i64 22] := by unfold next13V errR; rw [if_pos hok]; rfl
    have hS : next13V q (some none) = .tuple #[.agg #[.int .i64 n, .int .u32 q.de, .int .u32 q.av, .int .u32 q.us, .int .u16 q.la, .int .u16 q.pu], .int .i64 0, .bool false, .int .i64 0] := by unfold next13V; rw [hqc]
    have hT : ∀ x : Nat, next13V q (some (some x)) = .tuple #[.agg #[.int .i64 n, .int .u32 q.de, .int .u32 q.av, .int .u32 q.us, .int .u16 ((q.la + 1) % 65536 : Nat), .int .u16 q.pu], .int .i64 x, .bool true, .int .i64 0] := fun x => by
      have ht : q.took.c = #[.int .i64 n, .int .u32 q.de, .int .u32 q.av, .int .u32 q.us, .int .u16 ((q.la + 1) % 65536 : Nat), .int .u16 q.pu] := by unfold Rg.took Rg.c; rw [hn]
      unfold next13V
      rw [ht]
    unfold rnext
    rw [if_pos hok, hnn]
    rw [hqc] at HB ⊢
    obtain ⟨rc, hrc⟩ : ∃ rc, rc = refC b1 (4096 * m.n) c1 b2 m.n c2 m.wr := ⟨_, rfl⟩
    have hr3 : rc.size = 3 := by rw [hrc]; rfl
    rw [← hrc] at HL HL2 ⊢
    cases e1 : rload m ((q.av + 2) % 4294967296) 2 with
    | none =>
      rw [e1] at HL
      simp only
      rw [hE]
      exact ref13_Next_noload n q.de q.av q.us q.la q.pu rc hr3 w (Lib.hid HB) (Lib.hid HL)
    | some c =>
      have hc := rload_lt2 e1
      rw [e1] at HL
      simp only
      have hdd : ((c : Int) - (q.la : Int) + 65536) % 65536 = (((c + 65536 - q.la) % 65536 : Nat) : Int) := by omega
      by_cases hcl : c = q.la
      · rw [if_pos hcl, hS]
        exact ref13_Next_none n q.de q.av q.us q.la q.pu rc hr3 w c _ (Lib.hid HB) (Lib.hid HL) hla hc hdd (by omega)
      · rw [if_neg hcl]
        have hd0 : ¬ (c + 65536 - q.la) % 65536 = 0 := by omega
        generalize (c + 65536 - q.la) % 65536 = dd at hdd hd0
        by_cases hfar : q.size < (dd : Int)
        · rw [if_pos hfar, hE]
          cases e2 : rload m ((q.av + 4 + 2 * (q.la % n)) % 4294967296) 2 with
          | none =>
            rw [e2] at HL2
            exact ref13_Next_far n q.de q.av q.us q.la q.pu rc hr3 w c dd (Lib.hid HB) (Lib.hid HL) hla hc hdd hd0 hn1 hn2 _ (Lib.hid (next_arg q.av q.la n hla hn1 hn2)) 0 false (Lib.hid HL2) (by omega)
          | some y =>
            rw [e2] at HL2
            exact ref13_Next_far n q.de q.av q.us q.la q.pu rc hr3 w c dd (Lib.hid HB) (Lib.hid HL) hla hc hdd hd0 hn1 hn2 _ (Lib.hid (next_arg q.av q.la n hla hn1 hn2)) y true (Lib.hid HL2) (by omega)
        · rw [if_neg hfar]
          cases e2 : rload m ((q.av + 4 + 2 * (q.la % n)) % 4294967296) 2 with
          | none =>
            rw [e2] at HL2
            simp only
            rw [hE]
            exact ref13_Next_noload2 n q.de q.av q.us q.la q.pu rc hr3 w c dd (Lib.hid HB) (Lib.hid HL) hla hc hdd hd0 hn1 hn2 _ (Lib.hid (next_arg q.av q.la n hla hn1 hn2)) (Lib.hid HL2) (by omega)
          | some hd =>
            have hhd := rload_lt2 e2
            rw [e2] at HL2
            simp only
            by_cases hlt : hd < n
            · rw [if_pos hlt]
              have hz := ref13_Next_some n q.de q.av q.us q.la q.pu rc hr3 w c dd (Lib.hid HB) (Lib.hid HL) hla hc hdd hd0 hn1 hn2 _ (Lib.hid (next_arg q.av q.la n hla hn1 hn2)) hd (Lib.hid HL2) (by omega) hlt
              rw [show IntKind.u16.wrap ((q.la : Int) + 1) = (((q.la + 1) % 65536 : Nat) : Int) by rw [IntKind.wrap_u16]; omega] at hz
              rw [hT]
              exact hz
            · rw [if_neg hlt, hE]
              exact ref13_Next_high n q.de q.av q.us q.la q.pu rc hr3 w c dd (Lib.hid HB) (Lib.hid HL) hla hc hdd hd0 hn1 hn2 _ (Lib.hid (next_arg q.av q.la n hla hn1 hn2)) hd (Lib.hid HL2) (by omega) (by omega) hhd
  · have hn : rnext q m = none := if_neg hok
    rw [hn]
    rw [if_neg hok] at HB
    unfold next13V errR
    rw [if_neg hok]
    exact ref13_Next_bad q.size q.de q.av q.us q.la q.pu _ rfl w (Lib.hid HB)
end Go.Proofs.YtcmbnkmbaghkdaaDoor

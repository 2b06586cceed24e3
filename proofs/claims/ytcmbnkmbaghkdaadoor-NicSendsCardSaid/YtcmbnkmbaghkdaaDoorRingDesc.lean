/-
ring.desc, walked: a descriptor's part, and which one follows.
Condition: the table of regions of package bus reads as its text lays it.
-/
import Derived.Test.YtcmbnkmbaghkdaaDoorG3
namespace Go.Proofs.YtcmbnkmbaghkdaaDoor
open Go.RowKit
set_option linter.unusedVariables false

/-- A part of a chain. -/
structure Sg where
  at_ : Nat
  n : Nat
  wr : Bool
deriving DecidableEq
def Sg.c (s : Sg) : Array Value := #[.int .u32 s.at_, .int .i64 s.n, .bool s.wr]
/-- What a descriptor tells. -/
def rdesc (m : Mm) (a : Nat) : Option (Sg × Int) :=
  match rload m (a + 4 * 0) 4, rload m (a + 4 * 1) 4, rload m (a + 4 * 2) 4, rload m (a + 4 * 3) 4 with
  | some x0, some x1, some x2, some x3 => if x1 = 0 ∧ x3 % 65536 < 4 ∧ x2 ≤ 1048576 ∧ lies m x0 x2 then some (⟨x0, x2, decide (x3 / 2 % 2 = 1)⟩, if x3 % 2 = 1 then ((x3 / 65536 : Nat) : Int) else -1) else none
  | _, _, _, _ => none
def descV : Option (Sg × Int) → Value
  | some (s, nx) => .tuple #[.agg s.c, .int .i64 nx, .nilIface]
  | none => .tuple #[.agg #[.int .u32 0, .int .i64 0, .bool false], .int .i64 0, .iface 104 (.int .i64 22)]
def wrow4 (x0 x1 x2 x3 : Nat) (i : Nat) : Array Value := #[.int .u32 (if 0 < i then (x0 : Int) else 0), .int .u32 (if 1 < i then (x1 : Int) else 0), .int .u32 (if 2 < i then (x2 : Int) else 0), .int .u32 (if 3 < i then (x3 : Int) else 0)]
theorem ring_three (w : World) (A B C : Obj) : (((w.alloc A).alloc B).alloc C).heap[w.heap.size]? = some A ∧ (((w.alloc A).alloc B).alloc C).heap[w.heap.size + 1]? = some B ∧ (((w.alloc A).alloc B).alloc C).heap[w.heap.size + 1 + 1]? = some C ∧ Below w.heap.size w (((w.alloc A).alloc B).alloc C) := by
  obtain ⟨h1, h2, h3⟩ := two_new w A B
  have hs : ((w.alloc A).alloc B).heap.size = w.heap.size + 1 + 1 := by simp
  refine ⟨(Below.heap_alloc _ _ _ (by omega)).trans h1, (Below.heap_alloc _ _ _ (by omega)).trans h2, ?_, h3.alloc (by omega) _⟩
  rw [← hs]
  exact heap_alloc_new _ _

set_option maxRecDepth 100000 in
set_option maxHeartbeats 4000000 in
theorem ring_desc_out {g : Nat} {m : Mm} {F : Nat → Prop} {w : World} (size de av us la pu i a : Nat) (h : RamIs w g m F) (hde : de < 4294967296) (hd16 : de % 16 = 0) (hi : i < 256) (ha : a = (de + 16 * i) % 4294967296)
    (HL : Hid (∀ W F' (j : Nat) (ai : Int), RamIs W g m F' → MemStep F F' w W → j < 4 → ai = ((a + 4 * j : Nat) : Int) → Calls Tryd.prog 111 #[.pointer (some ⟨g, 0, none⟩), .int .u32 ai, .int .i64 4] W fun e w' => ∃ F2, e = .returned (loadV (rload m (a + 4 * j) 4)) ∧ RamIs w' g m F2 ∧ MemStep F' F2 W w'))
    (hout : rload m (a + 4 * 0) 4 = none) :
    Calls Tryd.prog 112 #[.agg #[.int .i64 size, .int .u32 de, .int .u32 av, .int .u32 us, .int .u16 la, .int .u16 pu], .pointer (some ⟨g, 0, none⟩), .int .i64 i] w fun e w' => ∃ F2, e = .returned (.tuple #[.agg #[.int .u32 0, .int .i64 0, .bool false], .int .i64 0, .iface 104 (.int .i64 22)]) ∧ RamIs w' g m F2 ∧ MemStep F F2 w w' := by
  obtain ⟨k0, k1, k2, hb0⟩ := ring_three w (.cells #[.int .i64 size, .int .u32 de, .int .u32 av, .int .u32 us, .int .u16 la, .int .u16 pu] 68) (.cells #[.int .u32 0, .int .i64 0, .bool false] 196) (.cells #[.int .u32 0, .int .u32 0, .int .u32 0, .int .u32 0] 273)
  have K0 := Lib.hid k0
  have K1 := Lib.hid k1
  have K2 := Lib.hid k2
  have HB0 := Lib.hid hb0
  have HLT := Lib.hid h.lt
  have HR0 := Lib.hid (And.intro (h.below hb0) (MemStep.of_below (F := F) hb0))
  have hn0 : ¬ F w.heap.size := fun hf => absurd (HLT.out _ hf) (Nat.lt_irrefl _)
  have hn1 : ¬ F (w.heap.size + 1) := fun hf => by have := HLT.out _ hf; omega
  have hn2 : ¬ F (w.heap.size + 1 + 1) := fun hf => by have := HLT.out _ hf; omega
  have HN := Lib.hid (And.intro hn0 (And.intro hn1 hn2))
  have HA := Lib.hid (And.intro ha (And.intro hde (And.intro hd16 hi)))
  have hi0 : (0 : Int) ≤ (i : Int) := by omega
  have hi1 : (i : Int) < 256 := by omega
  clear k0 k1 k2 hb0 h hn0 hn1 hn2 ha hde hd16 hi
  go_enter Tryd.func112, Tryd.ntmps112
  go_upto_region 2 with fail
  go_wp2_with fail
  go_loopw [16] (fun v wr => v = .int .i64 0 ∧ wr = (((w.alloc (.cells #[.int .i64 size, .int .u32 de, .int .u32 av, .int .u32 us, .int .u16 la, .int .u16 pu] 68)).alloc (.cells #[.int .u32 0, .int .i64 0, .bool false] 196)).alloc (.cells #[.int .u32 0, .int .u32 0, .int .u32 0, .int .u32 0] 273))) (fun _ _ => 0)
  case atStart => exact ⟨rfl, rfl⟩
  case round =>
    obtain ⟨rfl, rfl⟩ := hrel
    generalize (((w.alloc (.cells #[.int .i64 size, .int .u32 de, .int .u32 av, .int .u32 us, .int .u16 la, .int .u16 pu] 68)).alloc (.cells #[.int .u32 0, .int .i64 0, .bool false] 196)).alloc (.cells #[.int .u32 0, .int .u32 0, .int .u32 0, .int .u32 0] 273)) = w1 at K0 K1 K2 HB0 HR0 ⊢
    have HL1 := Lib.hid (fun ai e => HL.out w1 F 0 ai HR0.out.1 HR0.out.2 (by omega) e)
    rw [hout] at HL1
    have c1 := (cell_of_row _ _ 1 _ _ _ K0.out).trans (rfl : _ = some (.int .u32 de : Value))
    go_wp2_with fail
    refine (HL1.out _ (by have h := HA.out; omega)).mono ?_
    rintro e w2 ⟨F2, rfl, h1, h2⟩
    unfold loadV
    have K3 := Lib.hid (h2.heap K1.out HN.out.2.1)
    have HN3 := Lib.hid (h2.off (lt_heap K1.out) HN.out.2.1)
    have HR2 := Lib.hid (And.intro h1 (HR0.out.2.trans h2))
    clear h1 h2 HL1 c1
    have HO := Lib.hid (show (#[.int .u32 0, .int .i64 0, .bool false] : Array Value).all (·.oneCell') = true by simp [Value.oneCell'])
    go_wp2_with (first | go_skip | (refine wpList_store_to rfl 196 _ _ rfl (w.heap.size + 1) #[.int .u32 0, .int .i64 0, .bool false] rfl rfl 196 #[.int .u32 0, .int .i64 0, .bool false] K3.out (by kernel_rfl) rfl HO.out ?_))
    intro w20 hx hk
    have HRF := Lib.hid (And.intro (HR2.out.1.kx hx.out (fun k _ hf e => by subst e; exact HN3.out hf)) (HR2.out.2.own hx.out (by omega)))
    go_wp2_with fail
    exact bodyPost_ret (v := .tuple #[.agg #[.int .u32 0, .int .i64 0, .bool false], .int .i64 0, .iface 104 (.int .i64 22)]) (results_cell_tmp2 Tryd.results112 _ _ (w.heap.size + 1) 196 #[.int .u32 0, .int .i64 0, .bool false] (0, 0) _ rfl hk Tryd.underlying196 rfl (by kernel_rfl)) rfl ⟨F2, rfl, HRF.out.1, HRF.out.2⟩
set_option maxRecDepth 100000 in
set_option maxHeartbeats 4000000 in
theorem ring_desc_in {g : Nat} {m : Mm} {F : Nat → Prop} {w : World} (size de av us la pu i a : Nat) (h : RamIs w g m F) (hde : de < 4294967296) (hd16 : de % 16 = 0) (hi : i < 256) (ha : a = (de + 16 * i) % 4294967296)
    (HL : Hid (∀ W F' (j : Nat) (ai : Int), RamIs W g m F' → MemStep F F' w W → j < 4 → ai = ((a + 4 * j : Nat) : Int) → Calls Tryd.prog 111 #[.pointer (some ⟨g, 0, none⟩), .int .u32 ai, .int .i64 4] W fun e w' => ∃ F2, e = .returned (loadV (rload m (a + 4 * j) 4)) ∧ RamIs w' g m F2 ∧ MemStep F' F2 W w'))
    (x0 x1 x2 x3 : Nat) (e0 : rload m (a + 4 * 0) 4 = some x0) (e1 : rload m (a + 4 * 1) 4 = some x1) (e2 : rload m (a + 4 * 2) 4 = some x2) (e3 : rload m (a + 4 * 3) 4 = some x3) (hx0 : x0 < 4294967296) (hx2 : x2 < 4294967296) (hx3 : x3 < 4294967296)
    (mk p1 p2 p3 : Nat) (wb : Bool) (B1 : bits BinOp.and IntKind.u32 (x3 : Int) 65535 = (mk : Int)) (B2 : bits BinOp.and IntKind.u32 (mk : Int) 2 = (p2 : Int)) (B3 : bits BinOp.andNot IntKind.u32 (mk : Int) 3 = (p3 : Int)) (B4 : bits BinOp.and IntKind.u32 (mk : Int) 1 = (p1 : Int)) (hw : ((p2 : Int) != 0) = wb)
    (HT1 : Hid (∀ W F', RamIs W g m F' → MemStep F F' w W → lies m x0 x2 → Calls Tryd.prog 125 #[.pointer (some ⟨g, 0, none⟩), .int .u32 x0, .int .i64 x2] W fun e w' => e = .returned .nilIface ∧ Below W.heap.size W w'))
    (HT2 : Hid (∀ W F', RamIs W g m F' → MemStep F F' w W → ¬ lies m x0 x2 → Calls Tryd.prog 125 #[.pointer (some ⟨g, 0, none⟩), .int .u32 x0, .int .i64 x2] W fun e w' => e = .returned (.iface 104 (.int .i64 22)) ∧ Below W.heap.size W w'))
    (HRD : Hid (rdesc m a = if x1 = 0 ∧ p3 = 0 ∧ x2 ≤ 1048576 ∧ lies m x0 x2 then some (⟨x0, x2, wb⟩, if p1 = 0 then -1 else ((x3 / 65536 : Nat) : Int)) else none)) :
    Calls Tryd.prog 112 #[.agg #[.int .i64 size, .int .u32 de, .int .u32 av, .int .u32 us, .int .u16 la, .int .u16 pu], .pointer (some ⟨g, 0, none⟩), .int .i64 i] w fun e w' => ∃ F2, e = .returned (descV (rdesc m a)) ∧ RamIs w' g m F2 ∧ MemStep F F2 w w' := by
  obtain ⟨k0, k1, k2, hb0⟩ := ring_three w (.cells #[.int .i64 size, .int .u32 de, .int .u32 av, .int .u32 us, .int .u16 la, .int .u16 pu] 68) (.cells #[.int .u32 0, .int .i64 0, .bool false] 196) (.cells #[.int .u32 0, .int .u32 0, .int .u32 0, .int .u32 0] 273)
  have K0 := Lib.hid k0
  have K1 := Lib.hid k1
  have K2 := Lib.hid k2
  have HB0 := Lib.hid hb0
  have HLT := Lib.hid h.lt
  have HR0 := Lib.hid (And.intro (h.below hb0) (MemStep.of_below (F := F) hb0))
  have hn0 : ¬ F w.heap.size := fun hf => absurd (HLT.out _ hf) (Nat.lt_irrefl _)
  have hn1 : ¬ F (w.heap.size + 1) := fun hf => by have := HLT.out _ hf; omega
  have hn2 : ¬ F (w.heap.size + 1 + 1) := fun hf => by have := HLT.out _ hf; omega
  have HN := Lib.hid (And.intro hn0 (And.intro hn1 hn2))
  have HA := Lib.hid (And.intro ha (And.intro hde (And.intro hd16 hi)))
  have hi0 : (0 : Int) ≤ (i : Int) := by omega
  have hi1 : (i : Int) < 256 := by omega
  clear k0 k1 k2 hb0 h hn0 hn1 hn2 ha hde hd16 hi
  go_enter Tryd.func112, Tryd.ntmps112
  go_upto_region 2 with fail
  go_wp2_with fail
  have HE := Lib.hid (And.intro e0 (And.intro e1 (And.intro e2 e3)))
  clear e0 e1 e2 e3
  go_loopw [16] (fun v wr => ∃ (j : Nat) (F' : Nat → Prop), j ≤ 4 ∧ v = .int .i64 j ∧ RamIs wr g m F' ∧ MemStep F F' w wr ∧ ¬ F' w.heap.size ∧ ¬ F' (w.heap.size + 1) ∧ ¬ F' (w.heap.size + 1 + 1) ∧ wr.heap[w.heap.size]? = some (.cells #[.int .i64 size, .int .u32 de, .int .u32 av, .int .u32 us, .int .u16 la, .int .u16 pu] 68 (0, 0)) ∧ wr.heap[w.heap.size + 1]? = some (.cells #[.int .u32 0, .int .i64 0, .bool false] 196 (0, 0)) ∧ wr.heap[w.heap.size + 1 + 1]? = some (.cells (wrow4 x0 x1 x2 x3 j) 273 (0, 0))) (fun v _ => 4 - (intOf v).toNat)
  case atStart => exact ⟨0, F, by omega, rfl, HR0.out.1, HR0.out.2, HN.out.1, HN.out.2.1, HN.out.2.2, K0.out, K1.out, K2.out⟩
  case round =>
    clear K0 K1 K2 HB0 HR0 HN
    obtain ⟨j, F1, hj, rfl, hr1, hs1, hn0, hn1, hn2, k0, k1, k2⟩ := hrel
    have HR1 := Lib.hid (And.intro hr1 hs1)
    have HN := Lib.hid (And.intro hn0 (And.intro hn1 hn2))
    have K0 := Lib.hid k0
    have K1 := Lib.hid k1
    have K2 := Lib.hid k2
    clear hr1 hs1 hn0 hn1 hn2 k0 k1 k2
    have hcase : j = 0 ∨ j = 1 ∨ j = 2 ∨ j = 3 ∨ j = 4 := by omega
    clear hj
    rcases hcase with rfl | rfl | rfl | rfl | rfl
    · have HL1 := Lib.hid (fun ai e => HL.out wr F1 0 ai HR1.out.1 HR1.out.2 (by omega) e)
      rw [HE.out.1] at HL1
      have c1 := (cell_of_row _ _ 1 _ _ _ K0.out).trans (rfl : _ = some (.int .u32 de : Value))
      go_wp2_with fail
      refine (HL1.out _ (by have h := HA.out; omega)).mono ?_
      rintro e w2 ⟨F2, rfl, h1, h2⟩
      unfold loadV
      have HN2 := Lib.hid (And.intro (h2.off (lt_heap K0.out) HN.out.1) (And.intro (h2.off (lt_heap K1.out) HN.out.2.1) (h2.off (lt_heap K2.out) HN.out.2.2)))
      have K3 := Lib.hid (h2.heap K0.out HN.out.1)
      have K4 := Lib.hid (h2.heap K1.out HN.out.2.1)
      have K5 := Lib.hid (h2.heap K2.out HN.out.2.2)
      have HR2 := Lib.hid (And.intro h1 (HR1.out.2.trans h2))
      clear h1 h2 HL1 c1 K0 K1 K2 HN
      have c5 := (cell_of_row _ _ 0 _ _ _ K5.out).trans (rfl : _ = some (.int .u32 0 : Value))
      have f5 := fun j => frozen_of_row _ _ j _ _ K5.out
      have hkx : KX (fun q => q = w.heap.size + 1 + 1) w2 (w2.setCell ⟨w.heap.size + 1 + 1, 0, none⟩ (.int .u32 (x0 : Nat))) := (KX.refl (fun q => q = w.heap.size + 1 + 1) w2).setCell (p := ⟨w.heap.size + 1 + 1, 0, none⟩) (.inl rfl) _
      have HKX := Lib.hid hkx
      have HC5 := Lib.hid ((set_cells (i := 0) (v := .int .u32 (x0 : Nat)) K5.out).trans (show _ = some (Obj.cells (wrow4 x0 x1 x2 x3 (0 + 1)) 273 (0, 0)) from rfl))
      clear hkx
      go_upto_region 9 with fail
      clear c5 f5
      generalize w2.setCell ⟨w.heap.size + 1 + 1, 0, none⟩ (.int .u32 (x0 : Nat)) = w3 at HKX HC5 ⊢
      go_wp2_with fail
      go_roundw
      case rel => exact ⟨0 + 1, F2, by omega, rfl, HR2.out.1.kx HKX.out (fun k _ hf e => by subst e; exact HN2.out.2.2 hf), HR2.out.2.own HKX.out (by omega), HN2.out.1, HN2.out.2.1, HN2.out.2.2, HKX.out.heap K3.out (by omega), HKX.out.heap K4.out (by omega), HC5.out⟩
      case measure => simp [intOf]
    · have HL1 := Lib.hid (fun ai e => HL.out wr F1 1 ai HR1.out.1 HR1.out.2 (by omega) e)
      rw [HE.out.2.1] at HL1
      have c1 := (cell_of_row _ _ 1 _ _ _ K0.out).trans (rfl : _ = some (.int .u32 de : Value))
      go_wp2_with fail
      refine (HL1.out _ (by have h := HA.out; omega)).mono ?_
      rintro e w2 ⟨F2, rfl, h1, h2⟩
      unfold loadV
      have HN2 := Lib.hid (And.intro (h2.off (lt_heap K0.out) HN.out.1) (And.intro (h2.off (lt_heap K1.out) HN.out.2.1) (h2.off (lt_heap K2.out) HN.out.2.2)))
      have K3 := Lib.hid (h2.heap K0.out HN.out.1)
      have K4 := Lib.hid (h2.heap K1.out HN.out.2.1)
      have K5 := Lib.hid (h2.heap K2.out HN.out.2.2)
      have HR2 := Lib.hid (And.intro h1 (HR1.out.2.trans h2))
      clear h1 h2 HL1 c1 K0 K1 K2 HN
      have c5 := (cell_of_row _ _ 1 _ _ _ K5.out).trans (rfl : _ = some (.int .u32 0 : Value))
      have f5 := fun j => frozen_of_row _ _ j _ _ K5.out
      have hkx : KX (fun q => q = w.heap.size + 1 + 1) w2 (w2.setCell ⟨w.heap.size + 1 + 1, 1, none⟩ (.int .u32 (x1 : Nat))) := (KX.refl (fun q => q = w.heap.size + 1 + 1) w2).setCell (p := ⟨w.heap.size + 1 + 1, 1, none⟩) (.inl rfl) _
      have HKX := Lib.hid hkx
      have HC5 := Lib.hid ((set_cells (i := 1) (v := .int .u32 (x1 : Nat)) K5.out).trans (show _ = some (Obj.cells (wrow4 x0 x1 x2 x3 (1 + 1)) 273 (0, 0)) from rfl))
      clear hkx
      go_upto_region 9 with fail
      clear c5 f5
      generalize w2.setCell ⟨w.heap.size + 1 + 1, 1, none⟩ (.int .u32 (x1 : Nat)) = w3 at HKX HC5 ⊢
      go_wp2_with fail
      go_roundw
      case rel => exact ⟨1 + 1, F2, by omega, rfl, HR2.out.1.kx HKX.out (fun k _ hf e => by subst e; exact HN2.out.2.2 hf), HR2.out.2.own HKX.out (by omega), HN2.out.1, HN2.out.2.1, HN2.out.2.2, HKX.out.heap K3.out (by omega), HKX.out.heap K4.out (by omega), HC5.out⟩
      case measure => simp [intOf]
    · have HL1 := Lib.hid (fun ai e => HL.out wr F1 2 ai HR1.out.1 HR1.out.2 (by omega) e)
      rw [HE.out.2.2.1] at HL1
      have c1 := (cell_of_row _ _ 1 _ _ _ K0.out).trans (rfl : _ = some (.int .u32 de : Value))
      go_wp2_with fail
      refine (HL1.out _ (by have h := HA.out; omega)).mono ?_
      rintro e w2 ⟨F2, rfl, h1, h2⟩
      unfold loadV
      have HN2 := Lib.hid (And.intro (h2.off (lt_heap K0.out) HN.out.1) (And.intro (h2.off (lt_heap K1.out) HN.out.2.1) (h2.off (lt_heap K2.out) HN.out.2.2)))
      have K3 := Lib.hid (h2.heap K0.out HN.out.1)
      have K4 := Lib.hid (h2.heap K1.out HN.out.2.1)
      have K5 := Lib.hid (h2.heap K2.out HN.out.2.2)
      have HR2 := Lib.hid (And.intro h1 (HR1.out.2.trans h2))
      clear h1 h2 HL1 c1 K0 K1 K2 HN
      have c5 := (cell_of_row _ _ 2 _ _ _ K5.out).trans (rfl : _ = some (.int .u32 0 : Value))
      have f5 := fun j => frozen_of_row _ _ j _ _ K5.out
      have hkx : KX (fun q => q = w.heap.size + 1 + 1) w2 (w2.setCell ⟨w.heap.size + 1 + 1, 2, none⟩ (.int .u32 (x2 : Nat))) := (KX.refl (fun q => q = w.heap.size + 1 + 1) w2).setCell (p := ⟨w.heap.size + 1 + 1, 2, none⟩) (.inl rfl) _
      have HKX := Lib.hid hkx
      have HC5 := Lib.hid ((set_cells (i := 2) (v := .int .u32 (x2 : Nat)) K5.out).trans (show _ = some (Obj.cells (wrow4 x0 x1 x2 x3 (2 + 1)) 273 (0, 0)) from rfl))
      clear hkx
      go_upto_region 9 with fail
      clear c5 f5
      generalize w2.setCell ⟨w.heap.size + 1 + 1, 2, none⟩ (.int .u32 (x2 : Nat)) = w3 at HKX HC5 ⊢
      go_wp2_with fail
      go_roundw
      case rel => exact ⟨2 + 1, F2, by omega, rfl, HR2.out.1.kx HKX.out (fun k _ hf e => by subst e; exact HN2.out.2.2 hf), HR2.out.2.own HKX.out (by omega), HN2.out.1, HN2.out.2.1, HN2.out.2.2, HKX.out.heap K3.out (by omega), HKX.out.heap K4.out (by omega), HC5.out⟩
      case measure => simp [intOf]
    · have HL1 := Lib.hid (fun ai e => HL.out wr F1 3 ai HR1.out.1 HR1.out.2 (by omega) e)
      rw [HE.out.2.2.2] at HL1
      have c1 := (cell_of_row _ _ 1 _ _ _ K0.out).trans (rfl : _ = some (.int .u32 de : Value))
      go_wp2_with fail
      refine (HL1.out _ (by have h := HA.out; omega)).mono ?_
      rintro e w2 ⟨F2, rfl, h1, h2⟩
      unfold loadV
      have HN2 := Lib.hid (And.intro (h2.off (lt_heap K0.out) HN.out.1) (And.intro (h2.off (lt_heap K1.out) HN.out.2.1) (h2.off (lt_heap K2.out) HN.out.2.2)))
      have K3 := Lib.hid (h2.heap K0.out HN.out.1)
      have K4 := Lib.hid (h2.heap K1.out HN.out.2.1)
      have K5 := Lib.hid (h2.heap K2.out HN.out.2.2)
      have HR2 := Lib.hid (And.intro h1 (HR1.out.2.trans h2))
      clear h1 h2 HL1 c1 K0 K1 K2 HN
      have c5 := (cell_of_row _ _ 3 _ _ _ K5.out).trans (rfl : _ = some (.int .u32 0 : Value))
      have f5 := fun j => frozen_of_row _ _ j _ _ K5.out
      have hkx : KX (fun q => q = w.heap.size + 1 + 1) w2 (w2.setCell ⟨w.heap.size + 1 + 1, 3, none⟩ (.int .u32 (x3 : Nat))) := (KX.refl (fun q => q = w.heap.size + 1 + 1) w2).setCell (p := ⟨w.heap.size + 1 + 1, 3, none⟩) (.inl rfl) _
      have HKX := Lib.hid hkx
      have HC5 := Lib.hid ((set_cells (i := 3) (v := .int .u32 (x3 : Nat)) K5.out).trans (show _ = some (Obj.cells (wrow4 x0 x1 x2 x3 (3 + 1)) 273 (0, 0)) from rfl))
      clear hkx
      go_upto_region 9 with fail
      clear c5 f5
      generalize w2.setCell ⟨w.heap.size + 1 + 1, 3, none⟩ (.int .u32 (x3 : Nat)) = w3 at HKX HC5 ⊢
      go_wp2_with fail
      go_roundw
      case rel => exact ⟨3 + 1, F2, by omega, rfl, HR2.out.1.kx HKX.out (fun k _ hf e => by subst e; exact HN2.out.2.2 hf), HR2.out.2.own HKX.out (by omega), HN2.out.1, HN2.out.2.1, HN2.out.2.2, HKX.out.heap K3.out (by omega), HKX.out.heap K4.out (by omega), HC5.out⟩
      case measure => simp [intOf]
    · clear HL HE
      have d0 := (cell_of_row _ _ 0 _ _ _ K2.out).trans (rfl : _ = some (.int .u32 (x0 : Nat) : Value))
      have d1 := (cell_of_row _ _ 1 _ _ _ K2.out).trans (rfl : _ = some (.int .u32 (x1 : Nat) : Value))
      have d2 := (cell_of_row _ _ 2 _ _ _ K2.out).trans (rfl : _ = some (.int .u32 (x2 : Nat) : Value))
      have d3 := (cell_of_row _ _ 3 _ _ _ K2.out).trans (rfl : _ = some (.int .u32 (x3 : Nat) : Value))
      by_cases hx1 : x1 = 0
      · have c1 : ((x1 : Int) != 0) = false := by simp [hx1]
        by_cases hp3 : p3 = 0
        · have c2 : ((p3 : Int) != 0) = false := by simp [hp3]
          by_cases hbig : x2 ≤ 1048576
          · have c3 : ¬ (1048576 : Int) < (x2 : Int) := by omega
            by_cases hl : lies m x0 x2
            · have HT1a := Lib.hid (fun W F' h1 h2 => HT1.out W F' h1 h2 hl)
              by_cases hp1 : p1 = 0
              · have c4 : ((p1 : Int) == 0) = true := by simp [hp1]
                have HV := Lib.hid (show descV (rdesc m a) = .tuple #[.agg #[.int .u32 x0, .int .i64 x2, .bool wb], .int .i64 (-1), .nilIface] by rw [show rdesc m a = some (⟨x0, x2, wb⟩, -1) from HRD.out.trans ((if_pos ⟨hx1, hp3, hbig, hl⟩).trans (by rw [if_pos hp1]))]; rfl)
                clear HRD HT1 HT2 hx1 hp3 hbig hl hp1
                have hx20 : (0 : Int) ≤ (x2 : Int) := by omega
                have hx30 : (0 : Int) ≤ (x3 : Int) := by omega
                go_upto_region 10 with fail
                go_region
                have hbd : Below wr.heap.size wr wr.drew := ⟨rfl, rfl, rfl, Nat.le_refl _, fun _ _ => rfl⟩
                have HR2 := Lib.hid (And.intro (HR1.out.1.below hbd) (HR1.out.2.below hbd))
                have K3 := Lib.hid (keepB K1.out hbd)
                have K4 := Lib.hid (keepB K2.out hbd)
                clear d0 d1 d2 d3 hbd HR1 K0 K1 K2
                generalize wr.drew = wd at HR2 K3 K4 ⊢
                have HBA := Lib.hid ((Below.refl wd.heap.size wd).alloc (Nat.le_refl _) (.cells #[.int .u32 0, .int .i64 0, .bool false] 196))
                have KN := Lib.hid (heap_alloc_new wd (.cells #[.int .u32 0, .int .i64 0, .bool false] 196))
                have K1a := Lib.hid (keepB K3.out HBA.out)
                have K2a := Lib.hid (keepB K4.out HBA.out)
                have HRa := Lib.hid (And.intro (HR2.out.1.below HBA.out) (HR2.out.2.below HBA.out))
                have HNs := Lib.hid (show ¬ F1 wd.heap.size from fun hf => absurd (HR2.out.1.lt _ hf) (Nat.lt_irrefl _))
                have HLW := Lib.hid (And.intro (lt_heap K3.out) (And.intro (lt_heap K4.out) HR2.out.2.kx.size))
                have HO := Lib.hid (show (#[.int .u32 x0, .int .i64 x2, .bool wb] : Array Value).all (·.oneCell') = true by simp [Value.oneCell'])
                have d0 := (cell_of_row _ _ 0 _ _ _ K4.out).trans (rfl : _ = some (.int .u32 (x0 : Nat) : Value))
                have d2 := (cell_of_row _ _ 2 _ _ _ K4.out).trans (rfl : _ = some (.int .u32 (x2 : Nat) : Value))
                go_wp2_with (first | go_skip | (refine wpList_store_to rfl 196 _ _ rfl wd.heap.size #[.int .u32 x0, .int .i64 x2, .bool wb] rfl rfl 196 #[.int .u32 0, .int .i64 0, .bool false] KN.out (by kernel_rfl) rfl HO.out ?_))
                intro w3 hx hk
                have KS := Lib.hid hk
                have K5 := Lib.hid (hx.out.heap K1a.out (by have := HLW.out.1; omega))
                have K6 := Lib.hid (hx.out.heap K2a.out (by have := HLW.out.2.1; omega))
                have HR3 := Lib.hid (And.intro (HRa.out.1.kx hx.out (fun k _ hf e => by subst e; exact HNs.out hf)) (HRa.out.2.own hx.out HLW.out.2.2))
                have HSG := Lib.hid (And.intro (show ¬ wd.heap.size = w.heap.size + 1 by have := HLW.out.1; omega) HNs.out)
                clear hx hk KN K1a K2a HRa HO HBA K3 K4 HR2 d0 d2 HNs HLW
                generalize wd.heap.size = bs at KS HSG ⊢
                have d1 := (cell_of_row _ _ 1 _ _ _ K6.out).trans (rfl : _ = some (.int .u32 (x1 : Nat) : Value))
                have s0 := (cell_of_row _ _ 0 _ _ _ KS.out).trans (rfl : _ = some (.int .u32 (x0 : Nat) : Value))
                have s1 := (cell_of_row _ _ 1 _ _ _ KS.out).trans (rfl : _ = some (.int .i64 (x2 : Nat) : Value))

                have HT := Lib.hid (HT1a.out w3 F1 HR3.out.1 HR3.out.2)
                go_wp2_with fail
                refine (HT.out).mono ?_
                rintro e w4 ⟨rfl, hb⟩
                have K7 := Lib.hid (keepB K5.out hb)
                have KS2 := Lib.hid (keepB KS.out hb)
                have HR4 := Lib.hid (And.intro (HR3.out.1.below hb) (HR3.out.2.below hb))
                clear hb K5 KS HR3 K6
                have HO := Lib.hid (show (#[.int .u32 x0, .int .i64 x2, .bool wb] : Array Value).all (·.oneCell') = true by simp [Value.oneCell'])
                go_wp2_with (first | go_skip | (refine wpList_load_row rfl 196 _ rfl bs rfl 196 #[.int .u32 x0, .int .i64 x2, .bool wb] (0, 0) _ KS2.out Tryd.underlying196 rfl (by kernel_rfl) ?_) | (refine wpList_store_to rfl 196 _ _ rfl (w.heap.size + 1) #[.int .u32 x0, .int .i64 x2, .bool wb] rfl rfl 196 #[.int .u32 0, .int .i64 0, .bool false] K7.out (by kernel_rfl) rfl HO.out ?_))
                intro w20 hx hk
                have HRF := Lib.hid (And.intro (HR4.out.1.kx hx.out (fun k _ hf e => by subst e; exact HN.out.2.1 hf)) (HR4.out.2.own hx.out (by omega)))
                go_wp2_with fail
                exact bodyPost_ret (v := (.tuple #[.agg #[.int .u32 x0, .int .i64 x2, .bool wb], .int .i64 (-1), .nilIface])) (results_cell_tmp2 Tryd.results112 _ _ (w.heap.size + 1) 196 #[.int .u32 x0, .int .i64 x2, .bool wb] (0, 0) _ rfl hk Tryd.underlying196 rfl (by kernel_rfl)) rfl ⟨F1, (by rw [HV.out]), HRF.out.1, HRF.out.2⟩

              · have c4 : ((p1 : Int) == 0) = false := by simp; omega
                have HV := Lib.hid (show descV (rdesc m a) = .tuple #[.agg #[.int .u32 x0, .int .i64 x2, .bool wb], .int .i64 ((x3 / 65536 : Nat) : Int), .nilIface] by rw [show rdesc m a = some (⟨x0, x2, wb⟩, ((x3 / 65536 : Nat) : Int)) from HRD.out.trans ((if_pos ⟨hx1, hp3, hbig, hl⟩).trans (by rw [if_neg hp1]))]; rfl)
                clear HRD HT1 HT2 hx1 hp3 hbig hl hp1
                have hx20 : (0 : Int) ≤ (x2 : Int) := by omega
                have hx30 : (0 : Int) ≤ (x3 : Int) := by omega
                go_upto_region 10 with fail
                go_region
                have hbd : Below wr.heap.size wr wr.drew := ⟨rfl, rfl, rfl, Nat.le_refl _, fun _ _ => rfl⟩
                have HR2 := Lib.hid (And.intro (HR1.out.1.below hbd) (HR1.out.2.below hbd))
                have K3 := Lib.hid (keepB K1.out hbd)
                have K4 := Lib.hid (keepB K2.out hbd)
                clear d0 d1 d2 d3 hbd HR1 K0 K1 K2
                generalize wr.drew = wd at HR2 K3 K4 ⊢
                have HBA := Lib.hid ((Below.refl wd.heap.size wd).alloc (Nat.le_refl _) (.cells #[.int .u32 0, .int .i64 0, .bool false] 196))
                have KN := Lib.hid (heap_alloc_new wd (.cells #[.int .u32 0, .int .i64 0, .bool false] 196))
                have K1a := Lib.hid (keepB K3.out HBA.out)
                have K2a := Lib.hid (keepB K4.out HBA.out)
                have HRa := Lib.hid (And.intro (HR2.out.1.below HBA.out) (HR2.out.2.below HBA.out))
                have HNs := Lib.hid (show ¬ F1 wd.heap.size from fun hf => absurd (HR2.out.1.lt _ hf) (Nat.lt_irrefl _))
                have HLW := Lib.hid (And.intro (lt_heap K3.out) (And.intro (lt_heap K4.out) HR2.out.2.kx.size))
                have HO := Lib.hid (show (#[.int .u32 x0, .int .i64 x2, .bool wb] : Array Value).all (·.oneCell') = true by simp [Value.oneCell'])
                have d0 := (cell_of_row _ _ 0 _ _ _ K4.out).trans (rfl : _ = some (.int .u32 (x0 : Nat) : Value))
                have d2 := (cell_of_row _ _ 2 _ _ _ K4.out).trans (rfl : _ = some (.int .u32 (x2 : Nat) : Value))
                go_wp2_with (first | go_skip | (refine wpList_store_to rfl 196 _ _ rfl wd.heap.size #[.int .u32 x0, .int .i64 x2, .bool wb] rfl rfl 196 #[.int .u32 0, .int .i64 0, .bool false] KN.out (by kernel_rfl) rfl HO.out ?_))
                intro w3 hx hk
                have KS := Lib.hid hk
                have K5 := Lib.hid (hx.out.heap K1a.out (by have := HLW.out.1; omega))
                have K6 := Lib.hid (hx.out.heap K2a.out (by have := HLW.out.2.1; omega))
                have HR3 := Lib.hid (And.intro (HRa.out.1.kx hx.out (fun k _ hf e => by subst e; exact HNs.out hf)) (HRa.out.2.own hx.out HLW.out.2.2))
                have HSG := Lib.hid (And.intro (show ¬ wd.heap.size = w.heap.size + 1 by have := HLW.out.1; omega) HNs.out)
                clear hx hk KN K1a K2a HRa HO HBA K3 K4 HR2 d0 d2 HNs HLW
                generalize wd.heap.size = bs at KS HSG ⊢
                have d1 := (cell_of_row _ _ 1 _ _ _ K6.out).trans (rfl : _ = some (.int .u32 (x1 : Nat) : Value))
                have s0 := (cell_of_row _ _ 0 _ _ _ KS.out).trans (rfl : _ = some (.int .u32 (x0 : Nat) : Value))
                have s1 := (cell_of_row _ _ 1 _ _ _ KS.out).trans (rfl : _ = some (.int .i64 (x2 : Nat) : Value))

                have HT := Lib.hid (HT1a.out w3 F1 HR3.out.1 HR3.out.2)
                go_wp2_with fail
                refine (HT.out).mono ?_
                rintro e w4 ⟨rfl, hb⟩
                have K7 := Lib.hid (keepB K5.out hb)
                have KS2 := Lib.hid (keepB KS.out hb)
                have HR4 := Lib.hid (And.intro (HR3.out.1.below hb) (HR3.out.2.below hb))
                clear hb K5 KS HR3 K6
                have HO := Lib.hid (show (#[.int .u32 x0, .int .i64 x2, .bool wb] : Array Value).all (·.oneCell') = true by simp [Value.oneCell'])
                go_wp2_with (first | go_skip | (refine wpList_load_row rfl 196 _ rfl bs rfl 196 #[.int .u32 x0, .int .i64 x2, .bool wb] (0, 0) _ KS2.out Tryd.underlying196 rfl (by kernel_rfl) ?_) | (refine wpList_store_to rfl 196 _ _ rfl (w.heap.size + 1) #[.int .u32 x0, .int .i64 x2, .bool wb] rfl rfl 196 #[.int .u32 0, .int .i64 0, .bool false] K7.out (by kernel_rfl) rfl HO.out ?_))
                intro w20 hx hk
                have HRF := Lib.hid (And.intro (HR4.out.1.kx hx.out (fun k _ hf e => by subst e; exact HN.out.2.1 hf)) (HR4.out.2.own hx.out (by omega)))
                go_wp2_with fail
                exact bodyPost_ret (v := (.tuple #[.agg #[.int .u32 x0, .int .i64 x2, .bool wb], .int .i64 ((x3 / 65536 : Nat) : Int), .nilIface])) (results_cell_tmp2 Tryd.results112 _ _ (w.heap.size + 1) 196 #[.int .u32 x0, .int .i64 x2, .bool wb] (0, 0) _ rfl hk Tryd.underlying196 rfl (by kernel_rfl)) rfl ⟨F1, (by rw [HV.out]), HRF.out.1, HRF.out.2⟩

            · have HT2a := Lib.hid (fun W F' h1 h2 => HT2.out W F' h1 h2 hl)
              have HV := Lib.hid (show descV (rdesc m a) = .tuple #[.agg #[.int .u32 0, .int .i64 0, .bool false], .int .i64 0, .iface 104 (.int .i64 22)] by rw [show rdesc m a = none from HRD.out.trans (if_neg (fun h => hl h.2.2.2))]; rfl)
              clear HRD
              clear HT1 HT2 hx1 hp3 hbig hl
              have hx20 : (0 : Int) ≤ (x2 : Int) := by omega
              have hx30 : (0 : Int) ≤ (x3 : Int) := by omega
              go_upto_region 10 with fail
              go_region
              have hbd : Below wr.heap.size wr wr.drew := ⟨rfl, rfl, rfl, Nat.le_refl _, fun _ _ => rfl⟩
              have HR2 := Lib.hid (And.intro (HR1.out.1.below hbd) (HR1.out.2.below hbd))
              have K3 := Lib.hid (keepB K1.out hbd)
              have K4 := Lib.hid (keepB K2.out hbd)
              clear d0 d1 d2 d3 hbd HR1 K0 K1 K2
              generalize wr.drew = wd at HR2 K3 K4 ⊢
              have HBA := Lib.hid ((Below.refl wd.heap.size wd).alloc (Nat.le_refl _) (.cells #[.int .u32 0, .int .i64 0, .bool false] 196))
              have KN := Lib.hid (heap_alloc_new wd (.cells #[.int .u32 0, .int .i64 0, .bool false] 196))
              have K1a := Lib.hid (keepB K3.out HBA.out)
              have K2a := Lib.hid (keepB K4.out HBA.out)
              have HRa := Lib.hid (And.intro (HR2.out.1.below HBA.out) (HR2.out.2.below HBA.out))
              have HNs := Lib.hid (show ¬ F1 wd.heap.size from fun hf => absurd (HR2.out.1.lt _ hf) (Nat.lt_irrefl _))
              have HLW := Lib.hid (And.intro (lt_heap K3.out) (And.intro (lt_heap K4.out) HR2.out.2.kx.size))
              have HO := Lib.hid (show (#[.int .u32 x0, .int .i64 x2, .bool wb] : Array Value).all (·.oneCell') = true by simp [Value.oneCell'])
              have d0 := (cell_of_row _ _ 0 _ _ _ K4.out).trans (rfl : _ = some (.int .u32 (x0 : Nat) : Value))
              have d2 := (cell_of_row _ _ 2 _ _ _ K4.out).trans (rfl : _ = some (.int .u32 (x2 : Nat) : Value))
              go_wp2_with (first | go_skip | (refine wpList_store_to rfl 196 _ _ rfl wd.heap.size #[.int .u32 x0, .int .i64 x2, .bool wb] rfl rfl 196 #[.int .u32 0, .int .i64 0, .bool false] KN.out (by kernel_rfl) rfl HO.out ?_))
              intro w3 hx hk
              have KS := Lib.hid hk
              have K5 := Lib.hid (hx.out.heap K1a.out (by have := HLW.out.1; omega))
              have K6 := Lib.hid (hx.out.heap K2a.out (by have := HLW.out.2.1; omega))
              have HR3 := Lib.hid (And.intro (HRa.out.1.kx hx.out (fun k _ hf e => by subst e; exact HNs.out hf)) (HRa.out.2.own hx.out HLW.out.2.2))
              have HSG := Lib.hid (And.intro (show ¬ wd.heap.size = w.heap.size + 1 by have := HLW.out.1; omega) HNs.out)
              clear hx hk KN K1a K2a HRa HO HBA K3 K4 HR2 d0 d2 HNs HLW
              generalize wd.heap.size = bs at KS HSG ⊢
              have d1 := (cell_of_row _ _ 1 _ _ _ K6.out).trans (rfl : _ = some (.int .u32 (x1 : Nat) : Value))
              have s0 := (cell_of_row _ _ 0 _ _ _ KS.out).trans (rfl : _ = some (.int .u32 (x0 : Nat) : Value))
              have s1 := (cell_of_row _ _ 1 _ _ _ KS.out).trans (rfl : _ = some (.int .i64 (x2 : Nat) : Value))

              have HT := Lib.hid (HT2a.out w3 F1 HR3.out.1 HR3.out.2)
              go_wp2_with fail
              refine (HT.out).mono ?_
              rintro e w4 ⟨rfl, hb⟩
              have K7 := Lib.hid (keepB K5.out hb)
              have KS2 := Lib.hid (keepB KS.out hb)
              have HR4 := Lib.hid (And.intro (HR3.out.1.below hb) (HR3.out.2.below hb))
              clear hb K5 KS HR3 K6
              have HO := Lib.hid (show (#[.int .u32 0, .int .i64 0, .bool false] : Array Value).all (·.oneCell') = true by simp [Value.oneCell'])
              go_wp2_with (first | go_skip | (refine wpList_store_to rfl 196 _ _ rfl (w.heap.size + 1) #[.int .u32 0, .int .i64 0, .bool false] rfl rfl 196 #[.int .u32 0, .int .i64 0, .bool false] K7.out (by kernel_rfl) rfl HO.out ?_))
              intro w20 hx hk
              have HRF := Lib.hid (And.intro (HR4.out.1.kx hx.out (fun k _ hf e => by subst e; exact HN.out.2.1 hf)) (HR4.out.2.own hx.out (by omega)))
              go_wp2_with fail
              exact bodyPost_ret (v := (.tuple #[.agg #[.int .u32 0, .int .i64 0, .bool false], .int .i64 0, .iface 104 (.int .i64 22)])) (results_cell_tmp2 Tryd.results112 _ _ (w.heap.size + 1) 196 #[.int .u32 0, .int .i64 0, .bool false] (0, 0) _ rfl hk Tryd.underlying196 rfl (by kernel_rfl)) rfl ⟨F1, (by rw [HV.out]), HRF.out.1, HRF.out.2⟩

          · have c3 : (1048576 : Int) < (x2 : Int) := by omega
            have HV := Lib.hid (show descV (rdesc m a) = .tuple #[.agg #[.int .u32 0, .int .i64 0, .bool false], .int .i64 0, .iface 104 (.int .i64 22)] by rw [show rdesc m a = none from HRD.out.trans (if_neg (fun h => hbig h.2.2.1))]; rfl)
            clear HRD
            clear HT1 HT2 hx1 hp3 hbig
            have hx20 : (0 : Int) ≤ (x2 : Int) := by omega
            have hx30 : (0 : Int) ≤ (x3 : Int) := by omega
            go_upto_region 10 with fail
            go_region
            have hbd : Below wr.heap.size wr wr.drew := ⟨rfl, rfl, rfl, Nat.le_refl _, fun _ _ => rfl⟩
            have HR2 := Lib.hid (And.intro (HR1.out.1.below hbd) (HR1.out.2.below hbd))
            have K3 := Lib.hid (keepB K1.out hbd)
            have K4 := Lib.hid (keepB K2.out hbd)
            clear d0 d1 d2 d3 hbd HR1 K0 K1 K2
            generalize wr.drew = wd at HR2 K3 K4 ⊢
            have HBA := Lib.hid ((Below.refl wd.heap.size wd).alloc (Nat.le_refl _) (.cells #[.int .u32 0, .int .i64 0, .bool false] 196))
            have KN := Lib.hid (heap_alloc_new wd (.cells #[.int .u32 0, .int .i64 0, .bool false] 196))
            have K1a := Lib.hid (keepB K3.out HBA.out)
            have K2a := Lib.hid (keepB K4.out HBA.out)
            have HRa := Lib.hid (And.intro (HR2.out.1.below HBA.out) (HR2.out.2.below HBA.out))
            have HNs := Lib.hid (show ¬ F1 wd.heap.size from fun hf => absurd (HR2.out.1.lt _ hf) (Nat.lt_irrefl _))
            have HLW := Lib.hid (And.intro (lt_heap K3.out) (And.intro (lt_heap K4.out) HR2.out.2.kx.size))
            have HO := Lib.hid (show (#[.int .u32 x0, .int .i64 x2, .bool wb] : Array Value).all (·.oneCell') = true by simp [Value.oneCell'])
            have d0 := (cell_of_row _ _ 0 _ _ _ K4.out).trans (rfl : _ = some (.int .u32 (x0 : Nat) : Value))
            have d2 := (cell_of_row _ _ 2 _ _ _ K4.out).trans (rfl : _ = some (.int .u32 (x2 : Nat) : Value))
            go_wp2_with (first | go_skip | (refine wpList_store_to rfl 196 _ _ rfl wd.heap.size #[.int .u32 x0, .int .i64 x2, .bool wb] rfl rfl 196 #[.int .u32 0, .int .i64 0, .bool false] KN.out (by kernel_rfl) rfl HO.out ?_))
            intro w3 hx hk
            have KS := Lib.hid hk
            have K5 := Lib.hid (hx.out.heap K1a.out (by have := HLW.out.1; omega))
            have K6 := Lib.hid (hx.out.heap K2a.out (by have := HLW.out.2.1; omega))
            have HR3 := Lib.hid (And.intro (HRa.out.1.kx hx.out (fun k _ hf e => by subst e; exact HNs.out hf)) (HRa.out.2.own hx.out HLW.out.2.2))
            have HSG := Lib.hid (And.intro (show ¬ wd.heap.size = w.heap.size + 1 by have := HLW.out.1; omega) HNs.out)
            clear hx hk KN K1a K2a HRa HO HBA K3 K4 HR2 d0 d2 HNs HLW
            generalize wd.heap.size = bs at KS HSG ⊢
            have d1 := (cell_of_row _ _ 1 _ _ _ K6.out).trans (rfl : _ = some (.int .u32 (x1 : Nat) : Value))
            have s0 := (cell_of_row _ _ 0 _ _ _ KS.out).trans (rfl : _ = some (.int .u32 (x0 : Nat) : Value))
            have s1 := (cell_of_row _ _ 1 _ _ _ KS.out).trans (rfl : _ = some (.int .i64 (x2 : Nat) : Value))

            have HO := Lib.hid (show (#[.int .u32 0, .int .i64 0, .bool false] : Array Value).all (·.oneCell') = true by simp [Value.oneCell'])
            go_wp2_with (first | go_skip | (refine wpList_store_to rfl 196 _ _ rfl (w.heap.size + 1) #[.int .u32 0, .int .i64 0, .bool false] rfl rfl 196 #[.int .u32 0, .int .i64 0, .bool false] K5.out (by kernel_rfl) rfl HO.out ?_))
            intro w20 hx hk
            have HRF := Lib.hid (And.intro (HR3.out.1.kx hx.out (fun k _ hf e => by subst e; exact HN.out.2.1 hf)) (HR3.out.2.own hx.out (by omega)))
            go_wp2_with fail
            exact bodyPost_ret (v := (.tuple #[.agg #[.int .u32 0, .int .i64 0, .bool false], .int .i64 0, .iface 104 (.int .i64 22)])) (results_cell_tmp2 Tryd.results112 _ _ (w.heap.size + 1) 196 #[.int .u32 0, .int .i64 0, .bool false] (0, 0) _ rfl hk Tryd.underlying196 rfl (by kernel_rfl)) rfl ⟨F1, (by rw [HV.out]), HRF.out.1, HRF.out.2⟩

        · have c2 : ((p3 : Int) != 0) = true := by simp [hp3]
          have HV := Lib.hid (show descV (rdesc m a) = .tuple #[.agg #[.int .u32 0, .int .i64 0, .bool false], .int .i64 0, .iface 104 (.int .i64 22)] by rw [show rdesc m a = none from HRD.out.trans (if_neg (fun h => hp3 h.2.1))]; rfl)
          clear HRD
          clear HT1 HT2 hx1 hp3
          have hx20 : (0 : Int) ≤ (x2 : Int) := by omega
          have hx30 : (0 : Int) ≤ (x3 : Int) := by omega
          go_upto_region 10 with fail
          go_region
          have hbd : Below wr.heap.size wr wr.drew := ⟨rfl, rfl, rfl, Nat.le_refl _, fun _ _ => rfl⟩
          have HR2 := Lib.hid (And.intro (HR1.out.1.below hbd) (HR1.out.2.below hbd))
          have K3 := Lib.hid (keepB K1.out hbd)
          have K4 := Lib.hid (keepB K2.out hbd)
          clear d0 d1 d2 d3 hbd HR1 K0 K1 K2
          generalize wr.drew = wd at HR2 K3 K4 ⊢
          have HBA := Lib.hid ((Below.refl wd.heap.size wd).alloc (Nat.le_refl _) (.cells #[.int .u32 0, .int .i64 0, .bool false] 196))
          have KN := Lib.hid (heap_alloc_new wd (.cells #[.int .u32 0, .int .i64 0, .bool false] 196))
          have K1a := Lib.hid (keepB K3.out HBA.out)
          have K2a := Lib.hid (keepB K4.out HBA.out)
          have HRa := Lib.hid (And.intro (HR2.out.1.below HBA.out) (HR2.out.2.below HBA.out))
          have HNs := Lib.hid (show ¬ F1 wd.heap.size from fun hf => absurd (HR2.out.1.lt _ hf) (Nat.lt_irrefl _))
          have HLW := Lib.hid (And.intro (lt_heap K3.out) (And.intro (lt_heap K4.out) HR2.out.2.kx.size))
          have HO := Lib.hid (show (#[.int .u32 x0, .int .i64 x2, .bool wb] : Array Value).all (·.oneCell') = true by simp [Value.oneCell'])
          have d0 := (cell_of_row _ _ 0 _ _ _ K4.out).trans (rfl : _ = some (.int .u32 (x0 : Nat) : Value))
          have d2 := (cell_of_row _ _ 2 _ _ _ K4.out).trans (rfl : _ = some (.int .u32 (x2 : Nat) : Value))
          go_wp2_with (first | go_skip | (refine wpList_store_to rfl 196 _ _ rfl wd.heap.size #[.int .u32 x0, .int .i64 x2, .bool wb] rfl rfl 196 #[.int .u32 0, .int .i64 0, .bool false] KN.out (by kernel_rfl) rfl HO.out ?_))
          intro w3 hx hk
          have KS := Lib.hid hk
          have K5 := Lib.hid (hx.out.heap K1a.out (by have := HLW.out.1; omega))
          have K6 := Lib.hid (hx.out.heap K2a.out (by have := HLW.out.2.1; omega))
          have HR3 := Lib.hid (And.intro (HRa.out.1.kx hx.out (fun k _ hf e => by subst e; exact HNs.out hf)) (HRa.out.2.own hx.out HLW.out.2.2))
          have HSG := Lib.hid (And.intro (show ¬ wd.heap.size = w.heap.size + 1 by have := HLW.out.1; omega) HNs.out)
          clear hx hk KN K1a K2a HRa HO HBA K3 K4 HR2 d0 d2 HNs HLW
          generalize wd.heap.size = bs at KS HSG ⊢
          have d1 := (cell_of_row _ _ 1 _ _ _ K6.out).trans (rfl : _ = some (.int .u32 (x1 : Nat) : Value))
          have s0 := (cell_of_row _ _ 0 _ _ _ KS.out).trans (rfl : _ = some (.int .u32 (x0 : Nat) : Value))
          have s1 := (cell_of_row _ _ 1 _ _ _ KS.out).trans (rfl : _ = some (.int .i64 (x2 : Nat) : Value))

          have HO := Lib.hid (show (#[.int .u32 0, .int .i64 0, .bool false] : Array Value).all (·.oneCell') = true by simp [Value.oneCell'])
          go_wp2_with (first | go_skip | (refine wpList_store_to rfl 196 _ _ rfl (w.heap.size + 1) #[.int .u32 0, .int .i64 0, .bool false] rfl rfl 196 #[.int .u32 0, .int .i64 0, .bool false] K5.out (by kernel_rfl) rfl HO.out ?_))
          intro w20 hx hk
          have HRF := Lib.hid (And.intro (HR3.out.1.kx hx.out (fun k _ hf e => by subst e; exact HN.out.2.1 hf)) (HR3.out.2.own hx.out (by omega)))
          go_wp2_with fail
          exact bodyPost_ret (v := (.tuple #[.agg #[.int .u32 0, .int .i64 0, .bool false], .int .i64 0, .iface 104 (.int .i64 22)])) (results_cell_tmp2 Tryd.results112 _ _ (w.heap.size + 1) 196 #[.int .u32 0, .int .i64 0, .bool false] (0, 0) _ rfl hk Tryd.underlying196 rfl (by kernel_rfl)) rfl ⟨F1, (by rw [HV.out]), HRF.out.1, HRF.out.2⟩

      · have c1 : ((x1 : Int) != 0) = true := by simp [hx1]
        have HV := Lib.hid (show descV (rdesc m a) = .tuple #[.agg #[.int .u32 0, .int .i64 0, .bool false], .int .i64 0, .iface 104 (.int .i64 22)] by rw [show rdesc m a = none from HRD.out.trans (if_neg (fun h => hx1 h.1))]; rfl)
        clear HRD
        clear HT1 HT2 hx1
        have hx20 : (0 : Int) ≤ (x2 : Int) := by omega
        have hx30 : (0 : Int) ≤ (x3 : Int) := by omega
        go_upto_region 10 with fail
        go_region
        have hbd : Below wr.heap.size wr wr.drew := ⟨rfl, rfl, rfl, Nat.le_refl _, fun _ _ => rfl⟩
        have HR2 := Lib.hid (And.intro (HR1.out.1.below hbd) (HR1.out.2.below hbd))
        have K3 := Lib.hid (keepB K1.out hbd)
        have K4 := Lib.hid (keepB K2.out hbd)
        clear d0 d1 d2 d3 hbd HR1 K0 K1 K2
        generalize wr.drew = wd at HR2 K3 K4 ⊢
        have HBA := Lib.hid ((Below.refl wd.heap.size wd).alloc (Nat.le_refl _) (.cells #[.int .u32 0, .int .i64 0, .bool false] 196))
        have KN := Lib.hid (heap_alloc_new wd (.cells #[.int .u32 0, .int .i64 0, .bool false] 196))
        have K1a := Lib.hid (keepB K3.out HBA.out)
        have K2a := Lib.hid (keepB K4.out HBA.out)
        have HRa := Lib.hid (And.intro (HR2.out.1.below HBA.out) (HR2.out.2.below HBA.out))
        have HNs := Lib.hid (show ¬ F1 wd.heap.size from fun hf => absurd (HR2.out.1.lt _ hf) (Nat.lt_irrefl _))
        have HLW := Lib.hid (And.intro (lt_heap K3.out) (And.intro (lt_heap K4.out) HR2.out.2.kx.size))
        have HO := Lib.hid (show (#[.int .u32 x0, .int .i64 x2, .bool wb] : Array Value).all (·.oneCell') = true by simp [Value.oneCell'])
        have d0 := (cell_of_row _ _ 0 _ _ _ K4.out).trans (rfl : _ = some (.int .u32 (x0 : Nat) : Value))
        have d2 := (cell_of_row _ _ 2 _ _ _ K4.out).trans (rfl : _ = some (.int .u32 (x2 : Nat) : Value))
        go_wp2_with (first | go_skip | (refine wpList_store_to rfl 196 _ _ rfl wd.heap.size #[.int .u32 x0, .int .i64 x2, .bool wb] rfl rfl 196 #[.int .u32 0, .int .i64 0, .bool false] KN.out (by kernel_rfl) rfl HO.out ?_))
        intro w3 hx hk
        have KS := Lib.hid hk
        have K5 := Lib.hid (hx.out.heap K1a.out (by have := HLW.out.1; omega))
        have K6 := Lib.hid (hx.out.heap K2a.out (by have := HLW.out.2.1; omega))
        have HR3 := Lib.hid (And.intro (HRa.out.1.kx hx.out (fun k _ hf e => by subst e; exact HNs.out hf)) (HRa.out.2.own hx.out HLW.out.2.2))
        have HSG := Lib.hid (And.intro (show ¬ wd.heap.size = w.heap.size + 1 by have := HLW.out.1; omega) HNs.out)
        clear hx hk KN K1a K2a HRa HO HBA K3 K4 HR2 d0 d2 HNs HLW
        generalize wd.heap.size = bs at KS HSG ⊢
        have d1 := (cell_of_row _ _ 1 _ _ _ K6.out).trans (rfl : _ = some (.int .u32 (x1 : Nat) : Value))
        have s0 := (cell_of_row _ _ 0 _ _ _ KS.out).trans (rfl : _ = some (.int .u32 (x0 : Nat) : Value))
        have s1 := (cell_of_row _ _ 1 _ _ _ KS.out).trans (rfl : _ = some (.int .i64 (x2 : Nat) : Value))

        have HO := Lib.hid (show (#[.int .u32 0, .int .i64 0, .bool false] : Array Value).all (·.oneCell') = true by simp [Value.oneCell'])
        go_wp2_with (first | go_skip | (refine wpList_store_to rfl 196 _ _ rfl (w.heap.size + 1) #[.int .u32 0, .int .i64 0, .bool false] rfl rfl 196 #[.int .u32 0, .int .i64 0, .bool false] K5.out (by kernel_rfl) rfl HO.out ?_))
        intro w20 hx hk
        have HRF := Lib.hid (And.intro (HR3.out.1.kx hx.out (fun k _ hf e => by subst e; exact HN.out.2.1 hf)) (HR3.out.2.own hx.out (by omega)))
        go_wp2_with fail
        exact bodyPost_ret (v := (.tuple #[.agg #[.int .u32 0, .int .i64 0, .bool false], .int .i64 0, .iface 104 (.int .i64 22)])) (results_cell_tmp2 Tryd.results112 _ _ (w.heap.size + 1) 196 #[.int .u32 0, .int .i64 0, .bool false] (0, 0) _ rfl hk Tryd.underlying196 rfl (by kernel_rfl)) rfl ⟨F1, (by rw [HV.out]), HRF.out.1, HRF.out.2⟩

end Go.Proofs.YtcmbnkmbaghkdaaDoor

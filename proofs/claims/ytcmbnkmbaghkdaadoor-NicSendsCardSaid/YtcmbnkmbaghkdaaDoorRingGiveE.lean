/-
ring.Give, walked for every ring that may be, and memory.
Condition: the table of regions of package bus reads as its text lays it.
-/
import Derived.Test.YtcmbnkmbaghkdaaDoorG3

import Derived.Test.YtcmbnkmbaghkdaaDoorRingNextA
namespace Go.Proofs.YtcmbnkmbaghkdaaDoor
open Go.RowKit
set_option linter.unusedVariables false

set_option maxRecDepth 100000 in
set_option maxHeartbeats 8000000 in
theorem ring_Give_f1 {g : Nat} {m : Mm} {F : Nat → Prop} {w : World} (size de av us la pu hd n  : Nat) (a3 : Int) (h : RamIs w g m F) (hs1 : 1 ≤ size) (hs2 : size ≤ 256) (hdl : hd < size) 
    (HARG : Hid (IntKind.u32.wrap (IntKind.u32.wrap ((us : Int) + 4) + IntKind.u32.wrap (8 * IntKind.u32.wrap ((IntKind.i64.wrap (pu : Int)).tmod (size : Int)))) = a3))
    (HC : Hid (∀ W, Calls Tryd.prog 110 #[.agg #[.int .i64 size, .int .u32 de, .int .u32 av, .int .u32 us, .int .u16 la, .int .u16 pu], .pointer (some ⟨g, 0, none⟩)] W fun e w' => e = .returned .nilIface ∧ Below W.heap.size W w'))
    (HS1 : Hid (∀ W F', RamIs W g m F' → MemStep F F' w W → Calls Tryd.prog 114 #[.pointer (some ⟨g, 0, none⟩), .int .u32 (a3), .int .i64 4, .int .u32 (hd : Nat)] W fun e w' => ∃ F2, e = .returned (.iface 104 (.int .i64 22)) ∧ RamIs w' g m F2 ∧ MemStep F' F2 W w')) :
    Calls Tryd.prog 81 #[.agg #[.int .i64 size, .int .u32 de, .int .u32 av, .int .u32 us, .int .u16 la, .int .u16 pu], .pointer (some ⟨g, 0, none⟩), .int .i64 hd, .int .u32 n] w fun e w' => ∃ F2, e = .returned (.tuple #[.agg #[.int .i64 0, .int .u32 0, .int .u32 0, .int .u32 0, .int .u16 0, .int .u16 0], .iface 104 (.int .i64 22)]) ∧ RamIs w' g m F2 ∧ MemStep F F2 w w' := by
  have HF := Lib.hid h.lt
  have hsz1 : (1 : Int) ≤ (size : Int) := by omega
  have hsz2 : (size : Int) ≤ 256 := by omega
  have hsz0 : ¬ size = 0 := by omega
  have hd0 : (0 : Int) ≤ (hd : Int) := by omega
  have hd1 : (hd : Int) < (size : Int) := by omega
  have hd2 : (hd : Int) ≤ 256 := by omega
  obtain ⟨k0, k1, hb0⟩ := two_new w (.cells #[.int .i64 size, .int .u32 de, .int .u32 av, .int .u32 us, .int .u16 la, .int .u16 pu] 68) (.cells #[.int .i64 0, .int .u32 0, .int .u32 0, .int .u32 0, .int .u16 0, .int .u16 0] 68)
  have K0 := Lib.hid k0
  have K1 := Lib.hid k1
  have HR0 := Lib.hid (And.intro (h.below hb0) (MemStep.of_below (F := F) hb0))
  have hn0 : ¬ F w.heap.size := fun hf => absurd (HF.out _ hf) (Nat.lt_irrefl _)
  have hn1 : ¬ F (w.heap.size + 1) := fun hf => by have := HF.out _ hf; omega
  have HN := Lib.hid (And.intro hn0 hn1)
  clear k0 k1 hb0 h hn0 hn1 hs1 hs2 hdl
  go_enter Tryd.func81, Tryd.ntmps81
  go_wp2_with fail
  refine (HC.out _).mono ?_
  rintro e w1 ⟨rfl, hb⟩
  have K2 := Lib.hid (keepB K0.out hb)
  have K3 := Lib.hid (keepB K1.out hb)
  have HR1 := Lib.hid (And.intro (HR0.out.1.below hb) (HR0.out.2.below hb))
  clear hb K0 K1 HR0 HC
  go_upto_region 4 with fail
  refine wp_region_held_drew (S := fun W => W.heap[w.heap.size]? = some (.cells #[.int .i64 size, .int .u32 de, .int .u32 av, .int .u32 us, .int .u16 la, .int .u16 pu] 68 (0, 0))) (by kernel_rfl) K2.out (fun hH0 => ?_)
  refine wpAnyH_take (i := 0) (v := ?v0) rfl (by kernel_rfl) (by kernel_rfl) (by kernel_rfl) (fun _ _ _ h => h) (Or.inl ⟨by rfl, ?hy0⟩) (by assumption) ?rest0
  case hy0 => (intro W hSw; go_simp; first | done | with_reducible rfl)
  simp only [Act.put, List.getElem_toArray, List.getElem_cons_zero, List.setIfInBounds_toArray, List.set_cons_zero, List.set_cons_succ]
  refine wpAnyH_take (i := 1) (v := ?v1) rfl (by kernel_rfl) (by kernel_rfl) (by kernel_rfl) (fun _ _ _ h => h) (Or.inl ⟨by rfl, ?hy1⟩) (by assumption) ?rest1
  case hy1 => (intro W hSw; have cj := (cell_of_row _ _ 3 _ _ _ hSw).trans (rfl : _ = some (.int .u32 us : Value)); go_simp; first | done | with_reducible rfl)
  simp only [Act.put, List.getElem_toArray, List.getElem_cons_zero, List.getElem_cons_succ, List.setIfInBounds_toArray, List.set_cons_zero, List.set_cons_succ]
  refine wpAnyH_take (i := 2) (v := ?v2) rfl (by kernel_rfl) (by kernel_rfl) (by kernel_rfl) (fun _ _ _ h => h) (Or.inl ⟨by rfl, ?hy2⟩) (by assumption) ?rest2
  case hy2 => (intro W hSw; go_simp; first | done | with_reducible rfl)
  simp only [Act.put, List.getElem_toArray, List.getElem_cons_zero, List.getElem_cons_succ, List.setIfInBounds_toArray, List.set_cons_zero, List.set_cons_succ]
  refine wpAnyH_take (i := 3) (v := ?v3) rfl (by kernel_rfl) (by kernel_rfl) (by kernel_rfl) (fun _ _ _ h => h) (Or.inl ⟨by rfl, ?hy3⟩) (by assumption) ?rest3
  case hy3 => (intro W hSw; go_simp; first | done | with_reducible rfl)
  simp only [Act.put, List.getElem_toArray, List.getElem_cons_zero, List.getElem_cons_succ, List.setIfInBounds_toArray, List.set_cons_zero, List.set_cons_succ]
  refine wpAnyH_take (i := 4) (v := ?v4) rfl (by kernel_rfl) (by kernel_rfl) (by kernel_rfl) (fun _ _ _ h => h) (Or.inl ⟨by rfl, ?hy4⟩) (by assumption) ?rest4
  case hy4 => (intro W hSw; have cj := (cell_of_row _ _ 5 _ _ _ hSw).trans (rfl : _ = some (.int .u16 pu : Value)); go_simp; first | done | with_reducible rfl)
  simp only [Act.put, List.getElem_toArray, List.getElem_cons_zero, List.getElem_cons_succ, List.setIfInBounds_toArray, List.set_cons_zero, List.set_cons_succ]
  refine wpAnyH_take (i := 5) (v := ?v5) rfl (by kernel_rfl) (by kernel_rfl) (by kernel_rfl) (fun _ _ _ h => h) (Or.inl ⟨by rfl, ?hy5⟩) (by assumption) ?rest5
  case hy5 => (intro W hSw; go_simp; first | done | with_reducible rfl)
  simp only [Act.put, List.getElem_toArray, List.getElem_cons_zero, List.getElem_cons_succ, List.setIfInBounds_toArray, List.set_cons_zero, List.set_cons_succ]
  refine wpAnyH_take (i := 6) (v := ?v6) rfl (by kernel_rfl) (by kernel_rfl) (by kernel_rfl) (fun _ _ _ h => h) (Or.inl ⟨by rfl, ?hy6⟩) (by assumption) ?rest6
  case hy6 => (intro W hSw; go_simp; first | done | with_reducible rfl)
  simp only [Act.put, List.getElem_toArray, List.getElem_cons_zero, List.getElem_cons_succ, List.setIfInBounds_toArray, List.set_cons_zero, List.set_cons_succ]
  refine wpAnyH_take (i := 7) (v := ?v7) rfl (by kernel_rfl) (by kernel_rfl) (by kernel_rfl) (fun _ _ _ h => h) (Or.inl ⟨by rfl, ?hy7⟩) (by assumption) ?rest7
  case hy7 => (intro W hSw; have cj := (cell_of_row _ _ 0 _ _ _ hSw).trans (rfl : _ = some (.int .i64 size : Value)); go_simp; first | done | with_reducible rfl)
  simp only [Act.put, List.getElem_toArray, List.getElem_cons_zero, List.getElem_cons_succ, List.setIfInBounds_toArray, List.set_cons_zero, List.set_cons_succ]
  refine wpAnyH_take (i := 8) (v := ?v8) rfl (by kernel_rfl) (by kernel_rfl) (by kernel_rfl) (fun _ _ _ h => h) (Or.inl ⟨by rfl, ?hy8⟩) (by assumption) ?rest8
  case hy8 => (intro W hSw; go_simp; first | done | with_reducible rfl)
  simp only [Act.put, List.getElem_toArray, List.getElem_cons_zero, List.getElem_cons_succ, List.setIfInBounds_toArray, List.set_cons_zero, List.set_cons_succ]
  refine wpAnyH_take (i := 9) (v := ?v9) rfl (by kernel_rfl) (by kernel_rfl) (by kernel_rfl) (fun _ _ _ h => h) (Or.inl ⟨by rfl, ?hy9⟩) (by assumption) ?rest9
  case hy9 => (intro W hSw; go_simp; first | done | with_reducible rfl)
  simp only [Act.put, List.getElem_toArray, List.getElem_cons_zero, List.getElem_cons_succ, List.setIfInBounds_toArray, List.set_cons_zero, List.set_cons_succ]
  refine wpAnyH_take (i := 10) (v := ?v10) rfl (by kernel_rfl) (by kernel_rfl) (by kernel_rfl) (fun _ _ _ h => h) (Or.inl ⟨by rfl, ?hy10⟩) (by assumption) ?rest10
  case hy10 => (intro W hSw; go_simp; first | done | with_reducible rfl)
  simp only [Act.put, List.getElem_toArray, List.getElem_cons_zero, List.getElem_cons_succ, List.setIfInBounds_toArray, List.set_cons_zero, List.set_cons_succ]
  refine wpAnyH_take (i := 11) (v := ?v11) rfl (by kernel_rfl) (by kernel_rfl) (by kernel_rfl) (fun _ _ _ h => h) (Or.inl ⟨by rfl, ?hy11⟩) (by assumption) ?rest11
  case hy11 => (intro W hSw; go_simp; first | done | with_reducible rfl)
  simp only [Act.put, List.getElem_toArray, List.getElem_cons_zero, List.getElem_cons_succ, List.setIfInBounds_toArray, List.set_cons_zero, List.set_cons_succ]
  refine wpAnyH_take (i := 12) (v := ?v12) rfl (by kernel_rfl) (by kernel_rfl) (by kernel_rfl) (fun _ _ _ h => h) (Or.inl ⟨by rfl, ?hy12⟩) (by assumption) ?rest12
  case hy12 => (intro W hSw; go_simp; first | done | with_reducible rfl)
  simp only [Act.put, List.getElem_toArray, List.getElem_cons_zero, List.getElem_cons_succ, List.setIfInBounds_toArray, List.set_cons_zero, List.set_cons_succ]
  refine wpAnyH_done (by kernel_rfl) ?_ _
  clear hH0
  rw [HARG.out]
  have HRD : Hid (RamIs w1.drew g m F ∧ MemStep F F w w1.drew) := Lib.hid (And.intro (HR1.out.1.below (Below.refl _ _).drew) HR1.out.2.drew)
  have K2d : Hid (w1.drew.heap[w.heap.size]? = some (.cells #[.int .i64 size, .int .u32 de, .int .u32 av, .int .u32 us, .int .u16 la, .int .u16 pu] 68 (0, 0))) := K2
  have K3d : Hid (w1.drew.heap[w.heap.size + 1]? = some (.cells #[.int .i64 0, .int .u32 0, .int .u32 0, .int .u32 0, .int .u16 0, .int .u16 0] 68 (0, 0))) := K3
  clear K2 K3 HR1 HARG
  generalize w1.drew = w2 at HRD K2d K3d ⊢
  have c0 := (cell_of_row _ _ 0 _ _ _ K2d.out).trans (rfl : _ = some (.int .i64 size : Value))
  have c3 := (cell_of_row _ _ 3 _ _ _ K2d.out).trans (rfl : _ = some (.int .u32 us : Value))
  have c5 := (cell_of_row _ _ 5 _ _ _ K2d.out).trans (rfl : _ = some (.int .u16 pu : Value))
  have HQ := Lib.hid (HS1.out w2 F HRD.out.1 HRD.out.2)
  go_wp2_with fail
  refine (HQ.out).mono ?_
  rintro e w3 ⟨F3, rfl, h1, h2⟩
  have K0a := Lib.hid (h2.heap K2d.out HN.out.1)
  have K1a := Lib.hid (h2.heap K3d.out HN.out.2)
  have HNa := Lib.hid (And.intro (h2.off (lt_heap K2d.out) HN.out.1) (h2.off (lt_heap K3d.out) HN.out.2))
  have HRa := Lib.hid (And.intro h1 (HRD.out.2.trans h2))
  clear h1 h2 HQ HS1 c0 c3 c5 K2d K3d HN HRD
  have c0 := (cell_of_row _ _ 0 _ _ _ K0a.out).trans (rfl : _ = some (.int .i64 size : Value))
  have c3 := (cell_of_row _ _ 3 _ _ _ K0a.out).trans (rfl : _ = some (.int .u32 us : Value))
  have c5 := (cell_of_row _ _ 5 _ _ _ K0a.out).trans (rfl : _ = some (.int .u16 pu : Value))
  have HO := Lib.hid (show (#[.int .i64 0, .int .u32 0, .int .u32 0, .int .u32 0, .int .u16 0, .int .u16 0] : Array Value).all (·.oneCell') = true by simp [Value.oneCell'])
  go_wp2_with (first | go_skip | (refine wpList_store_to rfl 68 _ _ rfl (w.heap.size + 1) #[.int .i64 0, .int .u32 0, .int .u32 0, .int .u32 0, .int .u16 0, .int .u16 0] rfl rfl 68 #[.int .i64 0, .int .u32 0, .int .u32 0, .int .u32 0, .int .u16 0, .int .u16 0] K1a.out (by kernel_rfl) rfl HO.out ?_))
  intro w20 hx hk
  have HRF := Lib.hid (And.intro (HRa.out.1.kx hx.out (fun k _ hf e => by subst e; exact HNa.out.2 hf)) (HRa.out.2.own hx.out (by omega)))
  go_wp2_with fail
  exact bodyPost_ret (v := .tuple #[.agg #[.int .i64 0, .int .u32 0, .int .u32 0, .int .u32 0, .int .u16 0, .int .u16 0], .iface 104 (.int .i64 22)]) (results_cell_tmp Tryd.results81 _ _ (w.heap.size + 1) 68 #[.int .i64 0, .int .u32 0, .int .u32 0, .int .u32 0, .int .u16 0, .int .u16 0] (0, 0) _ rfl hk Tryd.underlying68 rfl (by kernel_rfl)) rfl ⟨F3, rfl, HRF.out.1, HRF.out.2⟩
set_option maxRecDepth 100000 in
set_option maxHeartbeats 8000000 in
theorem ring_Give_f2 {g : Nat} {m m1 : Mm} {F : Nat → Prop} {w : World} (size de av us la pu hd n  : Nat) (a3 : Int) (h : RamIs w g m F) (hs1 : 1 ≤ size) (hs2 : size ≤ 256) (hdl : hd < size) 
    (HARG : Hid (IntKind.u32.wrap (IntKind.u32.wrap ((us : Int) + 4) + IntKind.u32.wrap (8 * IntKind.u32.wrap ((IntKind.i64.wrap (pu : Int)).tmod (size : Int)))) = a3))
    (HC : Hid (∀ W, Calls Tryd.prog 110 #[.agg #[.int .i64 size, .int .u32 de, .int .u32 av, .int .u32 us, .int .u16 la, .int .u16 pu], .pointer (some ⟨g, 0, none⟩)] W fun e w' => e = .returned .nilIface ∧ Below W.heap.size W w'))
    (HS1 : Hid (∀ W F', RamIs W g m F' → MemStep F F' w W → Calls Tryd.prog 114 #[.pointer (some ⟨g, 0, none⟩), .int .u32 (a3), .int .i64 4, .int .u32 (hd : Nat)] W fun e w' => ∃ F2, e = .returned .nilIface ∧ RamIs w' g m1 F2 ∧ MemStep F' F2 W w'))
    (HS2 : Hid (∀ W F', RamIs W g m1 F' → MemStep F F' w W → Calls Tryd.prog 114 #[.pointer (some ⟨g, 0, none⟩), .int .u32 ((a3 + 4) % 4294967296), .int .i64 4, .int .u32 (n : Nat)] W fun e w' => ∃ F2, e = .returned (.iface 104 (.int .i64 22)) ∧ RamIs w' g m1 F2 ∧ MemStep F' F2 W w')) :
    Calls Tryd.prog 81 #[.agg #[.int .i64 size, .int .u32 de, .int .u32 av, .int .u32 us, .int .u16 la, .int .u16 pu], .pointer (some ⟨g, 0, none⟩), .int .i64 hd, .int .u32 n] w fun e w' => ∃ F2, e = .returned (.tuple #[.agg #[.int .i64 0, .int .u32 0, .int .u32 0, .int .u32 0, .int .u16 0, .int .u16 0], .iface 104 (.int .i64 22)]) ∧ RamIs w' g m1 F2 ∧ MemStep F F2 w w' := by
  have HF := Lib.hid h.lt
  have hsz1 : (1 : Int) ≤ (size : Int) := by omega
  have hsz2 : (size : Int) ≤ 256 := by omega
  have hsz0 : ¬ size = 0 := by omega
  have hd0 : (0 : Int) ≤ (hd : Int) := by omega
  have hd1 : (hd : Int) < (size : Int) := by omega
  have hd2 : (hd : Int) ≤ 256 := by omega
  obtain ⟨k0, k1, hb0⟩ := two_new w (.cells #[.int .i64 size, .int .u32 de, .int .u32 av, .int .u32 us, .int .u16 la, .int .u16 pu] 68) (.cells #[.int .i64 0, .int .u32 0, .int .u32 0, .int .u32 0, .int .u16 0, .int .u16 0] 68)
  have K0 := Lib.hid k0
  have K1 := Lib.hid k1
  have HR0 := Lib.hid (And.intro (h.below hb0) (MemStep.of_below (F := F) hb0))
  have hn0 : ¬ F w.heap.size := fun hf => absurd (HF.out _ hf) (Nat.lt_irrefl _)
  have hn1 : ¬ F (w.heap.size + 1) := fun hf => by have := HF.out _ hf; omega
  have HN := Lib.hid (And.intro hn0 hn1)
  clear k0 k1 hb0 h hn0 hn1 hs1 hs2 hdl
  go_enter Tryd.func81, Tryd.ntmps81
  go_wp2_with fail
  refine (HC.out _).mono ?_
  rintro e w1 ⟨rfl, hb⟩
  have K2 := Lib.hid (keepB K0.out hb)
  have K3 := Lib.hid (keepB K1.out hb)
  have HR1 := Lib.hid (And.intro (HR0.out.1.below hb) (HR0.out.2.below hb))
  clear hb K0 K1 HR0 HC
  go_upto_region 4 with fail
  refine wp_region_held_drew (S := fun W => W.heap[w.heap.size]? = some (.cells #[.int .i64 size, .int .u32 de, .int .u32 av, .int .u32 us, .int .u16 la, .int .u16 pu] 68 (0, 0))) (by kernel_rfl) K2.out (fun hH0 => ?_)
  refine wpAnyH_take (i := 0) (v := ?v0) rfl (by kernel_rfl) (by kernel_rfl) (by kernel_rfl) (fun _ _ _ h => h) (Or.inl ⟨by rfl, ?hy0⟩) (by assumption) ?rest0
  case hy0 => (intro W hSw; go_simp; first | done | with_reducible rfl)
  simp only [Act.put, List.getElem_toArray, List.getElem_cons_zero, List.setIfInBounds_toArray, List.set_cons_zero, List.set_cons_succ]
  refine wpAnyH_take (i := 1) (v := ?v1) rfl (by kernel_rfl) (by kernel_rfl) (by kernel_rfl) (fun _ _ _ h => h) (Or.inl ⟨by rfl, ?hy1⟩) (by assumption) ?rest1
  case hy1 => (intro W hSw; have cj := (cell_of_row _ _ 3 _ _ _ hSw).trans (rfl : _ = some (.int .u32 us : Value)); go_simp; first | done | with_reducible rfl)
  simp only [Act.put, List.getElem_toArray, List.getElem_cons_zero, List.getElem_cons_succ, List.setIfInBounds_toArray, List.set_cons_zero, List.set_cons_succ]
  refine wpAnyH_take (i := 2) (v := ?v2) rfl (by kernel_rfl) (by kernel_rfl) (by kernel_rfl) (fun _ _ _ h => h) (Or.inl ⟨by rfl, ?hy2⟩) (by assumption) ?rest2
  case hy2 => (intro W hSw; go_simp; first | done | with_reducible rfl)
  simp only [Act.put, List.getElem_toArray, List.getElem_cons_zero, List.getElem_cons_succ, List.setIfInBounds_toArray, List.set_cons_zero, List.set_cons_succ]
  refine wpAnyH_take (i := 3) (v := ?v3) rfl (by kernel_rfl) (by kernel_rfl) (by kernel_rfl) (fun _ _ _ h => h) (Or.inl ⟨by rfl, ?hy3⟩) (by assumption) ?rest3
  case hy3 => (intro W hSw; go_simp; first | done | with_reducible rfl)
  simp only [Act.put, List.getElem_toArray, List.getElem_cons_zero, List.getElem_cons_succ, List.setIfInBounds_toArray, List.set_cons_zero, List.set_cons_succ]
  refine wpAnyH_take (i := 4) (v := ?v4) rfl (by kernel_rfl) (by kernel_rfl) (by kernel_rfl) (fun _ _ _ h => h) (Or.inl ⟨by rfl, ?hy4⟩) (by assumption) ?rest4
  case hy4 => (intro W hSw; have cj := (cell_of_row _ _ 5 _ _ _ hSw).trans (rfl : _ = some (.int .u16 pu : Value)); go_simp; first | done | with_reducible rfl)
  simp only [Act.put, List.getElem_toArray, List.getElem_cons_zero, List.getElem_cons_succ, List.setIfInBounds_toArray, List.set_cons_zero, List.set_cons_succ]
  refine wpAnyH_take (i := 5) (v := ?v5) rfl (by kernel_rfl) (by kernel_rfl) (by kernel_rfl) (fun _ _ _ h => h) (Or.inl ⟨by rfl, ?hy5⟩) (by assumption) ?rest5
  case hy5 => (intro W hSw; go_simp; first | done | with_reducible rfl)
  simp only [Act.put, List.getElem_toArray, List.getElem_cons_zero, List.getElem_cons_succ, List.setIfInBounds_toArray, List.set_cons_zero, List.set_cons_succ]
  refine wpAnyH_take (i := 6) (v := ?v6) rfl (by kernel_rfl) (by kernel_rfl) (by kernel_rfl) (fun _ _ _ h => h) (Or.inl ⟨by rfl, ?hy6⟩) (by assumption) ?rest6
  case hy6 => (intro W hSw; go_simp; first | done | with_reducible rfl)
  simp only [Act.put, List.getElem_toArray, List.getElem_cons_zero, List.getElem_cons_succ, List.setIfInBounds_toArray, List.set_cons_zero, List.set_cons_succ]
  refine wpAnyH_take (i := 7) (v := ?v7) rfl (by kernel_rfl) (by kernel_rfl) (by kernel_rfl) (fun _ _ _ h => h) (Or.inl ⟨by rfl, ?hy7⟩) (by assumption) ?rest7
  case hy7 => (intro W hSw; have cj := (cell_of_row _ _ 0 _ _ _ hSw).trans (rfl : _ = some (.int .i64 size : Value)); go_simp; first | done | with_reducible rfl)
  simp only [Act.put, List.getElem_toArray, List.getElem_cons_zero, List.getElem_cons_succ, List.setIfInBounds_toArray, List.set_cons_zero, List.set_cons_succ]
  refine wpAnyH_take (i := 8) (v := ?v8) rfl (by kernel_rfl) (by kernel_rfl) (by kernel_rfl) (fun _ _ _ h => h) (Or.inl ⟨by rfl, ?hy8⟩) (by assumption) ?rest8
  case hy8 => (intro W hSw; go_simp; first | done | with_reducible rfl)
  simp only [Act.put, List.getElem_toArray, List.getElem_cons_zero, List.getElem_cons_succ, List.setIfInBounds_toArray, List.set_cons_zero, List.set_cons_succ]
  refine wpAnyH_take (i := 9) (v := ?v9) rfl (by kernel_rfl) (by kernel_rfl) (by kernel_rfl) (fun _ _ _ h => h) (Or.inl ⟨by rfl, ?hy9⟩) (by assumption) ?rest9
  case hy9 => (intro W hSw; go_simp; first | done | with_reducible rfl)
  simp only [Act.put, List.getElem_toArray, List.getElem_cons_zero, List.getElem_cons_succ, List.setIfInBounds_toArray, List.set_cons_zero, List.set_cons_succ]
  refine wpAnyH_take (i := 10) (v := ?v10) rfl (by kernel_rfl) (by kernel_rfl) (by kernel_rfl) (fun _ _ _ h => h) (Or.inl ⟨by rfl, ?hy10⟩) (by assumption) ?rest10
  case hy10 => (intro W hSw; go_simp; first | done | with_reducible rfl)
  simp only [Act.put, List.getElem_toArray, List.getElem_cons_zero, List.getElem_cons_succ, List.setIfInBounds_toArray, List.set_cons_zero, List.set_cons_succ]
  refine wpAnyH_take (i := 11) (v := ?v11) rfl (by kernel_rfl) (by kernel_rfl) (by kernel_rfl) (fun _ _ _ h => h) (Or.inl ⟨by rfl, ?hy11⟩) (by assumption) ?rest11
  case hy11 => (intro W hSw; go_simp; first | done | with_reducible rfl)
  simp only [Act.put, List.getElem_toArray, List.getElem_cons_zero, List.getElem_cons_succ, List.setIfInBounds_toArray, List.set_cons_zero, List.set_cons_succ]
  refine wpAnyH_take (i := 12) (v := ?v12) rfl (by kernel_rfl) (by kernel_rfl) (by kernel_rfl) (fun _ _ _ h => h) (Or.inl ⟨by rfl, ?hy12⟩) (by assumption) ?rest12
  case hy12 => (intro W hSw; go_simp; first | done | with_reducible rfl)
  simp only [Act.put, List.getElem_toArray, List.getElem_cons_zero, List.getElem_cons_succ, List.setIfInBounds_toArray, List.set_cons_zero, List.set_cons_succ]
  refine wpAnyH_done (by kernel_rfl) ?_ _
  clear hH0
  rw [HARG.out]
  have HRD : Hid (RamIs w1.drew g m F ∧ MemStep F F w w1.drew) := Lib.hid (And.intro (HR1.out.1.below (Below.refl _ _).drew) HR1.out.2.drew)
  have K2d : Hid (w1.drew.heap[w.heap.size]? = some (.cells #[.int .i64 size, .int .u32 de, .int .u32 av, .int .u32 us, .int .u16 la, .int .u16 pu] 68 (0, 0))) := K2
  have K3d : Hid (w1.drew.heap[w.heap.size + 1]? = some (.cells #[.int .i64 0, .int .u32 0, .int .u32 0, .int .u32 0, .int .u16 0, .int .u16 0] 68 (0, 0))) := K3
  clear K2 K3 HR1 HARG
  generalize w1.drew = w2 at HRD K2d K3d ⊢
  have c0 := (cell_of_row _ _ 0 _ _ _ K2d.out).trans (rfl : _ = some (.int .i64 size : Value))
  have c3 := (cell_of_row _ _ 3 _ _ _ K2d.out).trans (rfl : _ = some (.int .u32 us : Value))
  have c5 := (cell_of_row _ _ 5 _ _ _ K2d.out).trans (rfl : _ = some (.int .u16 pu : Value))
  have HQ := Lib.hid (HS1.out w2 F HRD.out.1 HRD.out.2)
  go_wp2_with fail
  refine (HQ.out).mono ?_
  rintro e w3 ⟨F3, rfl, h1, h2⟩
  have K0a := Lib.hid (h2.heap K2d.out HN.out.1)
  have K1a := Lib.hid (h2.heap K3d.out HN.out.2)
  have HNa := Lib.hid (And.intro (h2.off (lt_heap K2d.out) HN.out.1) (h2.off (lt_heap K3d.out) HN.out.2))
  have HRa := Lib.hid (And.intro h1 (HRD.out.2.trans h2))
  clear h1 h2 HQ HS1 c0 c3 c5 K2d K3d HN HRD
  have c0 := (cell_of_row _ _ 0 _ _ _ K0a.out).trans (rfl : _ = some (.int .i64 size : Value))
  have c3 := (cell_of_row _ _ 3 _ _ _ K0a.out).trans (rfl : _ = some (.int .u32 us : Value))
  have c5 := (cell_of_row _ _ 5 _ _ _ K0a.out).trans (rfl : _ = some (.int .u16 pu : Value))
  have HQ := Lib.hid (HS2.out w3 F3 HRa.out.1 HRa.out.2)
  go_wp2_with fail
  refine (HQ.out).mono ?_
  rintro e w4 ⟨F4, rfl, h1, h2⟩
  have K0b := Lib.hid (h2.heap K0a.out HNa.out.1)
  have K1b := Lib.hid (h2.heap K1a.out HNa.out.2)
  have HNb := Lib.hid (And.intro (h2.off (lt_heap K0a.out) HNa.out.1) (h2.off (lt_heap K1a.out) HNa.out.2))
  have HRb := Lib.hid (And.intro h1 (HRa.out.2.trans h2))
  clear h1 h2 HQ HS2 c0 c3 c5 K0a K1a HNa HRa
  have c0 := (cell_of_row _ _ 0 _ _ _ K0b.out).trans (rfl : _ = some (.int .i64 size : Value))
  have c3 := (cell_of_row _ _ 3 _ _ _ K0b.out).trans (rfl : _ = some (.int .u32 us : Value))
  have c5 := (cell_of_row _ _ 5 _ _ _ K0b.out).trans (rfl : _ = some (.int .u16 pu : Value))
  have HO := Lib.hid (show (#[.int .i64 0, .int .u32 0, .int .u32 0, .int .u32 0, .int .u16 0, .int .u16 0] : Array Value).all (·.oneCell') = true by simp [Value.oneCell'])
  go_wp2_with (first | go_skip | (refine wpList_store_to rfl 68 _ _ rfl (w.heap.size + 1) #[.int .i64 0, .int .u32 0, .int .u32 0, .int .u32 0, .int .u16 0, .int .u16 0] rfl rfl 68 #[.int .i64 0, .int .u32 0, .int .u32 0, .int .u32 0, .int .u16 0, .int .u16 0] K1b.out (by kernel_rfl) rfl HO.out ?_))
  intro w20 hx hk
  have HRF := Lib.hid (And.intro (HRb.out.1.kx hx.out (fun k _ hf e => by subst e; exact HNb.out.2 hf)) (HRb.out.2.own hx.out (by omega)))
  go_wp2_with fail
  exact bodyPost_ret (v := .tuple #[.agg #[.int .i64 0, .int .u32 0, .int .u32 0, .int .u32 0, .int .u16 0, .int .u16 0], .iface 104 (.int .i64 22)]) (results_cell_tmp Tryd.results81 _ _ (w.heap.size + 1) 68 #[.int .i64 0, .int .u32 0, .int .u32 0, .int .u32 0, .int .u16 0, .int .u16 0] (0, 0) _ rfl hk Tryd.underlying68 rfl (by kernel_rfl)) rfl ⟨F4, rfl, HRF.out.1, HRF.out.2⟩
set_option maxRecDepth 100000 in
set_option maxHeartbeats 8000000 in
theorem ring_Give_f3 {g : Nat} {m m1 m2 : Mm} {F : Nat → Prop} {w : World} (size de av us la pu hd n p1 : Nat) (a3 : Int) (h : RamIs w g m F) (hs1 : 1 ≤ size) (hs2 : size ≤ 256) (hdl : hd < size) (hp1 : IntKind.u16.wrap ((pu : Int) + 1) = (p1 : Int)) (hp2 : p1 < 65536)
    (HARG : Hid (IntKind.u32.wrap (IntKind.u32.wrap ((us : Int) + 4) + IntKind.u32.wrap (8 * IntKind.u32.wrap ((IntKind.i64.wrap (pu : Int)).tmod (size : Int)))) = a3))
    (HC : Hid (∀ W, Calls Tryd.prog 110 #[.agg #[.int .i64 size, .int .u32 de, .int .u32 av, .int .u32 us, .int .u16 la, .int .u16 pu], .pointer (some ⟨g, 0, none⟩)] W fun e w' => e = .returned .nilIface ∧ Below W.heap.size W w'))
    (HS1 : Hid (∀ W F', RamIs W g m F' → MemStep F F' w W → Calls Tryd.prog 114 #[.pointer (some ⟨g, 0, none⟩), .int .u32 (a3), .int .i64 4, .int .u32 (hd : Nat)] W fun e w' => ∃ F2, e = .returned .nilIface ∧ RamIs w' g m1 F2 ∧ MemStep F' F2 W w'))
    (HS2 : Hid (∀ W F', RamIs W g m1 F' → MemStep F F' w W → Calls Tryd.prog 114 #[.pointer (some ⟨g, 0, none⟩), .int .u32 ((a3 + 4) % 4294967296), .int .i64 4, .int .u32 (n : Nat)] W fun e w' => ∃ F2, e = .returned .nilIface ∧ RamIs w' g m2 F2 ∧ MemStep F' F2 W w'))
    (HS3 : Hid (∀ W F', RamIs W g m2 F' → MemStep F F' w W → Calls Tryd.prog 114 #[.pointer (some ⟨g, 0, none⟩), .int .u32 (((us : Int) + 2) % 4294967296), .int .i64 2, .int .u32 (p1 : Nat)] W fun e w' => ∃ F2, e = .returned (.iface 104 (.int .i64 22)) ∧ RamIs w' g m2 F2 ∧ MemStep F' F2 W w')) :
    Calls Tryd.prog 81 #[.agg #[.int .i64 size, .int .u32 de, .int .u32 av, .int .u32 us, .int .u16 la, .int .u16 pu], .pointer (some ⟨g, 0, none⟩), .int .i64 hd, .int .u32 n] w fun e w' => ∃ F2, e = .returned (.tuple #[.agg #[.int .i64 0, .int .u32 0, .int .u32 0, .int .u32 0, .int .u16 0, .int .u16 0], .iface 104 (.int .i64 22)]) ∧ RamIs w' g m2 F2 ∧ MemStep F F2 w w' := by
  have HF := Lib.hid h.lt
  have hsz1 : (1 : Int) ≤ (size : Int) := by omega
  have hsz2 : (size : Int) ≤ 256 := by omega
  have hsz0 : ¬ size = 0 := by omega
  have hd0 : (0 : Int) ≤ (hd : Int) := by omega
  have hd1 : (hd : Int) < (size : Int) := by omega
  have hd2 : (hd : Int) ≤ 256 := by omega
  have hpz : (0 : Int) ≤ (p1 : Int) := by omega
  have hpy : (p1 : Int) ≤ 65535 := by omega
  obtain ⟨k0, k1, hb0⟩ := two_new w (.cells #[.int .i64 size, .int .u32 de, .int .u32 av, .int .u32 us, .int .u16 la, .int .u16 pu] 68) (.cells #[.int .i64 0, .int .u32 0, .int .u32 0, .int .u32 0, .int .u16 0, .int .u16 0] 68)
  have K0 := Lib.hid k0
  have K1 := Lib.hid k1
  have HR0 := Lib.hid (And.intro (h.below hb0) (MemStep.of_below (F := F) hb0))
  have hn0 : ¬ F w.heap.size := fun hf => absurd (HF.out _ hf) (Nat.lt_irrefl _)
  have hn1 : ¬ F (w.heap.size + 1) := fun hf => by have := HF.out _ hf; omega
  have HN := Lib.hid (And.intro hn0 hn1)
  clear k0 k1 hb0 h hn0 hn1 hs1 hs2 hdl hp2
  go_enter Tryd.func81, Tryd.ntmps81
  go_wp2_with fail
  refine (HC.out _).mono ?_
  rintro e w1 ⟨rfl, hb⟩
  have K2 := Lib.hid (keepB K0.out hb)
  have K3 := Lib.hid (keepB K1.out hb)
  have HR1 := Lib.hid (And.intro (HR0.out.1.below hb) (HR0.out.2.below hb))
  clear hb K0 K1 HR0 HC
  go_upto_region 4 with fail
  refine wp_region_held_drew (S := fun W => W.heap[w.heap.size]? = some (.cells #[.int .i64 size, .int .u32 de, .int .u32 av, .int .u32 us, .int .u16 la, .int .u16 pu] 68 (0, 0))) (by kernel_rfl) K2.out (fun hH0 => ?_)
  refine wpAnyH_take (i := 0) (v := ?v0) rfl (by kernel_rfl) (by kernel_rfl) (by kernel_rfl) (fun _ _ _ h => h) (Or.inl ⟨by rfl, ?hy0⟩) (by assumption) ?rest0
  case hy0 => (intro W hSw; go_simp; first | done | with_reducible rfl)
  simp only [Act.put, List.getElem_toArray, List.getElem_cons_zero, List.setIfInBounds_toArray, List.set_cons_zero, List.set_cons_succ]
  refine wpAnyH_take (i := 1) (v := ?v1) rfl (by kernel_rfl) (by kernel_rfl) (by kernel_rfl) (fun _ _ _ h => h) (Or.inl ⟨by rfl, ?hy1⟩) (by assumption) ?rest1
  case hy1 => (intro W hSw; have cj := (cell_of_row _ _ 3 _ _ _ hSw).trans (rfl : _ = some (.int .u32 us : Value)); go_simp; first | done | with_reducible rfl)
  simp only [Act.put, List.getElem_toArray, List.getElem_cons_zero, List.getElem_cons_succ, List.setIfInBounds_toArray, List.set_cons_zero, List.set_cons_succ]
  refine wpAnyH_take (i := 2) (v := ?v2) rfl (by kernel_rfl) (by kernel_rfl) (by kernel_rfl) (fun _ _ _ h => h) (Or.inl ⟨by rfl, ?hy2⟩) (by assumption) ?rest2
  case hy2 => (intro W hSw; go_simp; first | done | with_reducible rfl)
  simp only [Act.put, List.getElem_toArray, List.getElem_cons_zero, List.getElem_cons_succ, List.setIfInBounds_toArray, List.set_cons_zero, List.set_cons_succ]
  refine wpAnyH_take (i := 3) (v := ?v3) rfl (by kernel_rfl) (by kernel_rfl) (by kernel_rfl) (fun _ _ _ h => h) (Or.inl ⟨by rfl, ?hy3⟩) (by assumption) ?rest3
  case hy3 => (intro W hSw; go_simp; first | done | with_reducible rfl)
  simp only [Act.put, List.getElem_toArray, List.getElem_cons_zero, List.getElem_cons_succ, List.setIfInBounds_toArray, List.set_cons_zero, List.set_cons_succ]
  refine wpAnyH_take (i := 4) (v := ?v4) rfl (by kernel_rfl) (by kernel_rfl) (by kernel_rfl) (fun _ _ _ h => h) (Or.inl ⟨by rfl, ?hy4⟩) (by assumption) ?rest4
  case hy4 => (intro W hSw; have cj := (cell_of_row _ _ 5 _ _ _ hSw).trans (rfl : _ = some (.int .u16 pu : Value)); go_simp; first | done | with_reducible rfl)
  simp only [Act.put, List.getElem_toArray, List.getElem_cons_zero, List.getElem_cons_succ, List.setIfInBounds_toArray, List.set_cons_zero, List.set_cons_succ]
  refine wpAnyH_take (i := 5) (v := ?v5) rfl (by kernel_rfl) (by kernel_rfl) (by kernel_rfl) (fun _ _ _ h => h) (Or.inl ⟨by rfl, ?hy5⟩) (by assumption) ?rest5
  case hy5 => (intro W hSw; go_simp; first | done | with_reducible rfl)
  simp only [Act.put, List.getElem_toArray, List.getElem_cons_zero, List.getElem_cons_succ, List.setIfInBounds_toArray, List.set_cons_zero, List.set_cons_succ]
  refine wpAnyH_take (i := 6) (v := ?v6) rfl (by kernel_rfl) (by kernel_rfl) (by kernel_rfl) (fun _ _ _ h => h) (Or.inl ⟨by rfl, ?hy6⟩) (by assumption) ?rest6
  case hy6 => (intro W hSw; go_simp; first | done | with_reducible rfl)
  simp only [Act.put, List.getElem_toArray, List.getElem_cons_zero, List.getElem_cons_succ, List.setIfInBounds_toArray, List.set_cons_zero, List.set_cons_succ]
  refine wpAnyH_take (i := 7) (v := ?v7) rfl (by kernel_rfl) (by kernel_rfl) (by kernel_rfl) (fun _ _ _ h => h) (Or.inl ⟨by rfl, ?hy7⟩) (by assumption) ?rest7
  case hy7 => (intro W hSw; have cj := (cell_of_row _ _ 0 _ _ _ hSw).trans (rfl : _ = some (.int .i64 size : Value)); go_simp; first | done | with_reducible rfl)
  simp only [Act.put, List.getElem_toArray, List.getElem_cons_zero, List.getElem_cons_succ, List.setIfInBounds_toArray, List.set_cons_zero, List.set_cons_succ]
  refine wpAnyH_take (i := 8) (v := ?v8) rfl (by kernel_rfl) (by kernel_rfl) (by kernel_rfl) (fun _ _ _ h => h) (Or.inl ⟨by rfl, ?hy8⟩) (by assumption) ?rest8
  case hy8 => (intro W hSw; go_simp; first | done | with_reducible rfl)
  simp only [Act.put, List.getElem_toArray, List.getElem_cons_zero, List.getElem_cons_succ, List.setIfInBounds_toArray, List.set_cons_zero, List.set_cons_succ]
  refine wpAnyH_take (i := 9) (v := ?v9) rfl (by kernel_rfl) (by kernel_rfl) (by kernel_rfl) (fun _ _ _ h => h) (Or.inl ⟨by rfl, ?hy9⟩) (by assumption) ?rest9
  case hy9 => (intro W hSw; go_simp; first | done | with_reducible rfl)
  simp only [Act.put, List.getElem_toArray, List.getElem_cons_zero, List.getElem_cons_succ, List.setIfInBounds_toArray, List.set_cons_zero, List.set_cons_succ]
  refine wpAnyH_take (i := 10) (v := ?v10) rfl (by kernel_rfl) (by kernel_rfl) (by kernel_rfl) (fun _ _ _ h => h) (Or.inl ⟨by rfl, ?hy10⟩) (by assumption) ?rest10
  case hy10 => (intro W hSw; go_simp; first | done | with_reducible rfl)
  simp only [Act.put, List.getElem_toArray, List.getElem_cons_zero, List.getElem_cons_succ, List.setIfInBounds_toArray, List.set_cons_zero, List.set_cons_succ]
  refine wpAnyH_take (i := 11) (v := ?v11) rfl (by kernel_rfl) (by kernel_rfl) (by kernel_rfl) (fun _ _ _ h => h) (Or.inl ⟨by rfl, ?hy11⟩) (by assumption) ?rest11
  case hy11 => (intro W hSw; go_simp; first | done | with_reducible rfl)
  simp only [Act.put, List.getElem_toArray, List.getElem_cons_zero, List.getElem_cons_succ, List.setIfInBounds_toArray, List.set_cons_zero, List.set_cons_succ]
  refine wpAnyH_take (i := 12) (v := ?v12) rfl (by kernel_rfl) (by kernel_rfl) (by kernel_rfl) (fun _ _ _ h => h) (Or.inl ⟨by rfl, ?hy12⟩) (by assumption) ?rest12
  case hy12 => (intro W hSw; go_simp; first | done | with_reducible rfl)
  simp only [Act.put, List.getElem_toArray, List.getElem_cons_zero, List.getElem_cons_succ, List.setIfInBounds_toArray, List.set_cons_zero, List.set_cons_succ]
  refine wpAnyH_done (by kernel_rfl) ?_ _
  clear hH0
  rw [HARG.out]
  have HRD : Hid (RamIs w1.drew g m F ∧ MemStep F F w w1.drew) := Lib.hid (And.intro (HR1.out.1.below (Below.refl _ _).drew) HR1.out.2.drew)
  have K2d : Hid (w1.drew.heap[w.heap.size]? = some (.cells #[.int .i64 size, .int .u32 de, .int .u32 av, .int .u32 us, .int .u16 la, .int .u16 pu] 68 (0, 0))) := K2
  have K3d : Hid (w1.drew.heap[w.heap.size + 1]? = some (.cells #[.int .i64 0, .int .u32 0, .int .u32 0, .int .u32 0, .int .u16 0, .int .u16 0] 68 (0, 0))) := K3
  clear K2 K3 HR1 HARG
  generalize w1.drew = w2 at HRD K2d K3d ⊢
  have c0 := (cell_of_row _ _ 0 _ _ _ K2d.out).trans (rfl : _ = some (.int .i64 size : Value))
  have c3 := (cell_of_row _ _ 3 _ _ _ K2d.out).trans (rfl : _ = some (.int .u32 us : Value))
  have c5 := (cell_of_row _ _ 5 _ _ _ K2d.out).trans (rfl : _ = some (.int .u16 pu : Value))
  have HQ := Lib.hid (HS1.out w2 F HRD.out.1 HRD.out.2)
  go_wp2_with fail
  refine (HQ.out).mono ?_
  rintro e w3 ⟨F3, rfl, h1, h2⟩
  have K0a := Lib.hid (h2.heap K2d.out HN.out.1)
  have K1a := Lib.hid (h2.heap K3d.out HN.out.2)
  have HNa := Lib.hid (And.intro (h2.off (lt_heap K2d.out) HN.out.1) (h2.off (lt_heap K3d.out) HN.out.2))
  have HRa := Lib.hid (And.intro h1 (HRD.out.2.trans h2))
  clear h1 h2 HQ HS1 c0 c3 c5 K2d K3d HN HRD
  have c0 := (cell_of_row _ _ 0 _ _ _ K0a.out).trans (rfl : _ = some (.int .i64 size : Value))
  have c3 := (cell_of_row _ _ 3 _ _ _ K0a.out).trans (rfl : _ = some (.int .u32 us : Value))
  have c5 := (cell_of_row _ _ 5 _ _ _ K0a.out).trans (rfl : _ = some (.int .u16 pu : Value))
  have HQ := Lib.hid (HS2.out w3 F3 HRa.out.1 HRa.out.2)
  go_wp2_with fail
  refine (HQ.out).mono ?_
  rintro e w4 ⟨F4, rfl, h1, h2⟩
  have K0b := Lib.hid (h2.heap K0a.out HNa.out.1)
  have K1b := Lib.hid (h2.heap K1a.out HNa.out.2)
  have HNb := Lib.hid (And.intro (h2.off (lt_heap K0a.out) HNa.out.1) (h2.off (lt_heap K1a.out) HNa.out.2))
  have HRb := Lib.hid (And.intro h1 (HRa.out.2.trans h2))
  clear h1 h2 HQ HS2 c0 c3 c5 K0a K1a HNa HRa
  have c0 := (cell_of_row _ _ 0 _ _ _ K0b.out).trans (rfl : _ = some (.int .i64 size : Value))
  have c3 := (cell_of_row _ _ 3 _ _ _ K0b.out).trans (rfl : _ = some (.int .u32 us : Value))
  have c5 := (cell_of_row _ _ 5 _ _ _ K0b.out).trans (rfl : _ = some (.int .u16 pu : Value))
  have HQ := Lib.hid (HS3.out w4 F4 HRb.out.1 HRb.out.2)
  go_wp2_with fail
  refine (HQ.out).mono ?_
  rintro e w5 ⟨F5, rfl, h1, h2⟩
  have K0c := Lib.hid (h2.heap K0b.out HNb.out.1)
  have K1c := Lib.hid (h2.heap K1b.out HNb.out.2)
  have HNc := Lib.hid (And.intro (h2.off (lt_heap K0b.out) HNb.out.1) (h2.off (lt_heap K1b.out) HNb.out.2))
  have HRc := Lib.hid (And.intro h1 (HRb.out.2.trans h2))
  clear h1 h2 HQ HS3 c0 c3 c5 K0b K1b HNb HRb
  have c0 := (cell_of_row _ _ 0 _ _ _ K0c.out).trans (rfl : _ = some (.int .i64 size : Value))
  have c3 := (cell_of_row _ _ 3 _ _ _ K0c.out).trans (rfl : _ = some (.int .u32 us : Value))
  have c5 := (cell_of_row _ _ 5 _ _ _ K0c.out).trans (rfl : _ = some (.int .u16 pu : Value))
  have HO := Lib.hid (show (#[.int .i64 0, .int .u32 0, .int .u32 0, .int .u32 0, .int .u16 0, .int .u16 0] : Array Value).all (·.oneCell') = true by simp [Value.oneCell'])
  go_wp2_with (first | go_skip | (refine wpList_store_to rfl 68 _ _ rfl (w.heap.size + 1) #[.int .i64 0, .int .u32 0, .int .u32 0, .int .u32 0, .int .u16 0, .int .u16 0] rfl rfl 68 #[.int .i64 0, .int .u32 0, .int .u32 0, .int .u32 0, .int .u16 0, .int .u16 0] K1c.out (by kernel_rfl) rfl HO.out ?_))
  intro w20 hx hk
  have HRF := Lib.hid (And.intro (HRc.out.1.kx hx.out (fun k _ hf e => by subst e; exact HNc.out.2 hf)) (HRc.out.2.own hx.out (by omega)))
  go_wp2_with fail
  exact bodyPost_ret (v := .tuple #[.agg #[.int .i64 0, .int .u32 0, .int .u32 0, .int .u32 0, .int .u16 0, .int .u16 0], .iface 104 (.int .i64 22)]) (results_cell_tmp Tryd.results81 _ _ (w.heap.size + 1) 68 #[.int .i64 0, .int .u32 0, .int .u32 0, .int .u32 0, .int .u16 0, .int .u16 0] (0, 0) _ rfl hk Tryd.underlying68 rfl (by kernel_rfl)) rfl ⟨F5, rfl, HRF.out.1, HRF.out.2⟩
set_option maxRecDepth 100000 in
set_option maxHeartbeats 1000000 in
theorem ring_store_low (p : Option Addr) (a : Nat) (k v : Int) (w : World) (h31 : a < 2147483648) (hr : RegAt w) :
    Calls Tryd.prog 114 #[.pointer p, .int .u32 a, .int .i64 k, .int .u32 v] w fun e w' => e = .returned (.iface 104 (.int .i64 22)) ∧ Below w.heap.size w w' := by
  have HP := Lib.hid (ring_place_out a w h31 hr)
  clear hr h31
  go_enter Tryd.func114, Tryd.ntmps114
  go_wp2_with fail
  refine (HP.out).mono ?_
  rintro e w1 ⟨rfl, hb⟩
  go_wp2_with fail
  go_ret
  exact ⟨rfl, hb⟩
set_option maxRecDepth 100000 in
set_option maxHeartbeats 1000000 in
theorem ring_store_far {g : Nat} {m : Mm} {F : Nat → Prop} {w : World} (h : RamIs w g m F) (hr : RegAt w) (a k v : Nat) (ha : a < 4294967296) (h31 : 2147483648 ≤ a) (hk : okN k) (hs : 4096 * m.n < a - 2147483648 + k) :
    Calls Tryd.prog 114 #[.pointer (some ⟨g, 0, none⟩), .int .u32 a, .int .i64 k, .int .u32 v] w fun e w' => e = .returned (.iface 104 (.int .i64 22)) ∧ Below w.heap.size w w' := by
  have HP := Lib.hid (ring_place_in a w ha h31 hr)
  have HLD := Lib.hid (fun W (hb : Below w.heap.size w W) => mem_Store_err (a - 2147483648) k v 4 (by omega) (Lib.hid (mem_check_range (h.below hb) (a - 2147483648) k (by omega) hk hs)))
  rw [errV_val (q := 4) (by omega)] at HLD
  clear h hr hs hk
  generalize a - 2147483648 = x at HP HLD ⊢
  go_enter Tryd.func114, Tryd.ntmps114
  go_wp2_with fail
  refine (HP.out).mono ?_
  rintro e w1 ⟨rfl, hb⟩
  have HL2 := Lib.hid (HLD.out w1 hb)
  go_wp2_with fail
  refine (HL2.out).mono ?_
  rintro e w2 ⟨rfl, rfl⟩
  go_wp2_with fail
  go_ret
  exact ⟨rfl, hb⟩
/-- A number stored at a place of the machine. -/
def rstore (m : Mm) (a k v : Nat) : Option Mm := if 2147483648 ≤ a ∧ a - 2147483648 + k ≤ 4096 * m.n then some (m.store (a - 2147483648) k v) else none
theorem ring_store_no {g : Nat} {m : Mm} {F : Nat → Prop} {w : World} (h : RamIs w g m F) (hr : RegAt w) (a k v : Nat) (ai ki vi : Int) (ea : ai = a) (ek : ki = k) (ev : vi = v) (ha : a < 4294967296) (hk : okN k) (hn : rstore m a k v = none) :
    Calls Tryd.prog 114 #[.pointer (some ⟨g, 0, none⟩), .int .u32 ai, .int .i64 ki, .int .u32 vi] w fun e w' => ∃ F', e = .returned (.iface 104 (.int .i64 22)) ∧ RamIs w' g m F' ∧ MemStep F F' w w' := by
  subst ea ek ev
  by_cases h31 : 2147483648 ≤ a
  · have hs : 4096 * m.n < a - 2147483648 + k := by
      unfold rstore at hn
      by_cases hc : 2147483648 ≤ a ∧ a - 2147483648 + k ≤ 4096 * m.n
      · rw [if_pos hc] at hn; cases hn
      · omega
    refine (ring_store_far h hr a k v ha h31 hk hs).mono ?_
    rintro e w' ⟨rfl, hb⟩
    exact ⟨F, rfl, h.below hb, MemStep.of_below hb⟩
  · refine (ring_store_low _ a k v w (by omega) hr).mono ?_
    rintro e w' ⟨rfl, hb⟩
    exact ⟨F, rfl, h.below hb, MemStep.of_below hb⟩
theorem ring_store_yes {g : Nat} {m m' : Mm} {F : Nat → Prop} {w : World} (h : RamIs w g m F) (hr : RegAt w) (a k v : Nat) (ai ki vi : Int) (ea : ai = a) (ek : ki = k) (ev : vi = v) (ha : a < 4294967296) (hk : okN k) (hd : a % k = 0) (hn : rstore m a k v = some m') :
    Calls Tryd.prog 114 #[.pointer (some ⟨g, 0, none⟩), .int .u32 ai, .int .i64 ki, .int .u32 vi] w fun e w' => ∃ F', e = .returned .nilIface ∧ RamIs w' g m' F' ∧ MemStep F F' w w' := by
  unfold rstore at hn
  by_cases hc : 2147483648 ≤ a ∧ a - 2147483648 + k ≤ 4096 * m.n
  · rw [if_pos hc] at hn
    obtain rfl := Option.some.inj hn
    exact ring_store_ok h hr a k v ai ki vi ea ek ev ha hc.1 hk hc.2 (by rcases hk with rfl | rfl | rfl <;> omega)
  · rw [if_neg hc] at hn; cases hn
/-- A chain given back: whether it was, and the memory. -/
def rgive (q : Rg) (m : Mm) (hd n : Nat) : Bool × Mm :=
  let a := (q.us + 4 + 8 * (q.pu % q.size.toNat)) % 4294967296
  match rstore m a 4 hd with
  | none => (false, m)
  | some m1 => match rstore m1 ((a + 4) % 4294967296) 4 n with
    | none => (false, m1)
    | some m2 => match rstore m2 ((q.us + 2) % 4294967296) 2 ((q.pu + 1) % 65536) with
      | none => (false, m2)
      | some m3 => (true, m3)
def Rg.gave (q : Rg) : Rg := { q with pu := (q.pu + 1) % 65536 }
def giveV (q : Rg) : Bool → Value
  | true => .tuple #[.agg q.gave.c, .nilIface]
  | false => .tuple #[.agg Rg.zero.c, .iface 104 (.int .i64 22)]
theorem give_arg (us pu n : Nat) (hpu : pu < 65536) (hn : 1 ≤ n) (hn2 : n ≤ 256) : IntKind.u32.wrap (IntKind.u32.wrap ((us : Int) + 4) + IntKind.u32.wrap (8 * IntKind.u32.wrap ((IntKind.i64.wrap (pu : Int)).tmod (n : Int)))) = (((us + 4 + 8 * (pu % n)) % 4294967296 : Nat) : Int) := by
  have e : IntKind.i64.wrap (pu : Int) = (pu : Int) := by rw [IntKind.wrap_i64]; omega
  rw [e, Int.tmod_eq_emod_of_nonneg (by omega)]
  have e2 : ((pu : Int) % (n : Int)) = ((pu % n : Nat) : Int) := by omega
  rw [e2]
  have hlt : pu % n < n := Nat.mod_lt _ (by omega)
  generalize pu % n = x at hlt
  simp only [IntKind.wrap_u32]
  omega
theorem store_nG (m : Mm) (a k v : Nat) : (m.store a k v).n = m.n := rfl
theorem rstore_n {m m' : Mm} {a k v : Nat} (h : rstore m a k v = some m') : m'.n = m.n := by
  unfold rstore at h
  split at h
  · obtain rfl := Option.some.inj h; exact store_nG _ _ _ _
  · cases h
theorem ring_Give_all {g : Nat} {m : Mm} {F : Nat → Prop} {w : World} (q : Rg) (hq : q.wf) (hok : q.okP) (hd n : Nat) (ni : Int) (en : ni = (n : Int)) (hdl : (hd : Int) < q.size) (h : RamIs w g m F) (hr : RegAt w) (hrf : ¬ F 0) :
    Calls Tryd.prog 81 #[.agg q.c, .pointer (some ⟨g, 0, none⟩), .int .i64 hd, .int .u32 ni] w fun e w' => ∃ F2, e = .returned (giveV q (rgive q m hd n).1) ∧ RamIs w' g (rgive q m hd n).2 F2 ∧ MemStep F F2 w w' := by
  subst en
  have HB : ∀ W, Calls Tryd.prog 110 #[.agg q.c, .pointer (some ⟨g, 0, none⟩)] W fun e w' => e = .returned (errV (if q.okP then 0 else 1)) ∧ Below W.heap.size W w' := fun W => ring_bad q g W
  rw [if_pos hok] at HB
  obtain ⟨h1, h2, h3, h4, h5, h6⟩ := hok
  obtain ⟨z, hz⟩ : ∃ z : Nat, q.size = (z : Int) := ⟨q.size.toNat, by omega⟩
  have hz1 : 1 ≤ z := by omega
  have hz2 : z ≤ 256 := by omega
  have hus := hq.hus
  have hpu := hq.hpu
  have hzz : q.size.toNat = z := by omega
  have hqc : q.c = #[.int .i64 z, .int .u32 q.de, .int .u32 q.av, .int .u32 q.us, .int .u16 q.la, .int .u16 q.pu] := by unfold Rg.c; rw [hz]
  have hG : q.gave.c = #[.int .i64 z, .int .u32 q.de, .int .u32 q.av, .int .u32 q.us, .int .u16 q.la, .int .u16 ((q.pu + 1) % 65536 : Nat)] := by unfold Rg.gave Rg.c; rw [hz]
  have ha4 : ((q.us + 4 + 8 * (q.pu % z)) % 4294967296) % 4 = 0 := by omega
  have ha5 : (q.us + 4 + 8 * (q.pu % z)) % 4294967296 < 4294967296 := Nat.mod_lt _ (by omega)
  have harg := give_arg q.us q.pu z hpu hz1 hz2
  have hp1 : IntKind.u16.wrap ((q.pu : Int) + 1) = (((q.pu + 1) % 65536 : Nat) : Int) := by rw [IntKind.wrap_u16]; omega
  have hp2 : (q.pu + 1) % 65536 < 65536 := Nat.mod_lt _ (by omega)
  unfold rgive
  rw [hzz]
  rw [hqc] at HB ⊢
  simp only
  generalize (q.us + 4 + 8 * (q.pu % z)) % 4294967296 = a at ha4 ha5 harg
  have hr' : ∀ W F', MemStep F F' w W → RegAt W := fun W F' hs => (reg_step hr hs hrf).1
  cases e1 : rstore m a 4 hd with
  | none => exact ring_Give_f1 z q.de q.av q.us q.la q.pu hd n _ h hz1 hz2 (by omega) (Lib.hid harg) (Lib.hid HB) (Lib.hid (fun W F' x y => ring_store_no x (hr' W F' y) a 4 hd _ 4 _ rfl rfl rfl ha5 (.inr (.inr rfl)) e1))
  | some m1 =>
    have S1 := Lib.hid (fun W F' (x : RamIs W g m F') (y : MemStep F F' w W) => ring_store_yes x (hr' W F' y) a 4 hd _ 4 _ rfl rfl rfl ha5 (.inr (.inr rfl)) ha4 e1)
    simp only
    cases e2 : rstore m1 ((a + 4) % 4294967296) 4 n with
    | none => exact ring_Give_f2 z q.de q.av q.us q.la q.pu hd n _ h hz1 hz2 (by omega) (Lib.hid harg) (Lib.hid HB) S1 (Lib.hid (fun W F' x y => ring_store_no x (hr' W F' y) ((a + 4) % 4294967296) 4 n _ 4 _ (by omega) rfl rfl (by omega) (.inr (.inr rfl)) e2))
    | some m2 =>
      have S2 := Lib.hid (fun W F' (x : RamIs W g m1 F') (y : MemStep F F' w W) => ring_store_yes x (hr' W F' y) ((a + 4) % 4294967296) 4 n (((a : Int) + 4) % 4294967296) 4 _ (by omega) rfl rfl (by omega) (.inr (.inr rfl)) (by omega) e2)
      simp only
      cases e3 : rstore m2 ((q.us + 2) % 4294967296) 2 ((q.pu + 1) % 65536) with
      | none => exact ring_Give_f3 z q.de q.av q.us q.la q.pu hd n _ _ h hz1 hz2 (by omega) hp1 hp2 (Lib.hid harg) (Lib.hid HB) S1 S2 (Lib.hid (fun W F' x y => ring_store_no x (hr' W F' y) ((q.us + 2) % 4294967296) 2 ((q.pu + 1) % 65536) _ 2 _ (by omega) rfl rfl (by omega) (.inr (.inl rfl)) e3))
      | some m3 =>
        show Calls _ _ _ _ fun e w' => ∃ F2, e = .returned (.tuple #[.agg q.gave.c, .nilIface]) ∧ _
        rw [hG]
        exact ring_Give_ok z q.de q.av q.us q.la q.pu hd n _ _ h hz1 hz2 (by omega) hp1 hp2 (Lib.hid harg) (Lib.hid HB) S1 S2 (Lib.hid (fun W F' x y => ring_store_yes x (hr' W F' y) ((q.us + 2) % 4294967296) 2 ((q.pu + 1) % 65536) _ 2 _ (by omega) rfl rfl (by omega) (.inr (.inl rfl)) (by omega) e3))
end Go.Proofs.YtcmbnkmbaghkdaaDoor

/-
ring.Give, walked where it does not fail.
Condition: the table of regions of package bus reads as its text lays it.
-/
import Derived.Test.YtcakcfeipfjmpaaDoorRing
import Derived.Test.YtcakcfeipfjmpaaDoorRowAuto
import Derived.Deep.RegionHeld
namespace Go.Proofs.YtcakcfeipfjmpaaDoor
open Go.RowKit
set_option linter.unusedVariables false

set_option maxRecDepth 100000 in
set_option maxHeartbeats 8000000 in
theorem ring_Give_ok {g : Nat} {m m1 m2 m3 : Mm} {F : Nat → Prop} {w : World} (size de av us la pu hd n p1 : Nat) (a3 : Int) (h : RamIs w g m F) (hs1 : 1 ≤ size) (hs2 : size ≤ 256) (hdl : hd < size) (hp1 : IntKind.u16.wrap ((pu : Int) + 1) = (p1 : Int)) (hp2 : p1 < 65536)
    (HARG : Hid (IntKind.u32.wrap (IntKind.u32.wrap ((us : Int) + 4) + IntKind.u32.wrap (8 * IntKind.u32.wrap ((IntKind.i64.wrap (pu : Int)).tmod (size : Int)))) = a3))
    (HC : Hid (∀ W, Calls Tryd.prog 71 #[.agg #[.int .i64 size, .int .u32 de, .int .u32 av, .int .u32 us, .int .u16 la, .int .u16 pu], .pointer (some ⟨g, 0, none⟩)] W fun e w' => e = .returned .nilIface ∧ Below W.heap.size W w'))
    (HS1 : Hid (∀ W F', RamIs W g m F' → MemStep F F' w W → Calls Tryd.prog 73 #[.pointer (some ⟨g, 0, none⟩), .int .u32 (a3), .int .i64 4, .int .u32 (hd : Nat)] W fun e w' => ∃ F2, e = .returned .nilIface ∧ RamIs w' g m1 F2 ∧ MemStep F' F2 W w'))
    (HS2 : Hid (∀ W F', RamIs W g m1 F' → MemStep F F' w W → Calls Tryd.prog 73 #[.pointer (some ⟨g, 0, none⟩), .int .u32 ((a3 + 4) % 4294967296), .int .i64 4, .int .u32 (n : Nat)] W fun e w' => ∃ F2, e = .returned .nilIface ∧ RamIs w' g m2 F2 ∧ MemStep F' F2 W w'))
    (HS3 : Hid (∀ W F', RamIs W g m2 F' → MemStep F F' w W → Calls Tryd.prog 73 #[.pointer (some ⟨g, 0, none⟩), .int .u32 (((us : Int) + 2) % 4294967296), .int .i64 2, .int .u32 (p1 : Nat)] W fun e w' => ∃ F2, e = .returned .nilIface ∧ RamIs w' g m3 F2 ∧ MemStep F' F2 W w')) :
    Calls Tryd.prog 23 #[.agg #[.int .i64 size, .int .u32 de, .int .u32 av, .int .u32 us, .int .u16 la, .int .u16 pu], .pointer (some ⟨g, 0, none⟩), .int .i64 hd, .int .u32 n] w fun e w' => ∃ F2, e = .returned (.tuple #[.agg #[.int .i64 size, .int .u32 de, .int .u32 av, .int .u32 us, .int .u16 la, .int .u16 (p1 : Nat)], .nilIface]) ∧ RamIs w' g m3 F2 ∧ MemStep F F2 w w' := by
  have HF := Lib.hid h.lt
  have hsz1 : (1 : Int) ≤ (size : Int) := by omega
  have hsz2 : (size : Int) ≤ 256 := by omega
  have hsz0 : ¬ size = 0 := by omega
  have hd0 : (0 : Int) ≤ (hd : Int) := by omega
  have hd1 : (hd : Int) < (size : Int) := by omega
  have hd2 : (hd : Int) ≤ 256 := by omega
  have hpz : (0 : Int) ≤ (p1 : Int) := by omega
  have hpy : (p1 : Int) ≤ 65535 := by omega
  obtain ⟨k0, k1, hb0⟩ := two_new w (.cells #[.int .i64 size, .int .u32 de, .int .u32 av, .int .u32 us, .int .u16 la, .int .u16 pu] 53) (.cells #[.int .i64 0, .int .u32 0, .int .u32 0, .int .u32 0, .int .u16 0, .int .u16 0] 53)
  have K0 := Lib.hid k0
  have K1 := Lib.hid k1
  have HR0 := Lib.hid (And.intro (h.below hb0) (MemStep.of_below (F := F) hb0))
  have hn0 : ¬ F w.heap.size := fun hf => absurd (HF.out _ hf) (Nat.lt_irrefl _)
  have hn1 : ¬ F (w.heap.size + 1) := fun hf => by have := HF.out _ hf; omega
  have HN := Lib.hid (And.intro hn0 hn1)
  clear k0 k1 hb0 h hn0 hn1 hs1 hs2 hdl hp2
  go_enter Tryd.func23, Tryd.ntmps23
  go_wp2_with fail
  refine (HC.out _).mono ?_
  rintro e w1 ⟨rfl, hb⟩
  have K2 := Lib.hid (keepB K0.out hb)
  have K3 := Lib.hid (keepB K1.out hb)
  have HR1 := Lib.hid (And.intro (HR0.out.1.below hb) (HR0.out.2.below hb))
  clear hb K0 K1 HR0 HC
  go_upto_region 4 with fail
  refine wp_region_held_drew (S := fun W => W.heap[w.heap.size]? = some (.cells #[.int .i64 size, .int .u32 de, .int .u32 av, .int .u32 us, .int .u16 la, .int .u16 pu] 53 (0, 0))) (by kernel_rfl) K2.out (fun hH0 => ?_)
  refine wpAnyH_take (i := 0) (v := ?v0) rfl (by kernel_rfl) (by kernel_rfl) (by kernel_rfl) (fun _ _ _ h => h) (Or.inl ⟨by rfl, ?hy0⟩) (by assumption) ?rest0
  case hy0 => (intro W hSw; go_simp; first | done | with_reducible rfl)
  simp only [Act.put, List.getElem_toArray, List.getElem_cons_zero, List.setIfInBounds_toArray, List.set_cons_zero, List.set_cons_succ]
  refine wpAnyH_take (i := 1) (v := ?v1) rfl (by kernel_rfl) (by kernel_rfl) (by kernel_rfl) (fun _ _ _ h => h) (Or.inl ⟨by rfl, ?hy1⟩) (by assumption) ?rest1
  case hy1 => (intro W hSw; have cj := (cell_of_row _ _ 3 _ _ _ hSw).trans (rfl : _ = some (.int .u32 us : Value)); go_simp; first | done | with_reducible rfl)
  simp only [Act.put, List.getElem_toArray, List.getElem_cons_zero, List.getElem_cons_succ, List.setIfInBounds_toArray, List.set_cons_zero, List.set_cons_succ]
  refine wpAnyH_take (i := 2) (v := ?v2) rfl (by kernel_rfl) (by kernel_rfl) (by kernel_rfl) (fun _ _ _ h => h) (Or.inl ⟨by rfl, ?hy2⟩) (by assumption) ?rest2
  case hy2 => (intro W hSw; go_simp; first | done | with_reducible rfl)
  simp only [Act.put, List.getElem_toArray, List.getElem_cons_zero, List.getElem_cons_succ, List.setIfInBounds_toArray, List.set_cons_zero, List.set_cons_succ]
  refine wpAnyH_take (i := 3) (v := ?v3) rfl (by kernel_rfl) (by kernel_rfl) (by kernel_rfl) (fun _ _ _ h => h) (Or.inl ⟨by rfl, ?hy3⟩) (by assumption) ?rest3
  case hy3 => (intro W hSw; go_simp; first | done | with_reducible rfl)
  simp only [Act.put, List.getElem_toArray, List.getElem_cons_zero, List.getElem_cons_succ, List.setIfInBounds_toArray, List.set_cons_zero, List.set_cons_succ]
  refine wpAnyH_take (i := 4) (v := ?v4) rfl (by kernel_rfl) (by kernel_rfl) (by kernel_rfl) (fun _ _ _ h => h) (Or.inl ⟨by rfl, ?hy4⟩) (by assumption) ?rest4
  case hy4 => (intro W hSw; have cj := (cell_of_row _ _ 5 _ _ _ hSw).trans (rfl : _ = some (.int .u16 pu : Value)); go_simp; first | done | with_reducible rfl)
  simp only [Act.put, List.getElem_toArray, List.getElem_cons_zero, List.getElem_cons_succ, List.setIfInBounds_toArray, List.set_cons_zero, List.set_cons_succ]
  refine wpAnyH_take (i := 5) (v := ?v5) rfl (by kernel_rfl) (by kernel_rfl) (by kernel_rfl) (fun _ _ _ h => h) (Or.inl ⟨by rfl, ?hy5⟩) (by assumption) ?rest5
  case hy5 => (intro W hSw; go_simp; first | done | with_reducible rfl)
  simp only [Act.put, List.getElem_toArray, List.getElem_cons_zero, List.getElem_cons_succ, List.setIfInBounds_toArray, List.set_cons_zero, List.set_cons_succ]
  refine wpAnyH_take (i := 6) (v := ?v6) rfl (by kernel_rfl) (by kernel_rfl) (by kernel_rfl) (fun _ _ _ h => h) (Or.inl ⟨by rfl, ?hy6⟩) (by assumption) ?rest6
  case hy6 => (intro W hSw; go_simp; first | done | with_reducible rfl)
  simp only [Act.put, List.getElem_toArray, List.getElem_cons_zero, List.getElem_cons_succ, List.setIfInBounds_toArray, List.set_cons_zero, List.set_cons_succ]
  refine wpAnyH_take (i := 7) (v := ?v7) rfl (by kernel_rfl) (by kernel_rfl) (by kernel_rfl) (fun _ _ _ h => h) (Or.inl ⟨by rfl, ?hy7⟩) (by assumption) ?rest7
  case hy7 => (intro W hSw; have cj := (cell_of_row _ _ 0 _ _ _ hSw).trans (rfl : _ = some (.int .i64 size : Value)); go_simp; first | done | with_reducible rfl)
  simp only [Act.put, List.getElem_toArray, List.getElem_cons_zero, List.getElem_cons_succ, List.setIfInBounds_toArray, List.set_cons_zero, List.set_cons_succ]
  refine wpAnyH_take (i := 8) (v := ?v8) rfl (by kernel_rfl) (by kernel_rfl) (by kernel_rfl) (fun _ _ _ h => h) (Or.inl ⟨by rfl, ?hy8⟩) (by assumption) ?rest8
  case hy8 => (intro W hSw; go_simp; first | done | with_reducible rfl)
  simp only [Act.put, List.getElem_toArray, List.getElem_cons_zero, List.getElem_cons_succ, List.setIfInBounds_toArray, List.set_cons_zero, List.set_cons_succ]
  refine wpAnyH_take (i := 9) (v := ?v9) rfl (by kernel_rfl) (by kernel_rfl) (by kernel_rfl) (fun _ _ _ h => h) (Or.inl ⟨by rfl, ?hy9⟩) (by assumption) ?rest9
  case hy9 => (intro W hSw; go_simp; first | done | with_reducible rfl)
  simp only [Act.put, List.getElem_toArray, List.getElem_cons_zero, List.getElem_cons_succ, List.setIfInBounds_toArray, List.set_cons_zero, List.set_cons_succ]
  refine wpAnyH_take (i := 10) (v := ?v10) rfl (by kernel_rfl) (by kernel_rfl) (by kernel_rfl) (fun _ _ _ h => h) (Or.inl ⟨by rfl, ?hy10⟩) (by assumption) ?rest10
  case hy10 => (intro W hSw; go_simp; first | done | with_reducible rfl)
  simp only [Act.put, List.getElem_toArray, List.getElem_cons_zero, List.getElem_cons_succ, List.setIfInBounds_toArray, List.set_cons_zero, List.set_cons_succ]
  refine wpAnyH_take (i := 11) (v := ?v11) rfl (by kernel_rfl) (by kernel_rfl) (by kernel_rfl) (fun _ _ _ h => h) (Or.inl ⟨by rfl, ?hy11⟩) (by assumption) ?rest11
  case hy11 => (intro W hSw; go_simp; first | done | with_reducible rfl)
  simp only [Act.put, List.getElem_toArray, List.getElem_cons_zero, List.getElem_cons_succ, List.setIfInBounds_toArray, List.set_cons_zero, List.set_cons_succ]
  refine wpAnyH_take (i := 12) (v := ?v12) rfl (by kernel_rfl) (by kernel_rfl) (by kernel_rfl) (fun _ _ _ h => h) (Or.inl ⟨by rfl, ?hy12⟩) (by assumption) ?rest12
  case hy12 => (intro W hSw; go_simp; first | done | with_reducible rfl)
  simp only [Act.put, List.getElem_toArray, List.getElem_cons_zero, List.getElem_cons_succ, List.setIfInBounds_toArray, List.set_cons_zero, List.set_cons_succ]
  refine wpAnyH_done (by kernel_rfl) ?_ _
  clear hH0
  rw [HARG.out]
  have HRD : Hid (RamIs w1.drew g m F ∧ MemStep F F w w1.drew) := Lib.hid (And.intro (HR1.out.1.below (Below.refl _ _).drew) HR1.out.2.drew)
  have K2d : Hid (w1.drew.heap[w.heap.size]? = some (.cells #[.int .i64 size, .int .u32 de, .int .u32 av, .int .u32 us, .int .u16 la, .int .u16 pu] 53 (0, 0))) := K2
  have K3d : Hid (w1.drew.heap[w.heap.size + 1]? = some (.cells #[.int .i64 0, .int .u32 0, .int .u32 0, .int .u32 0, .int .u16 0, .int .u16 0] 53 (0, 0))) := K3
  clear K2 K3 HR1 HARG
  generalize w1.drew = w2 at HRD K2d K3d ⊢
  have c0 := (cell_of_row _ _ 0 _ _ _ K2d.out).trans (rfl : _ = some (.int .i64 size : Value))
  have c3 := (cell_of_row _ _ 3 _ _ _ K2d.out).trans (rfl : _ = some (.int .u32 us : Value))
  have c5 := (cell_of_row _ _ 5 _ _ _ K2d.out).trans (rfl : _ = some (.int .u16 pu : Value))
  have HQ := Lib.hid (HS1.out w2 F HRD.out.1 HRD.out.2)
  go_wp2_with fail
  refine (HQ.out).mono ?_
  rintro e w3 ⟨F3, rfl, h1, h2⟩
  have K0a := Lib.hid (h2.heap K2d.out HN.out.1)
  have K1a := Lib.hid (h2.heap K3d.out HN.out.2)
  have HNa := Lib.hid (And.intro (h2.off (lt_heap K2d.out) HN.out.1) (h2.off (lt_heap K3d.out) HN.out.2))
  have HRa := Lib.hid (And.intro h1 (HRD.out.2.trans h2))
  clear h1 h2 HQ HS1 c0 c3 c5 K2d K3d HN HRD
  have c0 := (cell_of_row _ _ 0 _ _ _ K0a.out).trans (rfl : _ = some (.int .i64 size : Value))
  have c3 := (cell_of_row _ _ 3 _ _ _ K0a.out).trans (rfl : _ = some (.int .u32 us : Value))
  have c5 := (cell_of_row _ _ 5 _ _ _ K0a.out).trans (rfl : _ = some (.int .u16 pu : Value))
  have HQ := Lib.hid (HS2.out w3 F3 HRa.out.1 HRa.out.2)
  go_wp2_with fail
  refine (HQ.out).mono ?_
  rintro e w4 ⟨F4, rfl, h1, h2⟩
  have K0b := Lib.hid (h2.heap K0a.out HNa.out.1)
  have K1b := Lib.hid (h2.heap K1a.out HNa.out.2)
  have HNb := Lib.hid (And.intro (h2.off (lt_heap K0a.out) HNa.out.1) (h2.off (lt_heap K1a.out) HNa.out.2))
  have HRb := Lib.hid (And.intro h1 (HRa.out.2.trans h2))
  clear h1 h2 HQ HS2 c0 c3 c5 K0a K1a HNa HRa
  have c0 := (cell_of_row _ _ 0 _ _ _ K0b.out).trans (rfl : _ = some (.int .i64 size : Value))
  have c3 := (cell_of_row _ _ 3 _ _ _ K0b.out).trans (rfl : _ = some (.int .u32 us : Value))
  have c5 := (cell_of_row _ _ 5 _ _ _ K0b.out).trans (rfl : _ = some (.int .u16 pu : Value))
  have HQ := Lib.hid (HS3.out w4 F4 HRb.out.1 HRb.out.2)
  go_wp2_with fail
  refine (HQ.out).mono ?_
  rintro e w5 ⟨F5, rfl, h1, h2⟩
  have K0c := Lib.hid (h2.heap K0b.out HNb.out.1)
  have K1c := Lib.hid (h2.heap K1b.out HNb.out.2)
  have HNc := Lib.hid (And.intro (h2.off (lt_heap K0b.out) HNb.out.1) (h2.off (lt_heap K1b.out) HNb.out.2))
  have HRc := Lib.hid (And.intro h1 (HRb.out.2.trans h2))
  clear h1 h2 HQ HS3 c0 c3 c5 K0b K1b HNb HRb
  have c5 := (cell_of_row _ _ 5 _ _ _ K0c.out).trans (rfl : _ = some (.int .u16 pu : Value))
  have f4 := fun j => frozen_of_row _ _ j _ _ K0c.out
  have hkk : (w5.setCell ⟨w.heap.size, 5, none⟩ (.int .u16 (p1 : Nat))).heap[w.heap.size]? = some (.cells #[.int .i64 size, .int .u32 de, .int .u32 av, .int .u32 us, .int .u16 la, .int .u16 (p1 : Nat)] 53 (0, 0)) := (set_cells K0c.out).trans rfl
  have hx := Lib.hid (show KX (fun k => k = w.heap.size) w5 (w5.setCell ⟨w.heap.size, 5, none⟩ (.int .u16 (p1 : Nat))) from (KX.refl (fun k => k = w.heap.size) w5).setCell (p := ⟨w.heap.size, 5, none⟩) (.inl rfl) _)
  go_upto_region 10 with fail
  generalize (w5.setCell ⟨w.heap.size, 5, none⟩ (.int .u16 (p1 : Nat))) = w6 at hkk hx ⊢
  clear c5 f4
  have K8 := Lib.hid hkk
  have K9 := Lib.hid (hx.out.heap K1c.out (by omega))
  have HR4 := Lib.hid (And.intro (HRc.out.1.kx hx.out (fun k _ hf e => by subst e; exact HNc.out.1 hf)) (HRc.out.2.own hx.out (by omega)))
  clear hkk hx K0c K1c HRc
  have HO := Lib.hid (show (#[.int .i64 size, .int .u32 de, .int .u32 av, .int .u32 us, .int .u16 la, .int .u16 (p1 : Nat)] : Array Value).all (·.oneCell') = true by simp [Value.oneCell'])
  go_wp2_with (first | go_skip | (refine wpList_load_row rfl 53 _ rfl w.heap.size rfl 53 #[.int .i64 size, .int .u32 de, .int .u32 av, .int .u32 us, .int .u16 la, .int .u16 (p1 : Nat)] (0, 0) _ K8.out Tryd.underlying53 rfl (by kernel_rfl) ?_) | (refine wpList_store_to rfl 53 _ _ rfl (w.heap.size + 1) #[.int .i64 size, .int .u32 de, .int .u32 av, .int .u32 us, .int .u16 la, .int .u16 (p1 : Nat)] rfl rfl 53 #[.int .i64 0, .int .u32 0, .int .u32 0, .int .u32 0, .int .u16 0, .int .u16 0] K9.out (by kernel_rfl) rfl HO.out ?_))
  intro w20 hx hk
  have HRF := Lib.hid (And.intro (HR4.out.1.kx hx.out (fun k _ hf e => by subst e; exact HNc.out.2 hf)) (HR4.out.2.own hx.out (by omega)))
  go_wp2_with fail
  exact bodyPost_ret (v := .tuple #[.agg #[.int .i64 size, .int .u32 de, .int .u32 av, .int .u32 us, .int .u16 la, .int .u16 (p1 : Nat)], .nilIface]) (results_cell_tmp Tryd.results23 _ _ (w.heap.size + 1) 53 #[.int .i64 size, .int .u32 de, .int .u32 av, .int .u32 us, .int .u16 la, .int .u16 (p1 : Nat)] (0, 0) _ rfl hk Tryd.underlying53 rfl (by kernel_rfl)) rfl ⟨F5, rfl, HRF.out.1, HRF.out.2⟩
end Go.Proofs.YtcakcfeipfjmpaaDoor

/-
pinnacelaw14.VirtioHolds, walked: it answers true.
No condition.
-/
import Derived.Test.YtenafjdlaefepaaReady14
import Derived.Test.YtenafjdlaefepaaVioWf
import Derived.Deep.CutRange
import Derived.Test.YtenafjdlaefepaaOpenPairs
namespace Go.Proofs.Ytenafjdlaefepaa
open Go.RowKit


theorem vio_info_q : (Try.prog.info? 35).isSome = true := by kernel_rfl
theorem vio_cells_q : Try.prog.cellsOf 35 = 7 := by kernel_rfl
set_option maxRecDepth 100000 in
theorem arr_q_eq (w : World) : (Op.equalIn 9999 36 (.agg #[Value.bool false, Value.int IntKind.i64 0, Value.int IntKind.u32 0, Value.int IntKind.u32 0, Value.int IntKind.u32 0, Value.int IntKind.u16 0, Value.int IntKind.u16 0, Value.bool false, Value.int IntKind.i64 0, Value.int IntKind.u32 0, Value.int IntKind.u32 0, Value.int IntKind.u32 0, Value.int IntKind.u16 0, Value.int IntKind.u16 0]) (.agg #[Value.bool false, Value.int IntKind.i64 0, Value.int IntKind.u32 0, Value.int IntKind.u32 0, Value.int IntKind.u32 0, Value.int IntKind.u16 0, Value.int IntKind.u16 0, Value.bool false, Value.int IntKind.i64 0, Value.int IntKind.u32 0, Value.int IntKind.u32 0, Value.int IntKind.u32 0, Value.int IntKind.u16 0, Value.int IntKind.u16 0])).run Try.prog w = .ok true w := by
  obtain ⟨i, hi⟩ := Option.isSome_iff_exists.1 vio_info_q
  rw [run_equalIn_array (P := Try.prog) w 9998 _ _ Try.underlying36 hi, vio_cells_q]
  have r2 : List.range 2 = [0, 1] := rfl
  rw [r2]
  have h1 := Try.underlying35
  have h2 := Try.underlying33
  have h3 := Try.underlying22
  have h4 := Try.underlying24
  have h5 := Try.underlying4
  have h6 := Try.underlying3
  simp [Op.eqItems, part, go_sem, h1, h2, h3, h4, h5, h6]
theorem arr2_zero (w : World) : (Op.equalIn 9999 23 (.agg #[Value.int IntKind.u32 0, Value.int IntKind.u32 0]) (.agg #[Value.int IntKind.u32 0, Value.int IntKind.u32 0])).run Try.prog w = .ok true w := by
  have h := arr2_eq 9997 0 0 0 0 w
  simpa using h


set_option maxRecDepth 100000 in
set_option maxHeartbeats 4000000 in
theorem holds_err (c : Array Value) (m : Nat) (l : Value) (w : World) (hcz : c.size = 21) (hone : c.all (·.oneCell') = true)
    (HG : Hid (∀ W, Calls Try.prog 5 #[.agg c] W fun e w' => e = .returned (.agg c) ∧ Below W.heap.size W w'))
    (HS : Hid (∀ W, Calls Try.prog 7 #[] W fun e w' => e = .returned (.bool true) ∧ Below W.heap.size W w'))
    (HC : Hid (∀ W, Calls Try.prog 6 #[.agg c] W fun e w' => e = .returned (.iface 51 (.int .i64 m)) ∧ Below W.heap.size W w')) :
    Calls Try.prog 3 #[.agg c, l] w fun e w' => e = .returned (.bool true) ∧ Below w.heap.size w w' := by
  have HIC := Lib.hid (show (Try.prog.info? 38).map (·.size) = some c.size by rw [hcz]; kernel_rfl)
  have HIR := Lib.hid (show (Try.prog.info? 31).map (·.size) = some c.size by rw [hcz]; kernel_rfl)
  have HZC : Hid (VS.zero.c.size = c.size) := Lib.hid (by rw [hcz]; rfl)
  have HOC := Lib.hid hone
  have H0 := Lib.hid (show (w.alloc (.cells c 31)).heap[w.heap.size]? = some (.cells c 31 (0, 0)) from heap_alloc_new _ _)
  have HB0 := Lib.hid ((Below.refl w.heap.size w).alloc (Nat.le_refl _) (.cells c 31))
  clear hone
  go_enter Try.func3, Try.ntmps3
  go_wp2_with (refine wpList_load_row rfl 31 _ rfl w.heap.size rfl 31 c (0, 0) _ H0.out Try.underlying31 rfl HIR.out ?_)
  refine (HG.out _).mono ?_
  rintro e w1 ⟨rfl, hb⟩
  have HB1 := Lib.hid (HB0.out.trans (hb.mono HB0.out.size))
  have HZ1 := Lib.hid (show (w1.alloc (.cells VS.zero.c 38)).heap[w1.heap.size]? = some (.cells VS.zero.c 38 (0, 0)) from heap_alloc_new _ _)
  clear hb H0 HB0
  have HX1 := Lib.hid (show ((w1.alloc (.cells #[Value.int IntKind.u32 0, Value.int IntKind.u32 0, Value.int IntKind.u32 0, Value.int IntKind.u32 0, Value.int IntKind.u32 0, Value.int IntKind.u32 0, Value.int IntKind.u32 0, Value.bool false, Value.int IntKind.i64 0, Value.int IntKind.u32 0, Value.int IntKind.u32 0, Value.int IntKind.u32 0, Value.int IntKind.u16 0, Value.int IntKind.u16 0, Value.bool false, Value.int IntKind.i64 0, Value.int IntKind.u32 0, Value.int IntKind.u32 0, Value.int IntKind.u32 0, Value.int IntKind.u16 0, Value.int IntKind.u16 0] 38)).setRow w1.heap.size c).heap[w1.heap.size]? = some (.cells c 38 (0, 0)) from setRow_heap _ _ _ _ _ _ HZ1.out)
  have HBX := Lib.hid (show Below w.heap.size w ((w1.alloc (.cells #[Value.int IntKind.u32 0, Value.int IntKind.u32 0, Value.int IntKind.u32 0, Value.int IntKind.u32 0, Value.int IntKind.u32 0, Value.int IntKind.u32 0, Value.int IntKind.u32 0, Value.bool false, Value.int IntKind.i64 0, Value.int IntKind.u32 0, Value.int IntKind.u32 0, Value.int IntKind.u32 0, Value.int IntKind.u16 0, Value.int IntKind.u16 0, Value.bool false, Value.int IntKind.i64 0, Value.int IntKind.u32 0, Value.int IntKind.u32 0, Value.int IntKind.u32 0, Value.int IntKind.u16 0, Value.int IntKind.u16 0] 38)).setRow w1.heap.size c) from below_setRow (HB1.out.alloc HB1.out.size _) HB1.out.size _)
  go_wp2_with (first | (refine wpList_store_row rfl 38 _ _ rfl w1.heap.size c rfl rfl 38 VS.zero.c HZ1.out HIC.out HZC.out HOC.out ?_) | (refine load_rowW rfl 38 _ rfl w1.heap.size rfl 38 c (0, 0) _ HX1.out Try.underlying38 rfl HIC.out ?_))
  generalize hbx : w1.heap.size = bx at HX1
  have hbx2 : w.heap.size ≤ bx := by rw [← hbx]; exact HB1.out.size
  rw [hbx] at HBX
  generalize (w1.alloc (.cells #[Value.int IntKind.u32 0, Value.int IntKind.u32 0, Value.int IntKind.u32 0, Value.int IntKind.u32 0, Value.int IntKind.u32 0, Value.int IntKind.u32 0, Value.int IntKind.u32 0, Value.bool false, Value.int IntKind.i64 0, Value.int IntKind.u32 0, Value.int IntKind.u32 0, Value.int IntKind.u32 0, Value.int IntKind.u16 0, Value.int IntKind.u16 0, Value.bool false, Value.int IntKind.i64 0, Value.int IntKind.u32 0, Value.int IntKind.u32 0, Value.int IntKind.u32 0, Value.int IntKind.u16 0, Value.int IntKind.u16 0] 38)).setRow bx c = w2 at HX1 HBX ⊢
  clear HZ1 HB1 hbx
  refine (HC.out _).mono ?_
  rintro e w3 ⟨rfl, hb⟩
  have HX3 := Lib.hid (below_cells HX1.out hb)
  have HB3 := Lib.hid (HBX.out.trans (hb.mono HBX.out.size))
  clear hb HX1 HBX
  go_wp2_with fail
  refine (HS.out _).mono ?_
  rintro e w4 ⟨rfl, hb4⟩
  go_wp2_with fail
  go_ret
  exact ⟨rfl, HB3.out.trans (hb4.mono HB3.out.size)⟩

set_option maxRecDepth 100000 in
set_option maxHeartbeats 4000000 in
theorem holds_ok14 (s0 : VS) (c0 : Array Value) (p : Option Addr) (n cap : Nat) (w : World) (H00 : Hid (c0 = s0.c ∧ s0.ok ∧ s0.wf)) (hcz : c0.size = 21) (hone : c0.all (·.oneCell') = true)
    (HG : Hid (∀ W, Calls Try.prog 5 #[.agg c0] W fun e w' => e = .returned (.agg c0) ∧ Below W.heap.size W w'))
    (HS : Hid (∀ W, Calls Try.prog 7 #[] W fun e w' => e = .returned (.bool true) ∧ Below W.heap.size W w'))
    (HC : Hid (∀ W, Calls Try.prog 6 #[.agg c0] W fun e w' => e = .returned (.nilIface) ∧ Below W.heap.size W w'))
    (HL : Hid (∀ k, k < n → ∃ (b o A B : Nat), p = some ⟨b, o, none⟩ ∧ A < 4294967296 ∧ B < 4294967296 ∧ ∀ W, Below w.heap.size w W → W.cell? ⟨b, o + k * 2, none⟩ = some (.int .u32 A) ∧ W.cell? ⟨b, o + k * 2 + 1, none⟩ = some (.int .u32 B))) :
    Calls Try.prog 3 #[.agg c0, .slice p n cap] w fun e w' => e = .returned (.bool true) ∧ Below w.heap.size w w' := by
  have HIC := Lib.hid (show (Try.prog.info? 38).map (·.size) = some c0.size by rw [hcz]; kernel_rfl)
  have HIR := Lib.hid (show (Try.prog.info? 31).map (·.size) = some c0.size by rw [hcz]; kernel_rfl)
  have HZC : Hid (VS.zero.c.size = c0.size) := Lib.hid (by rw [hcz]; rfl)
  have HOC := Lib.hid hone
  have H0 := Lib.hid (show (w.alloc (.cells c0 31)).heap[w.heap.size]? = some (.cells c0 31 (0, 0)) from heap_alloc_new _ _)
  have HB0 := Lib.hid ((Below.refl w.heap.size w).alloc (Nat.le_refl _) (.cells c0 31))
  clear hone
  go_enter Try.func3, Try.ntmps3
  go_wp2_with (refine wpList_load_row rfl 31 _ rfl w.heap.size rfl 31 c0 (0, 0) _ H0.out Try.underlying31 rfl HIR.out ?_)
  refine (HG.out _).mono ?_
  rintro e w1 ⟨rfl, hb⟩
  have HB1 := Lib.hid (HB0.out.trans (hb.mono HB0.out.size))
  have HZ1 := Lib.hid (show (w1.alloc (.cells VS.zero.c 38)).heap[w1.heap.size]? = some (.cells VS.zero.c 38 (0, 0)) from heap_alloc_new _ _)
  clear hb H0 HB0
  have HX1 := Lib.hid (show ((w1.alloc (.cells #[Value.int IntKind.u32 0, Value.int IntKind.u32 0, Value.int IntKind.u32 0, Value.int IntKind.u32 0, Value.int IntKind.u32 0, Value.int IntKind.u32 0, Value.int IntKind.u32 0, Value.bool false, Value.int IntKind.i64 0, Value.int IntKind.u32 0, Value.int IntKind.u32 0, Value.int IntKind.u32 0, Value.int IntKind.u16 0, Value.int IntKind.u16 0, Value.bool false, Value.int IntKind.i64 0, Value.int IntKind.u32 0, Value.int IntKind.u32 0, Value.int IntKind.u32 0, Value.int IntKind.u16 0, Value.int IntKind.u16 0] 38)).setRow w1.heap.size c0).heap[w1.heap.size]? = some (.cells c0 38 (0, 0)) from setRow_heap _ _ _ _ _ _ HZ1.out)
  have HBX := Lib.hid (show Below w.heap.size w ((w1.alloc (.cells #[Value.int IntKind.u32 0, Value.int IntKind.u32 0, Value.int IntKind.u32 0, Value.int IntKind.u32 0, Value.int IntKind.u32 0, Value.int IntKind.u32 0, Value.int IntKind.u32 0, Value.bool false, Value.int IntKind.i64 0, Value.int IntKind.u32 0, Value.int IntKind.u32 0, Value.int IntKind.u32 0, Value.int IntKind.u16 0, Value.int IntKind.u16 0, Value.bool false, Value.int IntKind.i64 0, Value.int IntKind.u32 0, Value.int IntKind.u32 0, Value.int IntKind.u32 0, Value.int IntKind.u16 0, Value.int IntKind.u16 0] 38)).setRow w1.heap.size c0) from below_setRow (HB1.out.alloc HB1.out.size _) HB1.out.size _)
  go_wp2_with (first | (refine wpList_store_row rfl 38 _ _ rfl w1.heap.size c0 rfl rfl 38 VS.zero.c HZ1.out HIC.out HZC.out HOC.out ?_) | (refine load_rowW rfl 38 _ rfl w1.heap.size rfl 38 c0 (0, 0) _ HX1.out Try.underlying38 rfl HIC.out ?_))
  generalize hbx : w1.heap.size = bx at HX1
  have hbx2 : w.heap.size ≤ bx := by rw [← hbx]; exact HB1.out.size
  rw [hbx] at HBX
  generalize (w1.alloc (.cells #[Value.int IntKind.u32 0, Value.int IntKind.u32 0, Value.int IntKind.u32 0, Value.int IntKind.u32 0, Value.int IntKind.u32 0, Value.int IntKind.u32 0, Value.int IntKind.u32 0, Value.bool false, Value.int IntKind.i64 0, Value.int IntKind.u32 0, Value.int IntKind.u32 0, Value.int IntKind.u32 0, Value.int IntKind.u16 0, Value.int IntKind.u16 0, Value.bool false, Value.int IntKind.i64 0, Value.int IntKind.u32 0, Value.int IntKind.u32 0, Value.int IntKind.u32 0, Value.int IntKind.u16 0, Value.int IntKind.u16 0] 38)).setRow bx c0 = w2 at HX1 HBX ⊢
  clear HZ1 HB1 hbx
  refine (HC.out _).mono ?_
  rintro e w3 ⟨rfl, hb⟩
  have HX3 := Lib.hid (below_cells HX1.out hb)
  have HB3 := Lib.hid (HBX.out.trans (hb.mono HBX.out.size))
  clear hb HX1 HBX
  clear HG HC
  go_wp2_with fail
  go_loopw [6] (fun i wr => ∃ (k : Nat) (s : VS), k ≤ n ∧ i = .int .i64 k ∧ s.ok ∧ s.wf ∧ wr.heap[bx]? = some (.cells s.c 38 (0, 0)) ∧ Below w.heap.size w wr) (fun i _ => n - (intOf i).toNat)
  case atStart => exact ⟨0, s0, by omega, rfl, H00.out.2.1, H00.out.2.2, by rw [← H00.out.1]; exact HX3.out, HB3.out⟩
  case round =>
    obtain ⟨k, s, hkn, rfl, hok, hs, rx, rb⟩ := hrel
    have RX := Lib.hid rx
    have RB := Lib.hid rb
    clear rx rb HX3 HB3 HIC HIR HZC HOC H00 hcz
    by_cases hk1 : k < n
    · by_cases hk2 : k < 60
      · obtain ⟨b, o, A, B, rfl, hA, hB, hcell⟩ := HL.out k hk1
        obtain ⟨d, t, ev, hV, hdz, hdone, hcase⟩ : ∃ (d : Array Value) (t : Int) (ev : Value), vioV s A B = .tuple #[.agg d, .int .i64 t, ev] ∧ d.size = 21 ∧ d.all (·.oneCell') = true ∧ ((ev = .nilIface ∧ d = (s.write A B).c ∧ t = s.told A B) ∨ (∃ m, ev = .iface 51 m)) := by
          by_cases hb : badN s A = 0
          · exact ⟨_, _, _, if_pos hb, rfl, VS.c_one _, .inl ⟨rfl, rfl, rfl⟩⟩
          · exact ⟨_, _, _, if_neg hb, rfl, VS.c_one _, .inr ⟨_, if_neg hb⟩⟩
        have HW := Lib.hid (vs_Write s A B hs hB)
        rw [hV] at HW
        have hcz : s.c.size = 21 := rfl
        obtain ⟨c, hc⟩ : ∃ c, c = s.c := ⟨_, rfl⟩
        rw [VS.v, ← hc] at HW
        rw [← hc] at RX hcz
        have HCS := Lib.hid hc
        have HCASE := Lib.hid hcase
        have HICL := Lib.hid (show (Try.prog.info? 38).map (·.size) = some c.toList.length by rw [show c.toList.length = 21 by simpa using hcz]; kernel_rfl)
        have HID := Lib.hid (show (Try.prog.info? 38).map (·.size) = some d.size by rw [hdz]; kernel_rfl)
        have HZD : Hid (VS.zero.c.size = d.size) := Lib.hid (by rw [hdz]; rfl)
        have HCD : Hid (c.size = d.size) := Lib.hid (by rw [hdz, hcz])
        have HOD := Lib.hid hdone
        have hk0 : (0 : Int) ≤ ↑k := by omega
        have hk5' : (↑k : Int) < ↑n := by omega
        clear hc hcase hdone hV
        go_wp2_with fail
        go_cut [7, 8, 9] from 20 to 99 (fun y n' e wx => ∃ b7 : Nat, y = .pointer (some ⟨b7, 0, none⟩) ∧ n' = .int .i64 t ∧ e = ev ∧ w.heap.size ≤ b7 ∧ bx ≠ b7 ∧ wx.heap[bx]? = some (.cells c 38 (0, 0)) ∧ wx.heap[b7]? = some (.cells d 38 (0, 0)) ∧ Below w.heap.size w wx)
        case first =>
          have HMK : Hid (∀ W : World, W.heap[bx]? = some (.cells c 38 (0, 0)) → Below w.heap.size w W → (W.cell? ⟨b, o + k * 2, none⟩ = some (.int .u32 A) ∧ W.cell? ⟨b, o + k * 2 + 1, none⟩ = some (.int .u32 B) ∧ W.heap[bx]? = some (.cells c 38 (0, 0)) ∧ Below w.heap.size w W)) := Lib.hid (fun W h1 h2 => ⟨(hcell W h2).1, (hcell W h2).2, h1, h2⟩)
          have hbx : bx < wr.heap.size := (Array.getElem?_eq_some_iff.1 RX.out).1
          refine wp_region_held_drew (S := (fun W => W.cell? ⟨b, o + k * 2, none⟩ = some (.int .u32 A) ∧ W.cell? ⟨b, o + k * 2 + 1, none⟩ = some (.int .u32 B) ∧ W.heap[bx]? = some (.cells c 38 (0, 0)) ∧ Below w.heap.size w W)) (by kernel_rfl) (HMK.out _ RX.out RB.out.drew) (fun hHeld => ?_)
          refine wpAnyH_take (i := 1) (v := ?v1) rfl (by kernel_rfl) (by kernel_rfl) (by kernel_rfl) (fun _ _ _ h => h) (Or.inl ⟨by rfl, ?hy1⟩) (by assumption) ?rest1
          case hy1 => (intro W hSw; (try dsimp only at hSw); go_simp; first | done | with_reducible rfl)
          simp only [Act.put, List.getElem_toArray, List.getElem_cons_zero, List.getElem_cons_succ, List.setIfInBounds_toArray, List.set_cons_zero, List.set_cons_succ]
          refine wpAnyH_take (i := 2) (v := ?v2) rfl (by kernel_rfl) (by kernel_rfl) (by kernel_rfl) (fun _ _ _ h => h) (Or.inl ⟨by rfl, ?hy2⟩) (by assumption) ?rest2
          case hy2 => (intro W hSw; (try dsimp only at hSw); go_simp; first | done | with_reducible rfl)
          simp only [Act.put, List.getElem_toArray, List.getElem_cons_zero, List.getElem_cons_succ, List.setIfInBounds_toArray, List.set_cons_zero, List.set_cons_succ]
          refine wpAnyH_take (i := 3) (v := ?v3) rfl (by kernel_rfl) (by kernel_rfl) (by kernel_rfl) (fun _ _ _ h => h) (Or.inl ⟨by rfl, ?hy3⟩) (by assumption) ?rest3
          case hy3 => (intro W hSw; (try dsimp only at hSw); go_simp; first | done | with_reducible rfl)
          simp only [Act.put, List.getElem_toArray, List.getElem_cons_zero, List.getElem_cons_succ, List.setIfInBounds_toArray, List.set_cons_zero, List.set_cons_succ]
          refine wpAnyH_take (i := 4) (v := ?v4) rfl (by kernel_rfl) (by kernel_rfl) (by kernel_rfl) (fun _ _ _ h => h) (Or.inl ⟨by rfl, ?hy4⟩) (by assumption) ?rest4
          case hy4 => (intro W hSw; (try dsimp only at hSw); go_simp; first | done | with_reducible rfl)
          simp only [Act.put, List.getElem_toArray, List.getElem_cons_zero, List.getElem_cons_succ, List.setIfInBounds_toArray, List.set_cons_zero, List.set_cons_succ]
          refine wpAnyH_take (i := 6) (v := ?v6) rfl (by kernel_rfl) (by kernel_rfl) (by kernel_rfl) (fun _ _ _ h => h) (Or.inl ⟨by rfl, ?hy6⟩) (by assumption) ?rest6
          case hy6 => (intro W hSw; (try dsimp only at hSw); go_simp; first | done | with_reducible rfl)
          simp only [Act.put, List.getElem_toArray, List.getElem_cons_zero, List.getElem_cons_succ, List.setIfInBounds_toArray, List.set_cons_zero, List.set_cons_succ]
          refine wpAnyH_take (i := 7) (v := ?v7) rfl (by kernel_rfl) (by kernel_rfl) (by kernel_rfl) (fun _ _ _ h => h) (Or.inl ⟨by rfl, ?hy7⟩) (by assumption) ?rest7
          case hy7 => (intro W hSw; (try dsimp only at hSw); go_simp; first | done | with_reducible rfl)
          simp only [Act.put, List.getElem_toArray, List.getElem_cons_zero, List.getElem_cons_succ, List.setIfInBounds_toArray, List.set_cons_zero, List.set_cons_succ]
          refine wpAnyH_take (i := 8) (v := ?v8) rfl (by kernel_rfl) (by kernel_rfl) (by kernel_rfl) (fun _ _ _ h => h) (Or.inl ⟨by rfl, ?hy8⟩) (by assumption) ?rest8
          case hy8 => (intro W hSw; (try dsimp only at hSw); go_simp; first | done | with_reducible rfl)
          simp only [Act.put, List.getElem_toArray, List.getElem_cons_zero, List.getElem_cons_succ, List.setIfInBounds_toArray, List.set_cons_zero, List.set_cons_succ]
          refine wpAnyH_take (i := 9) (v := ?v9) rfl (by kernel_rfl) (by kernel_rfl) (by kernel_rfl) (fun _ _ _ h => h) (Or.inl ⟨by rfl, ?hy9⟩) (by assumption) ?rest9
          case hy9 => (intro W hSw; (try dsimp only at hSw); go_simp; first | done | with_reducible rfl)
          simp only [Act.put, List.getElem_toArray, List.getElem_cons_zero, List.getElem_cons_succ, List.setIfInBounds_toArray, List.set_cons_zero, List.set_cons_succ]
          refine wpAnyH_take (i := 5) (v := ?v5) rfl (by kernel_rfl) (by kernel_rfl) (by kernel_rfl) (fun _ _ _ h => h) (Or.inl ⟨by rfl, ?hy5⟩) (by assumption) ?rest5
          case hy5 => (intro W hSw; (try dsimp only at hSw); go_simp; first | done | with_reducible rfl)
          simp only [Act.put, List.getElem_toArray, List.getElem_cons_zero, List.getElem_cons_succ, List.setIfInBounds_toArray, List.set_cons_zero, List.set_cons_succ]
          refine wpAnyH_take (i := 10) (v := ?v10) rfl (by kernel_rfl) (by kernel_rfl) (by kernel_rfl) (fun _ _ _ h => h) (Or.inl ⟨by rfl, ?hy10⟩) (by assumption) ?rest10
          case hy10 => (intro W hSw; (try dsimp only at hSw); go_simp; first | done | with_reducible rfl)
          simp only [Act.put, List.getElem_toArray, List.getElem_cons_zero, List.getElem_cons_succ, List.setIfInBounds_toArray, List.set_cons_zero, List.set_cons_succ]
          refine wpAnyH_take (i := 0) rfl (by kernel_rfl) (by kernel_rfl) (by kernel_rfl) (fun _ _ _ h => h) (yieldsIf_load_mid (by rfl) 38 _ rfl (bx) 0 rfl _ _ (fun W hSw => row_range hSw.2.2.1) Try.underlying38 rfl ?hi0) (by assumption) ?rest0
          case hi0 => exact HICL.out
          simp only [Act.put, List.getElem_toArray, List.getElem_cons_zero, List.setIfInBounds_toArray, List.set_cons_zero, List.set_cons_succ]
          refine wpAnyH_ready (rs := [11, 16]) (by kernel_rfl) (by simp) ?_
          refine AllReadyH.cons (o := _) rfl (fun K hK => ?_) (AllReadyH.cons (o := _) rfl (fun K hK => ?_) (AllReadyH.nil))
          · simp only [List.getElem_toArray, List.getElem_cons_zero, List.getElem_cons_succ]
            go_simp
            refine (HW.out _).mono ?_
            rintro e w' ⟨rfl, hb'⟩
            refine hK.out _ _ (HMK.out _ (below_cells hHeld.2.2.1 hb') (hHeld.2.2.2.trans (hb'.mono hHeld.2.2.2.size))) (fun hHeld1 => ?_)
            clear hK K hHeld
            refine wpAnyH_take (i := 12) (v := ?v12) rfl (by kernel_rfl) (by kernel_rfl) (by kernel_rfl) (fun _ _ _ h => h) (Or.inl ⟨by rfl, ?hy12⟩) (by assumption) ?rest12
            case hy12 => (intro W hSw; (try dsimp only at hSw); go_simp; first | done | with_reducible rfl)
            simp only [Act.put, List.getElem_toArray, List.getElem_cons_zero, List.getElem_cons_succ, List.setIfInBounds_toArray, List.set_cons_zero, List.set_cons_succ]
            refine wpAnyH_take (i := 13) (v := ?v13) rfl (by kernel_rfl) (by kernel_rfl) (by kernel_rfl) (fun _ _ _ h => h) (Or.inl ⟨by rfl, ?hy13⟩) (by assumption) ?rest13
            case hy13 => (intro W hSw; (try dsimp only at hSw); go_simp; first | done | with_reducible rfl)
            simp only [Act.put, List.getElem_toArray, List.getElem_cons_zero, List.getElem_cons_succ, List.setIfInBounds_toArray, List.set_cons_zero, List.set_cons_succ]
            refine wpAnyH_take (i := 14) (v := ?v14) rfl (by kernel_rfl) (by kernel_rfl) (by kernel_rfl) (fun _ _ _ h => h) (Or.inl ⟨by rfl, ?hy14⟩) (by assumption) ?rest14
            case hy14 => (intro W hSw; (try dsimp only at hSw); go_simp; first | done | with_reducible rfl)
            simp only [Act.put, List.getElem_toArray, List.getElem_cons_zero, List.getElem_cons_succ, List.setIfInBounds_toArray, List.set_cons_zero, List.set_cons_succ]
            refine wpAnyH_take (i := 15) (v := ?v15) rfl (by kernel_rfl) (by kernel_rfl) (by kernel_rfl) (fun _ _ _ h => h) (Or.inl ⟨by rfl, ?hy15⟩) (by assumption) ?rest15
            case hy15 => (intro W hSw; (try dsimp only at hSw); go_simp; first | done | with_reducible rfl)
            simp only [Act.put, List.getElem_toArray, List.getElem_cons_zero, List.getElem_cons_succ, List.setIfInBounds_toArray, List.set_cons_zero, List.set_cons_succ]
            have hlt : bx < w'.heap.size := (Array.getElem?_eq_some_iff.1 hHeld1.2.2.1).1
            refine wpAnyH_ready (rs := [16]) (by kernel_rfl) (by simp) ?_
            refine AllReadyH.cons (o := _) rfl (fun K hK => ?_) (AllReadyH.nil)
            simp only [List.getElem_toArray, List.getElem_cons_zero, List.getElem_cons_succ]
            go_simp
            refine hK.out _ _ (HMK.out _ (heap_alloc_keep hHeld1.2.2.1) (hHeld1.2.2.2.alloc hHeld1.2.2.2.size _)) (fun hHeld2 => ?_)
            clear hK K hHeld1
            refine wpAnyH_ready (rs := [17]) (by kernel_rfl) (by simp) ?_
            refine AllReadyH.cons (o := _) rfl (fun K hK => ?_) (AllReadyH.nil)
            simp only [List.getElem_toArray, List.getElem_cons_zero, List.getElem_cons_succ]
            rw [if_pos (by rfl)]
            refine wp_store_row 38 _ _ rfl (w'.heap.size) d rfl rfl 38 VS.zero.c (heap_alloc_new _ _) HID.out HZD.out HOD.out ?_
            refine hK.out _ _ (HMK.out _ ((row_keep (by omega)).trans hHeld2.2.2.1) (below_setRow hHeld2.2.2.2 (by omega) _)) (fun hHeld3 => ?_)
            clear hK K hHeld2
            simp only [Act.put]
            refine wpAnyH_take (i := 18) (v := ?v18) rfl (by kernel_rfl) (by kernel_rfl) (by kernel_rfl) (fun _ _ _ h => h) (Or.inl ⟨by rfl, ?hy18⟩) (by assumption) ?rest18
            case hy18 => (intro W hSw; (try dsimp only at hSw); go_simp; first | done | with_reducible rfl)
            simp only [Act.put, List.getElem_toArray, List.getElem_cons_zero, List.getElem_cons_succ, List.setIfInBounds_toArray, List.set_cons_zero, List.set_cons_succ]
            refine wpAnyH_take (i := 19) (v := ?v19) rfl (by kernel_rfl) (by kernel_rfl) (by kernel_rfl) (fun _ _ _ h => h) (Or.inl ⟨by rfl, ?hy19⟩) (by assumption) ?rest19
            case hy19 => (intro W hSw; (try dsimp only at hSw); go_simp; first | done | with_reducible rfl)
            simp only [Act.put, List.getElem_toArray, List.getElem_cons_zero, List.getElem_cons_succ, List.setIfInBounds_toArray, List.set_cons_zero, List.set_cons_succ]
            refine wpAnyH_done (by kernel_rfl) ?_ _
            go_wp2_with fail
            go_meet
            case rel => exact ⟨w'.heap.size, rfl, rfl, rfl, by omega, by omega, hHeld3.2.2.1, setRow_heap _ _ _ d _ _ (heap_alloc_new w' (.cells VS.zero.c 38)), hHeld3.2.2.2⟩
          · simp only [List.getElem_toArray, List.getElem_cons_zero, List.getElem_cons_succ]
            go_simp
            refine hK.out _ _ (HMK.out _ (heap_alloc_keep hHeld.2.2.1) (hHeld.2.2.2.alloc hHeld.2.2.2.size _)) (fun hHeld1 => ?_)
            clear hK K hHeld
            refine wpAnyH_ready (rs := [11]) (by kernel_rfl) (by simp) ?_
            refine AllReadyH.cons (o := _) rfl (fun K hK => ?_) (AllReadyH.nil)
            simp only [List.getElem_toArray, List.getElem_cons_zero, List.getElem_cons_succ]
            go_simp
            refine (HW.out _).mono ?_
            rintro e w' ⟨rfl, hb'⟩
            refine hK.out _ _ (HMK.out _ (below_cells hHeld1.2.2.1 hb') (hHeld1.2.2.2.trans (hb'.mono hHeld1.2.2.2.size))) (fun hHeld2 => ?_)
            clear hK K hHeld1
            refine wpAnyH_take (i := 12) (v := ?v12b) rfl (by kernel_rfl) (by kernel_rfl) (by kernel_rfl) (fun _ _ _ h => h) (Or.inl ⟨by rfl, ?hy12b⟩) (by assumption) ?rest12b
            case hy12b => (intro W hSw; (try dsimp only at hSw); go_simp; first | done | with_reducible rfl)
            simp only [Act.put, List.getElem_toArray, List.getElem_cons_zero, List.getElem_cons_succ, List.setIfInBounds_toArray, List.set_cons_zero, List.set_cons_succ]
            refine wpAnyH_take (i := 13) (v := ?v13b) rfl (by kernel_rfl) (by kernel_rfl) (by kernel_rfl) (fun _ _ _ h => h) (Or.inl ⟨by rfl, ?hy13b⟩) (by assumption) ?rest13b
            case hy13b => (intro W hSw; (try dsimp only at hSw); go_simp; first | done | with_reducible rfl)
            simp only [Act.put, List.getElem_toArray, List.getElem_cons_zero, List.getElem_cons_succ, List.setIfInBounds_toArray, List.set_cons_zero, List.set_cons_succ]
            refine wpAnyH_take (i := 14) (v := ?v14b) rfl (by kernel_rfl) (by kernel_rfl) (by kernel_rfl) (fun _ _ _ h => h) (Or.inl ⟨by rfl, ?hy14b⟩) (by assumption) ?rest14b
            case hy14b => (intro W hSw; (try dsimp only at hSw); go_simp; first | done | with_reducible rfl)
            simp only [Act.put, List.getElem_toArray, List.getElem_cons_zero, List.getElem_cons_succ, List.setIfInBounds_toArray, List.set_cons_zero, List.set_cons_succ]
            refine wpAnyH_take (i := 15) (v := ?v15b) rfl (by kernel_rfl) (by kernel_rfl) (by kernel_rfl) (fun _ _ _ h => h) (Or.inl ⟨by rfl, ?hy15b⟩) (by assumption) ?rest15b
            case hy15b => (intro W hSw; (try dsimp only at hSw); go_simp; first | done | with_reducible rfl)
            simp only [Act.put, List.getElem_toArray, List.getElem_cons_zero, List.getElem_cons_succ, List.setIfInBounds_toArray, List.set_cons_zero, List.set_cons_succ]
            refine wpAnyH_ready (rs := [17]) (by kernel_rfl) (by simp) ?_
            refine AllReadyH.cons (o := _) rfl (fun K hK => ?_) (AllReadyH.nil)
            simp only [List.getElem_toArray, List.getElem_cons_zero, List.getElem_cons_succ]
            rw [if_pos (by rfl)]
            refine wp_store_row 38 _ _ rfl (wr.heap.size) d rfl rfl 38 VS.zero.c (below_cells (heap_alloc_new wr.drew _) hb') HID.out HZD.out HOD.out ?_
            refine hK.out _ _ (HMK.out _ ((row_keep (by omega)).trans hHeld2.2.2.1) (below_setRow hHeld2.2.2.2 RB.out.size _)) (fun hHeld3 => ?_)
            clear hK K hHeld2
            simp only [Act.put]
            refine wpAnyH_take (i := 18) (v := ?v18b) rfl (by kernel_rfl) (by kernel_rfl) (by kernel_rfl) (fun _ _ _ h => h) (Or.inl ⟨by rfl, ?hy18b⟩) (by assumption) ?rest18b
            case hy18b => (intro W hSw; (try dsimp only at hSw); go_simp; first | done | with_reducible rfl)
            simp only [Act.put, List.getElem_toArray, List.getElem_cons_zero, List.getElem_cons_succ, List.setIfInBounds_toArray, List.set_cons_zero, List.set_cons_succ]
            refine wpAnyH_take (i := 19) (v := ?v19b) rfl (by kernel_rfl) (by kernel_rfl) (by kernel_rfl) (fun _ _ _ h => h) (Or.inl ⟨by rfl, ?hy19b⟩) (by assumption) ?rest19b
            case hy19b => (intro W hSw; (try dsimp only at hSw); go_simp; first | done | with_reducible rfl)
            simp only [Act.put, List.getElem_toArray, List.getElem_cons_zero, List.getElem_cons_succ, List.setIfInBounds_toArray, List.set_cons_zero, List.set_cons_succ]
            refine wpAnyH_done (by kernel_rfl) ?_ _
            go_wp2_with fail
            go_meet
            case rel => exact ⟨wr.heap.size, rfl, rfl, rfl, by omega, by omega, hHeld3.2.2.1, setRow_heap _ _ _ d _ _ (below_cells (heap_alloc_new wr.drew (.cells VS.zero.c 38)) hb'), hHeld3.2.2.2⟩
        case rest =>
          obtain ⟨b7, rfl, rfl, rfl, hb7, hne, rx3, rd3, rb3⟩ := hcut
          have RX3 := Lib.hid rx3
          have RD3 := Lib.hid rd3
          have RB3 := Lib.hid rb3
          clear rx3 rd3 rb3 RX RB HW
          rcases HCASE.out with ⟨rfl, hds, htt⟩ | ⟨m, rfl⟩
          · skip
            obtain ⟨s', hs'⟩ : ∃ s', s' = s.write A B := ⟨_, rfl⟩
            have hok2 := write_ok s A B hok
            have hwf2 := write_wf s A B hs hB
            have htl := told_ok s A B hok
            rw [← hs'] at hds hok2 hwf2
            rw [← htt] at htl
            have HS2 := Lib.hid (show d = s'.c ∧ s'.ok ∧ s'.wf from ⟨hds, hok2, hwf2⟩)
            have HC := Lib.hid (vs_Check s' hwf2.hst)
            rw [if_pos hok2, VS.v, ← hds] at HC
            simp only [errV, if_pos] at HC
            have HV := Lib.hid (vs_Live s' hwf2.hst)
            rw [VS.v, ← hds] at HV
            rcases htl with rfl | ⟨rfl, hw, hrdy, hl, hring⟩ | ⟨rfl, hw, hrdy, hl, hring⟩
            · by_cases hl : s'.live
              · clear htt hs' hok hs
                have hr := live_right s' hok2 hl
                have hd5 : d[5]? = some (.int .u32 0) := by rw [hds]; exact (show s'.c[5]? = some (.int .u32 (s'.d0 : Nat)) from rfl).trans (by rw [hr.1]; rfl)
                have hd6 : d[6]? = some (.int .u32 1) := by rw [hds]; exact (show s'.c[6]? = some (.int .u32 (s'.d1 : Nat)) from rfl).trans (by rw [hr.2]; rfl)
                rw [decide_eq_true hl] at HV
                clear hr hl
                clear hds hok2 hwf2
                go_wp2_with (first | (refine load_rowW ?hw 38 _ rfl b7 rfl 38 d (0, 0) _ RD3.out Try.underlying38 rfl HID.out ?_; case hw => kernel_rfl))
                refine (HC.out _).mono ?_
                rintro e w4 ⟨rfl, hb⟩
                have RX4 := Lib.hid (below_cells RX3.out hb)
                have RD4 := Lib.hid (below_cells RD3.out hb)
                have RB4 := Lib.hid (RB3.out.trans (hb.mono RB3.out.size))
                clear hb
                go_wp2_with (first | go_skip | (refine load_rowW ?hw 38 _ rfl b7 rfl 38 d (0, 0) _ RD4.out Try.underlying38 rfl HID.out ?_; case hw => kernel_rfl))
                refine (HV.out _).mono ?_
                rintro e w5 ⟨rfl, hb⟩
                have RX5 := Lib.hid (below_cells RX4.out hb)
                have RD5 := Lib.hid (below_cells RD4.out hb)
                have RB5 := Lib.hid (RB4.out.trans (hb.mono RB4.out.size))
                clear hb
                have f5 : w5.cell? ⟨b7, 5, none⟩ = some (.int .u32 (0 : Nat)) := (cell_of_row _ _ 5 _ _ _ RD5.out).trans hd5
                have f6 : w5.cell? ⟨b7, 6, none⟩ = some (.int .u32 (1 : Nat)) := (cell_of_row _ _ 6 _ _ _ RD5.out).trans hd6
                go_upto_region 13 with fail
                go_wp2_with (first | go_skip | (refine load_rowW ?hw 38 _ rfl b7 rfl 38 d (0, 0) _ RD5.out Try.underlying38 rfl HID.out ?_; case hw => kernel_rfl) | (refine wpList_store_row rfl 38 _ _ rfl bx d rfl rfl 38 c RX5.out HID.out HCD.out HOD.out ?_))
                go_roundw
                case rel =>
                  exact ⟨k + 1, s', by omega, rfl, HS2.out.2.1, HS2.out.2.2, by rw [← HS2.out.1]; exact setRow_heap _ _ _ _ _ _ RX5.out, below_setRow RB5.out hbx2 _⟩
                case measure => simp [intOf]; omega
              · rw [decide_eq_false hl] at HV
                clear hl htt hs' hok hs
                clear hds hok2 hwf2
                go_wp2_with (first | (refine load_rowW ?hw 38 _ rfl b7 rfl 38 d (0, 0) _ RD3.out Try.underlying38 rfl HID.out ?_; case hw => kernel_rfl))
                refine (HC.out _).mono ?_
                rintro e w4 ⟨rfl, hb⟩
                have RX4 := Lib.hid (below_cells RX3.out hb)
                have RD4 := Lib.hid (below_cells RD3.out hb)
                have RB4 := Lib.hid (RB3.out.trans (hb.mono RB3.out.size))
                clear hb
                go_wp2_with (first | go_skip | (refine load_rowW ?hw 38 _ rfl b7 rfl 38 d (0, 0) _ RD4.out Try.underlying38 rfl HID.out ?_; case hw => kernel_rfl))
                refine (HV.out _).mono ?_
                rintro e w5 ⟨rfl, hb⟩
                have RX5 := Lib.hid (below_cells RX4.out hb)
                have RD5 := Lib.hid (below_cells RD4.out hb)
                have RB5 := Lib.hid (RB4.out.trans (hb.mono RB4.out.size))
                clear hb
                go_upto_region 13 with fail
                go_wp2_with (first | go_skip | (refine load_rowW ?hw 38 _ rfl b7 rfl 38 d (0, 0) _ RD5.out Try.underlying38 rfl HID.out ?_; case hw => kernel_rfl) | (refine wpList_store_row rfl 38 _ _ rfl bx d rfl rfl 38 c RX5.out HID.out HCD.out HOD.out ?_))
                go_roundw
                case rel =>
                  exact ⟨k + 1, s', by omega, rfl, HS2.out.2.1, HS2.out.2.2, by rw [← HS2.out.1]; exact setRow_heap _ _ _ _ _ _ RX5.out, below_setRow RB5.out hbx2 _⟩
                case measure => simp [intOf]; omega
            · rw [hw] at hs'
              rw [← hs'] at hrdy hl hring
              clear hw htt hs' hok hs
              have hr := live_right s' hok2 hl
              have hd5 : d[5]? = some (.int .u32 0) := by rw [hds]; exact (show s'.c[5]? = some (.int .u32 (s'.d0 : Nat)) from rfl).trans (by rw [hr.1]; rfl)
              have hd6 : d[6]? = some (.int .u32 1) := by rw [hds]; exact (show s'.c[6]? = some (.int .u32 (s'.d1 : Nat)) from rfl).trans (by rw [hr.2]; rfl)
              rw [decide_eq_true hl] at HV
              clear hr hl
              have hd7 : d[7]? = some (.bool true) := by rw [hds]; exact (show s'.c[7]? = some (.bool s'.a.rdy) from rfl).trans (by rw [hrdy])
              have HR := Lib.hid (ring_Check s'.a)
              rw [if_pos hring] at HR
              simp only [errV, if_pos] at HR
              unfold VQ.rv at HR
              have HQL : Hid (∀ (j : Nat) v, ([.int .i64 s'.a.size, .int .u32 s'.a.de, .int .u32 s'.a.av, .int .u32 s'.a.us, .int .u16 s'.a.la, .int .u16 s'.a.pu] : List Value)[j]? = some v → d[8 + j]? = some v) := Lib.hid fun j v hv => by
                have hj : j < 6 := (List.getElem?_eq_some_iff.1 hv).1
                rw [hds, show 8 + j = 7 + (j + 1) by omega, s'.qa' (j + 1) (by omega), ← hv]; rfl
              generalize s'.a = q at HR HQL
              clear hds hok2 hwf2
              go_wp2_with (first | (refine load_rowW ?hw 38 _ rfl b7 rfl 38 d (0, 0) _ RD3.out Try.underlying38 rfl HID.out ?_; case hw => kernel_rfl))
              refine (HC.out _).mono ?_
              rintro e w4 ⟨rfl, hb⟩
              have RX4 := Lib.hid (below_cells RX3.out hb)
              have RD4 := Lib.hid (below_cells RD3.out hb)
              have RB4 := Lib.hid (RB3.out.trans (hb.mono RB3.out.size))
              clear hb
              go_wp2_with (first | go_skip | (refine load_rowW ?hw 38 _ rfl b7 rfl 38 d (0, 0) _ RD4.out Try.underlying38 rfl HID.out ?_; case hw => kernel_rfl))
              refine (HV.out _).mono ?_
              rintro e w5 ⟨rfl, hb⟩
              have RX5 := Lib.hid (below_cells RX4.out hb)
              have RD5 := Lib.hid (below_cells RD4.out hb)
              have RB5 := Lib.hid (RB4.out.trans (hb.mono RB4.out.size))
              clear hb
              have f5 : w5.cell? ⟨b7, 5, none⟩ = some (.int .u32 (0 : Nat)) := (cell_of_row _ _ 5 _ _ _ RD5.out).trans hd5
              have f6 : w5.cell? ⟨b7, 6, none⟩ = some (.int .u32 (1 : Nat)) := (cell_of_row _ _ 6 _ _ _ RD5.out).trans hd6
              have f7 : w5.cell? ⟨b7, 7, none⟩ = some (.bool true) := (cell_of_row _ _ 7 _ _ _ RD5.out).trans hd7
              go_upto_region 11 with fail
              go_wp2_with (first | go_skip | (refine load_rowW ?hw 38 _ rfl b7 rfl 38 d (0, 0) _ RD5.out Try.underlying38 rfl HID.out ?_; case hw => kernel_rfl))
              refine (HV.out _).mono ?_
              rintro e w6 ⟨rfl, hb⟩
              have RX6 := Lib.hid (below_cells RX5.out hb)
              have RD6 := Lib.hid (below_cells RD5.out hb)
              have RB6 := Lib.hid (RB5.out.trans (hb.mono RB5.out.size))
              clear hb
              have HRG := Lib.hid (show w6.rangeAt b7 8 [.int .i64 q.size, .int .u32 q.de, .int .u32 q.av, .int .u32 q.us, .int .u16 q.la, .int .u16 q.pu] from range_of_row RD6.out 8 _ HQL.out)
              go_wp2_with (first | go_skip | (refine load_midW ?hw 33 _ rfl b7 8 rfl _ _ HRG.out Try.underlying33 rfl (by kernel_rfl) ?_; case hw => kernel_rfl))
              refine (HR.out _).mono ?_
              rintro e w7 ⟨rfl, hb⟩
              have RX7 := Lib.hid (below_cells RX6.out hb)
              have RD7 := Lib.hid (below_cells RD6.out hb)
              have RB7 := Lib.hid (RB6.out.trans (hb.mono RB6.out.size))
              clear hb
              go_upto_region 13 with fail
              go_wp2_with (first | go_skip | (refine load_rowW ?hw 38 _ rfl b7 rfl 38 d (0, 0) _ RD7.out Try.underlying38 rfl HID.out ?_; case hw => kernel_rfl) | (refine wpList_store_row rfl 38 _ _ rfl bx d rfl rfl 38 c RX7.out HID.out HCD.out HOD.out ?_))
              go_roundw
              case rel =>
                exact ⟨k + 1, s', by omega, rfl, HS2.out.2.1, HS2.out.2.2, by rw [← HS2.out.1]; exact setRow_heap _ _ _ _ _ _ RX7.out, below_setRow RB7.out hbx2 _⟩
              case measure => simp [intOf]; omega
            · rw [hw] at hs'
              rw [← hs'] at hrdy hl hring
              clear hw htt hs' hok hs
              have hr := live_right s' hok2 hl
              have hd5 : d[5]? = some (.int .u32 0) := by rw [hds]; exact (show s'.c[5]? = some (.int .u32 (s'.d0 : Nat)) from rfl).trans (by rw [hr.1]; rfl)
              have hd6 : d[6]? = some (.int .u32 1) := by rw [hds]; exact (show s'.c[6]? = some (.int .u32 (s'.d1 : Nat)) from rfl).trans (by rw [hr.2]; rfl)
              rw [decide_eq_true hl] at HV
              clear hr hl
              have hd7 : d[14]? = some (.bool true) := by rw [hds]; exact (show s'.c[14]? = some (.bool s'.b.rdy) from rfl).trans (by rw [hrdy])
              have HR := Lib.hid (ring_Check s'.b)
              rw [if_pos hring] at HR
              simp only [errV, if_pos] at HR
              unfold VQ.rv at HR
              have HQL : Hid (∀ (j : Nat) v, ([.int .i64 s'.b.size, .int .u32 s'.b.de, .int .u32 s'.b.av, .int .u32 s'.b.us, .int .u16 s'.b.la, .int .u16 s'.b.pu] : List Value)[j]? = some v → d[15 + j]? = some v) := Lib.hid fun j v hv => by
                have hj : j < 6 := (List.getElem?_eq_some_iff.1 hv).1
                rw [hds, show 15 + j = 14 + (j + 1) by omega, s'.qb' (j + 1) (by omega), ← hv]; rfl
              generalize s'.b = q at HR HQL
              clear hds hok2 hwf2
              go_wp2_with (first | (refine load_rowW ?hw 38 _ rfl b7 rfl 38 d (0, 0) _ RD3.out Try.underlying38 rfl HID.out ?_; case hw => kernel_rfl))
              refine (HC.out _).mono ?_
              rintro e w4 ⟨rfl, hb⟩
              have RX4 := Lib.hid (below_cells RX3.out hb)
              have RD4 := Lib.hid (below_cells RD3.out hb)
              have RB4 := Lib.hid (RB3.out.trans (hb.mono RB3.out.size))
              clear hb
              go_wp2_with (first | go_skip | (refine load_rowW ?hw 38 _ rfl b7 rfl 38 d (0, 0) _ RD4.out Try.underlying38 rfl HID.out ?_; case hw => kernel_rfl))
              refine (HV.out _).mono ?_
              rintro e w5 ⟨rfl, hb⟩
              have RX5 := Lib.hid (below_cells RX4.out hb)
              have RD5 := Lib.hid (below_cells RD4.out hb)
              have RB5 := Lib.hid (RB4.out.trans (hb.mono RB4.out.size))
              clear hb
              have f5 : w5.cell? ⟨b7, 5, none⟩ = some (.int .u32 (0 : Nat)) := (cell_of_row _ _ 5 _ _ _ RD5.out).trans hd5
              have f6 : w5.cell? ⟨b7, 6, none⟩ = some (.int .u32 (1 : Nat)) := (cell_of_row _ _ 6 _ _ _ RD5.out).trans hd6
              have f7 : w5.cell? ⟨b7, 14, none⟩ = some (.bool true) := (cell_of_row _ _ 14 _ _ _ RD5.out).trans hd7
              go_upto_region 11 with fail
              go_wp2_with (first | go_skip | (refine load_rowW ?hw 38 _ rfl b7 rfl 38 d (0, 0) _ RD5.out Try.underlying38 rfl HID.out ?_; case hw => kernel_rfl))
              refine (HV.out _).mono ?_
              rintro e w6 ⟨rfl, hb⟩
              have RX6 := Lib.hid (below_cells RX5.out hb)
              have RD6 := Lib.hid (below_cells RD5.out hb)
              have RB6 := Lib.hid (RB5.out.trans (hb.mono RB5.out.size))
              clear hb
              have HRG := Lib.hid (show w6.rangeAt b7 15 [.int .i64 q.size, .int .u32 q.de, .int .u32 q.av, .int .u32 q.us, .int .u16 q.la, .int .u16 q.pu] from range_of_row RD6.out 15 _ HQL.out)
              go_wp2_with (first | go_skip | (refine load_midW ?hw 33 _ rfl b7 15 rfl _ _ HRG.out Try.underlying33 rfl (by kernel_rfl) ?_; case hw => kernel_rfl))
              refine (HR.out _).mono ?_
              rintro e w7 ⟨rfl, hb⟩
              have RX7 := Lib.hid (below_cells RX6.out hb)
              have RD7 := Lib.hid (below_cells RD6.out hb)
              have RB7 := Lib.hid (RB6.out.trans (hb.mono RB6.out.size))
              clear hb
              go_upto_region 13 with fail
              go_wp2_with (first | go_skip | (refine load_rowW ?hw 38 _ rfl b7 rfl 38 d (0, 0) _ RD7.out Try.underlying38 rfl HID.out ?_; case hw => kernel_rfl) | (refine wpList_store_row rfl 38 _ _ rfl bx d rfl rfl 38 c RX7.out HID.out HCD.out HOD.out ?_))
              go_roundw
              case rel =>
                exact ⟨k + 1, s', by omega, rfl, HS2.out.2.1, HS2.out.2.2, by rw [← HS2.out.1]; exact setRow_heap _ _ _ _ _ _ RX7.out, below_setRow RB7.out hbx2 _⟩
              case measure => simp [intOf]; omega
          · clear HCASE
            go_wp2_with fail
            go_roundw
            case rel =>
              exact ⟨k + 1, s, by omega, rfl, hok, hs, by rw [← HCS.out]; exact RX3.out, RB3.out⟩
            case measure => simp [intOf]; omega
      · have hk5' : ¬ ((k : Int) < 60) := by omega
        have hk6 : (k : Int) < ↑n := by omega
        clear hkn hk1 hk2
        have HW := Lib.hid (vs_Write s 112 0 hs (by decide))
        have eV : vioV s 112 0 = .tuple #[VS.zero.v, .int .i64 (-1), .nilIface] := if_pos (by unfold badN; rw [if_pos hok, if_neg (by decide)])
        rw [eV] at HW
        have HF := Lib.hid (vs_Fail s hs.hst hs.hirq)
        have HC := Lib.hid (vs_Check s.fail (fail_wf s hs).hst)
        rw [if_pos (fail_ok s hok)] at HC
        simp only [errV, if_pos] at HC
        have HV := Lib.hid (vs_Live s.fail (fail_wf s hs).hst)
        rw [decide_eq_false (fail_dead s)] at HV
        have hone := s.fail.c_one
        have hfz : s.fail.c.size = 21 := rfl
        have hsz : s.c.size = 21 := rfl
        simp only [VS.v] at HW HF HC HV
        obtain ⟨c, hc⟩ : ∃ c, c = s.c := ⟨_, rfl⟩
        obtain ⟨f, hf⟩ : ∃ f, f = s.fail.c := ⟨_, rfl⟩
        rw [← hc] at HW HF RX hsz
        rw [← hf] at HF HC HV hone hfz
        clear hc hf eV hok hs
        have HIC := Lib.hid (show (Try.prog.info? 38).map (·.size) = some c.size by rw [hsz]; kernel_rfl)
        have HIF := Lib.hid (show (Try.prog.info? 38).map (·.size) = some f.size by rw [hfz]; kernel_rfl)
        have HIZ := Lib.hid (show (Try.prog.info? 38).map (·.size) = some VS.zero.c.size by kernel_rfl)
        have HOZ := Lib.hid (VS.c_one VS.zero)
        have HOF := Lib.hid hone
        have HZF : Hid (VS.zero.c.size = f.size) := Lib.hid (by rw [hfz]; rfl)
        clear hone hfz hsz
        go_wp2_with (first | go_skip | (refine load_rowW rfl 38 _ rfl bx rfl 38 c (0, 0) _ RX.out Try.underlying38 rfl HIC.out ?_))
        refine (HW.out _).mono ?_
        rintro e w3 ⟨rfl, hb⟩
        have RX3 := Lib.hid (below_cells RX.out hb)
        have RB3 := Lib.hid (RB.out.trans (hb.mono RB.out.size))
        have hbx3 : bx < w3.heap.size := (Array.getElem?_eq_some_iff.1 RX3.out).1
        clear hb RX RB
        have HZ3 := Lib.hid (show (w3.alloc (.cells VS.zero.c 38)).heap[w3.heap.size]? = some (.cells VS.zero.c 38 (0, 0)) from heap_alloc_new _ _)
        have RX4 := Lib.hid (show ((w3.alloc (.cells #[Value.int IntKind.u32 0, Value.int IntKind.u32 0, Value.int IntKind.u32 0, Value.int IntKind.u32 0, Value.int IntKind.u32 0, Value.int IntKind.u32 0, Value.int IntKind.u32 0, Value.bool false, Value.int IntKind.i64 0, Value.int IntKind.u32 0, Value.int IntKind.u32 0, Value.int IntKind.u32 0, Value.int IntKind.u16 0, Value.int IntKind.u16 0, Value.bool false, Value.int IntKind.i64 0, Value.int IntKind.u32 0, Value.int IntKind.u32 0, Value.int IntKind.u32 0, Value.int IntKind.u16 0, Value.int IntKind.u16 0] 38)).setRow w3.heap.size #[Value.int IntKind.u32 0, Value.int IntKind.u32 0, Value.int IntKind.u32 0, Value.int IntKind.u32 0, Value.int IntKind.u32 0, Value.int IntKind.u32 0, Value.int IntKind.u32 0, Value.bool false, Value.int IntKind.i64 0, Value.int IntKind.u32 0, Value.int IntKind.u32 0, Value.int IntKind.u32 0, Value.int IntKind.u16 0, Value.int IntKind.u16 0, Value.bool false, Value.int IntKind.i64 0, Value.int IntKind.u32 0, Value.int IntKind.u32 0, Value.int IntKind.u32 0, Value.int IntKind.u16 0, Value.int IntKind.u16 0]).heap[bx]? = some (.cells c 38 (0, 0)) from (row_keep (by omega)).trans (heap_alloc_keep RX3.out))
        have RZ4 := Lib.hid (show ((w3.alloc (.cells #[Value.int IntKind.u32 0, Value.int IntKind.u32 0, Value.int IntKind.u32 0, Value.int IntKind.u32 0, Value.int IntKind.u32 0, Value.int IntKind.u32 0, Value.int IntKind.u32 0, Value.bool false, Value.int IntKind.i64 0, Value.int IntKind.u32 0, Value.int IntKind.u32 0, Value.int IntKind.u32 0, Value.int IntKind.u16 0, Value.int IntKind.u16 0, Value.bool false, Value.int IntKind.i64 0, Value.int IntKind.u32 0, Value.int IntKind.u32 0, Value.int IntKind.u32 0, Value.int IntKind.u16 0, Value.int IntKind.u16 0] 38)).setRow w3.heap.size #[Value.int IntKind.u32 0, Value.int IntKind.u32 0, Value.int IntKind.u32 0, Value.int IntKind.u32 0, Value.int IntKind.u32 0, Value.int IntKind.u32 0, Value.int IntKind.u32 0, Value.bool false, Value.int IntKind.i64 0, Value.int IntKind.u32 0, Value.int IntKind.u32 0, Value.int IntKind.u32 0, Value.int IntKind.u16 0, Value.int IntKind.u16 0, Value.bool false, Value.int IntKind.i64 0, Value.int IntKind.u32 0, Value.int IntKind.u32 0, Value.int IntKind.u32 0, Value.int IntKind.u16 0, Value.int IntKind.u16 0]).heap[w3.heap.size]? = some (.cells #[Value.int IntKind.u32 0, Value.int IntKind.u32 0, Value.int IntKind.u32 0, Value.int IntKind.u32 0, Value.int IntKind.u32 0, Value.int IntKind.u32 0, Value.int IntKind.u32 0, Value.bool false, Value.int IntKind.i64 0, Value.int IntKind.u32 0, Value.int IntKind.u32 0, Value.int IntKind.u32 0, Value.int IntKind.u16 0, Value.int IntKind.u16 0, Value.bool false, Value.int IntKind.i64 0, Value.int IntKind.u32 0, Value.int IntKind.u32 0, Value.int IntKind.u32 0, Value.int IntKind.u16 0, Value.int IntKind.u16 0] 38 (0, 0)) from setRow_heap _ _ _ _ _ _ HZ3.out)
        have RB4 := Lib.hid (show Below w.heap.size w ((w3.alloc (.cells #[Value.int IntKind.u32 0, Value.int IntKind.u32 0, Value.int IntKind.u32 0, Value.int IntKind.u32 0, Value.int IntKind.u32 0, Value.int IntKind.u32 0, Value.int IntKind.u32 0, Value.bool false, Value.int IntKind.i64 0, Value.int IntKind.u32 0, Value.int IntKind.u32 0, Value.int IntKind.u32 0, Value.int IntKind.u16 0, Value.int IntKind.u16 0, Value.bool false, Value.int IntKind.i64 0, Value.int IntKind.u32 0, Value.int IntKind.u32 0, Value.int IntKind.u32 0, Value.int IntKind.u16 0, Value.int IntKind.u16 0] 38)).setRow w3.heap.size #[Value.int IntKind.u32 0, Value.int IntKind.u32 0, Value.int IntKind.u32 0, Value.int IntKind.u32 0, Value.int IntKind.u32 0, Value.int IntKind.u32 0, Value.int IntKind.u32 0, Value.bool false, Value.int IntKind.i64 0, Value.int IntKind.u32 0, Value.int IntKind.u32 0, Value.int IntKind.u32 0, Value.int IntKind.u16 0, Value.int IntKind.u16 0, Value.bool false, Value.int IntKind.i64 0, Value.int IntKind.u32 0, Value.int IntKind.u32 0, Value.int IntKind.u32 0, Value.int IntKind.u16 0, Value.int IntKind.u16 0]) from below_setRow (RB3.out.alloc RB3.out.size _) RB3.out.size _)
        go_wp2_with (first | (refine wpList_store_row rfl 38 _ _ rfl w3.heap.size #[Value.int IntKind.u32 0, Value.int IntKind.u32 0, Value.int IntKind.u32 0, Value.int IntKind.u32 0, Value.int IntKind.u32 0, Value.int IntKind.u32 0, Value.int IntKind.u32 0, Value.bool false, Value.int IntKind.i64 0, Value.int IntKind.u32 0, Value.int IntKind.u32 0, Value.int IntKind.u32 0, Value.int IntKind.u16 0, Value.int IntKind.u16 0, Value.bool false, Value.int IntKind.i64 0, Value.int IntKind.u32 0, Value.int IntKind.u32 0, Value.int IntKind.u32 0, Value.int IntKind.u16 0, Value.int IntKind.u16 0] rfl rfl 38 VS.zero.c HZ3.out HIZ.out rfl HOZ.out ?_) | (refine load_rowW rfl 38 _ rfl bx rfl 38 c (0, 0) _ RX4.out Try.underlying38 rfl HIC.out ?_))
        generalize hbz : w3.heap.size = bz at RZ4
        rw [hbz] at RX4 RB4
        generalize (w3.alloc (.cells #[Value.int IntKind.u32 0, Value.int IntKind.u32 0, Value.int IntKind.u32 0, Value.int IntKind.u32 0, Value.int IntKind.u32 0, Value.int IntKind.u32 0, Value.int IntKind.u32 0, Value.bool false, Value.int IntKind.i64 0, Value.int IntKind.u32 0, Value.int IntKind.u32 0, Value.int IntKind.u32 0, Value.int IntKind.u16 0, Value.int IntKind.u16 0, Value.bool false, Value.int IntKind.i64 0, Value.int IntKind.u32 0, Value.int IntKind.u32 0, Value.int IntKind.u32 0, Value.int IntKind.u16 0, Value.int IntKind.u16 0] 38)).setRow bz #[Value.int IntKind.u32 0, Value.int IntKind.u32 0, Value.int IntKind.u32 0, Value.int IntKind.u32 0, Value.int IntKind.u32 0, Value.int IntKind.u32 0, Value.int IntKind.u32 0, Value.bool false, Value.int IntKind.i64 0, Value.int IntKind.u32 0, Value.int IntKind.u32 0, Value.int IntKind.u32 0, Value.int IntKind.u16 0, Value.int IntKind.u16 0, Value.bool false, Value.int IntKind.i64 0, Value.int IntKind.u32 0, Value.int IntKind.u32 0, Value.int IntKind.u32 0, Value.int IntKind.u16 0, Value.int IntKind.u16 0] = w4 at RX4 RZ4 RB4 ⊢
        clear RX3 RB3 HZ3 hbz hbx3
        have hq1 := arr2_zero
        have hq2 := arr_q_eq
        refine (HF.out _).mono ?_
        rintro e w5 ⟨rfl, hb⟩
        have RZ5 := Lib.hid (below_cells RZ4.out hb)
        have RB5 := Lib.hid (RB4.out.trans (hb.mono RB4.out.size))
        have hbz5 : bz < w5.heap.size := (Array.getElem?_eq_some_iff.1 RZ5.out).1
        clear hb RX4 RZ4 RB4
        have HZ5 := Lib.hid (show (w5.alloc (.cells VS.zero.c 38)).heap[w5.heap.size]? = some (.cells VS.zero.c 38 (0, 0)) from heap_alloc_new _ _)
        have RZ6 := Lib.hid (show ((w5.alloc (.cells #[Value.int IntKind.u32 0, Value.int IntKind.u32 0, Value.int IntKind.u32 0, Value.int IntKind.u32 0, Value.int IntKind.u32 0, Value.int IntKind.u32 0, Value.int IntKind.u32 0, Value.bool false, Value.int IntKind.i64 0, Value.int IntKind.u32 0, Value.int IntKind.u32 0, Value.int IntKind.u32 0, Value.int IntKind.u16 0, Value.int IntKind.u16 0, Value.bool false, Value.int IntKind.i64 0, Value.int IntKind.u32 0, Value.int IntKind.u32 0, Value.int IntKind.u32 0, Value.int IntKind.u16 0, Value.int IntKind.u16 0] 38)).setRow w5.heap.size f).heap[bz]? = some (.cells #[Value.int IntKind.u32 0, Value.int IntKind.u32 0, Value.int IntKind.u32 0, Value.int IntKind.u32 0, Value.int IntKind.u32 0, Value.int IntKind.u32 0, Value.int IntKind.u32 0, Value.bool false, Value.int IntKind.i64 0, Value.int IntKind.u32 0, Value.int IntKind.u32 0, Value.int IntKind.u32 0, Value.int IntKind.u16 0, Value.int IntKind.u16 0, Value.bool false, Value.int IntKind.i64 0, Value.int IntKind.u32 0, Value.int IntKind.u32 0, Value.int IntKind.u32 0, Value.int IntKind.u16 0, Value.int IntKind.u16 0] 38 (0, 0)) from (row_keep (by omega)).trans (heap_alloc_keep RZ5.out))
        have RF6 := Lib.hid (show ((w5.alloc (.cells #[Value.int IntKind.u32 0, Value.int IntKind.u32 0, Value.int IntKind.u32 0, Value.int IntKind.u32 0, Value.int IntKind.u32 0, Value.int IntKind.u32 0, Value.int IntKind.u32 0, Value.bool false, Value.int IntKind.i64 0, Value.int IntKind.u32 0, Value.int IntKind.u32 0, Value.int IntKind.u32 0, Value.int IntKind.u16 0, Value.int IntKind.u16 0, Value.bool false, Value.int IntKind.i64 0, Value.int IntKind.u32 0, Value.int IntKind.u32 0, Value.int IntKind.u32 0, Value.int IntKind.u16 0, Value.int IntKind.u16 0] 38)).setRow w5.heap.size f).heap[w5.heap.size]? = some (.cells f 38 (0, 0)) from setRow_heap _ _ _ _ _ _ HZ5.out)
        have RB6 := Lib.hid (show Below w.heap.size w ((w5.alloc (.cells #[Value.int IntKind.u32 0, Value.int IntKind.u32 0, Value.int IntKind.u32 0, Value.int IntKind.u32 0, Value.int IntKind.u32 0, Value.int IntKind.u32 0, Value.int IntKind.u32 0, Value.bool false, Value.int IntKind.i64 0, Value.int IntKind.u32 0, Value.int IntKind.u32 0, Value.int IntKind.u32 0, Value.int IntKind.u16 0, Value.int IntKind.u16 0, Value.bool false, Value.int IntKind.i64 0, Value.int IntKind.u32 0, Value.int IntKind.u32 0, Value.int IntKind.u32 0, Value.int IntKind.u16 0, Value.int IntKind.u16 0] 38)).setRow w5.heap.size f) from below_setRow (RB5.out.alloc RB5.out.size _) RB5.out.size _)
        go_wp2_with (first | go_skip | (refine wpList_store_row rfl 38 _ _ rfl w5.heap.size f rfl rfl 38 VS.zero.c HZ5.out HIF.out HZF.out HOF.out ?_) | (refine load_rowW rfl 38 _ rfl bz rfl 38 #[Value.int IntKind.u32 0, Value.int IntKind.u32 0, Value.int IntKind.u32 0, Value.int IntKind.u32 0, Value.int IntKind.u32 0, Value.int IntKind.u32 0, Value.int IntKind.u32 0, Value.bool false, Value.int IntKind.i64 0, Value.int IntKind.u32 0, Value.int IntKind.u32 0, Value.int IntKind.u32 0, Value.int IntKind.u16 0, Value.int IntKind.u16 0, Value.bool false, Value.int IntKind.i64 0, Value.int IntKind.u32 0, Value.int IntKind.u32 0, Value.int IntKind.u32 0, Value.int IntKind.u16 0, Value.int IntKind.u16 0] (0, 0) _ RZ6.out Try.underlying38 rfl HIZ.out ?_) | (refine load_rowW rfl 38 _ rfl w5.heap.size rfl 38 f (0, 0) _ RF6.out Try.underlying38 rfl HIF.out ?_))
        generalize hbf : w5.heap.size = bf at RF6
        rw [hbf] at RZ6 RB6
        generalize (w5.alloc (.cells #[Value.int IntKind.u32 0, Value.int IntKind.u32 0, Value.int IntKind.u32 0, Value.int IntKind.u32 0, Value.int IntKind.u32 0, Value.int IntKind.u32 0, Value.int IntKind.u32 0, Value.bool false, Value.int IntKind.i64 0, Value.int IntKind.u32 0, Value.int IntKind.u32 0, Value.int IntKind.u32 0, Value.int IntKind.u16 0, Value.int IntKind.u16 0, Value.bool false, Value.int IntKind.i64 0, Value.int IntKind.u32 0, Value.int IntKind.u32 0, Value.int IntKind.u32 0, Value.int IntKind.u16 0, Value.int IntKind.u16 0] 38)).setRow bf f = w6 at RZ6 RF6 RB6 ⊢
        clear RZ5 RB5 HZ5 hbf hbz5
        refine (HC.out _).mono ?_
        rintro e w7 ⟨rfl, hb⟩
        have RF7 := Lib.hid (below_cells RF6.out hb)
        have RB7 := Lib.hid (RB6.out.trans (hb.mono RB6.out.size))
        clear hb RZ6 RF6 RB6
        go_wp2_with (first | go_skip | (refine load_rowW ?hw 38 _ rfl bf rfl 38 f (0, 0) _ RF7.out Try.underlying38 rfl HIF.out ?_; case hw => kernel_rfl))
        refine (HV.out _).mono ?_
        rintro e w8 ⟨rfl, hb⟩
        have RB8 := Lib.hid (RB7.out.trans (hb.mono RB7.out.size))
        clear hb RF7 RB7
        go_wp2_with fail
        refine (HS.out _).mono ?_
        rintro e w9 ⟨rfl, hb⟩
        go_wp2_with fail
        go_ret
        exact ⟨rfl, RB8.out.trans (hb.mono RB8.out.size)⟩
    · have hk5' : ¬ ((k : Int) < ↑n) := by omega
      clear hkn hk1
      have HW := Lib.hid (vs_Write s 112 0 hs (by decide))
      have eV : vioV s 112 0 = .tuple #[VS.zero.v, .int .i64 (-1), .nilIface] := if_pos (by unfold badN; rw [if_pos hok, if_neg (by decide)])
      rw [eV] at HW
      have HF := Lib.hid (vs_Fail s hs.hst hs.hirq)
      have HC := Lib.hid (vs_Check s.fail (fail_wf s hs).hst)
      rw [if_pos (fail_ok s hok)] at HC
      simp only [errV, if_pos] at HC
      have HV := Lib.hid (vs_Live s.fail (fail_wf s hs).hst)
      rw [decide_eq_false (fail_dead s)] at HV
      have hone := s.fail.c_one
      have hfz : s.fail.c.size = 21 := rfl
      have hsz : s.c.size = 21 := rfl
      simp only [VS.v] at HW HF HC HV
      obtain ⟨c, hc⟩ : ∃ c, c = s.c := ⟨_, rfl⟩
      obtain ⟨f, hf⟩ : ∃ f, f = s.fail.c := ⟨_, rfl⟩
      rw [← hc] at HW HF RX hsz
      rw [← hf] at HF HC HV hone hfz
      clear hc hf eV hok hs
      have HIC := Lib.hid (show (Try.prog.info? 38).map (·.size) = some c.size by rw [hsz]; kernel_rfl)
      have HIF := Lib.hid (show (Try.prog.info? 38).map (·.size) = some f.size by rw [hfz]; kernel_rfl)
      have HIZ := Lib.hid (show (Try.prog.info? 38).map (·.size) = some VS.zero.c.size by kernel_rfl)
      have HOZ := Lib.hid (VS.c_one VS.zero)
      have HOF := Lib.hid hone
      have HZF : Hid (VS.zero.c.size = f.size) := Lib.hid (by rw [hfz]; rfl)
      clear hone hfz hsz
      go_wp2_with (first | go_skip | (refine load_rowW rfl 38 _ rfl bx rfl 38 c (0, 0) _ RX.out Try.underlying38 rfl HIC.out ?_))
      refine (HW.out _).mono ?_
      rintro e w3 ⟨rfl, hb⟩
      have RX3 := Lib.hid (below_cells RX.out hb)
      have RB3 := Lib.hid (RB.out.trans (hb.mono RB.out.size))
      have hbx3 : bx < w3.heap.size := (Array.getElem?_eq_some_iff.1 RX3.out).1
      clear hb RX RB
      have HZ3 := Lib.hid (show (w3.alloc (.cells VS.zero.c 38)).heap[w3.heap.size]? = some (.cells VS.zero.c 38 (0, 0)) from heap_alloc_new _ _)
      have RX4 := Lib.hid (show ((w3.alloc (.cells #[Value.int IntKind.u32 0, Value.int IntKind.u32 0, Value.int IntKind.u32 0, Value.int IntKind.u32 0, Value.int IntKind.u32 0, Value.int IntKind.u32 0, Value.int IntKind.u32 0, Value.bool false, Value.int IntKind.i64 0, Value.int IntKind.u32 0, Value.int IntKind.u32 0, Value.int IntKind.u32 0, Value.int IntKind.u16 0, Value.int IntKind.u16 0, Value.bool false, Value.int IntKind.i64 0, Value.int IntKind.u32 0, Value.int IntKind.u32 0, Value.int IntKind.u32 0, Value.int IntKind.u16 0, Value.int IntKind.u16 0] 38)).setRow w3.heap.size #[Value.int IntKind.u32 0, Value.int IntKind.u32 0, Value.int IntKind.u32 0, Value.int IntKind.u32 0, Value.int IntKind.u32 0, Value.int IntKind.u32 0, Value.int IntKind.u32 0, Value.bool false, Value.int IntKind.i64 0, Value.int IntKind.u32 0, Value.int IntKind.u32 0, Value.int IntKind.u32 0, Value.int IntKind.u16 0, Value.int IntKind.u16 0, Value.bool false, Value.int IntKind.i64 0, Value.int IntKind.u32 0, Value.int IntKind.u32 0, Value.int IntKind.u32 0, Value.int IntKind.u16 0, Value.int IntKind.u16 0]).heap[bx]? = some (.cells c 38 (0, 0)) from (row_keep (by omega)).trans (heap_alloc_keep RX3.out))
      have RZ4 := Lib.hid (show ((w3.alloc (.cells #[Value.int IntKind.u32 0, Value.int IntKind.u32 0, Value.int IntKind.u32 0, Value.int IntKind.u32 0, Value.int IntKind.u32 0, Value.int IntKind.u32 0, Value.int IntKind.u32 0, Value.bool false, Value.int IntKind.i64 0, Value.int IntKind.u32 0, Value.int IntKind.u32 0, Value.int IntKind.u32 0, Value.int IntKind.u16 0, Value.int IntKind.u16 0, Value.bool false, Value.int IntKind.i64 0, Value.int IntKind.u32 0, Value.int IntKind.u32 0, Value.int IntKind.u32 0, Value.int IntKind.u16 0, Value.int IntKind.u16 0] 38)).setRow w3.heap.size #[Value.int IntKind.u32 0, Value.int IntKind.u32 0, Value.int IntKind.u32 0, Value.int IntKind.u32 0, Value.int IntKind.u32 0, Value.int IntKind.u32 0, Value.int IntKind.u32 0, Value.bool false, Value.int IntKind.i64 0, Value.int IntKind.u32 0, Value.int IntKind.u32 0, Value.int IntKind.u32 0, Value.int IntKind.u16 0, Value.int IntKind.u16 0, Value.bool false, Value.int IntKind.i64 0, Value.int IntKind.u32 0, Value.int IntKind.u32 0, Value.int IntKind.u32 0, Value.int IntKind.u16 0, Value.int IntKind.u16 0]).heap[w3.heap.size]? = some (.cells #[Value.int IntKind.u32 0, Value.int IntKind.u32 0, Value.int IntKind.u32 0, Value.int IntKind.u32 0, Value.int IntKind.u32 0, Value.int IntKind.u32 0, Value.int IntKind.u32 0, Value.bool false, Value.int IntKind.i64 0, Value.int IntKind.u32 0, Value.int IntKind.u32 0, Value.int IntKind.u32 0, Value.int IntKind.u16 0, Value.int IntKind.u16 0, Value.bool false, Value.int IntKind.i64 0, Value.int IntKind.u32 0, Value.int IntKind.u32 0, Value.int IntKind.u32 0, Value.int IntKind.u16 0, Value.int IntKind.u16 0] 38 (0, 0)) from setRow_heap _ _ _ _ _ _ HZ3.out)
      have RB4 := Lib.hid (show Below w.heap.size w ((w3.alloc (.cells #[Value.int IntKind.u32 0, Value.int IntKind.u32 0, Value.int IntKind.u32 0, Value.int IntKind.u32 0, Value.int IntKind.u32 0, Value.int IntKind.u32 0, Value.int IntKind.u32 0, Value.bool false, Value.int IntKind.i64 0, Value.int IntKind.u32 0, Value.int IntKind.u32 0, Value.int IntKind.u32 0, Value.int IntKind.u16 0, Value.int IntKind.u16 0, Value.bool false, Value.int IntKind.i64 0, Value.int IntKind.u32 0, Value.int IntKind.u32 0, Value.int IntKind.u32 0, Value.int IntKind.u16 0, Value.int IntKind.u16 0] 38)).setRow w3.heap.size #[Value.int IntKind.u32 0, Value.int IntKind.u32 0, Value.int IntKind.u32 0, Value.int IntKind.u32 0, Value.int IntKind.u32 0, Value.int IntKind.u32 0, Value.int IntKind.u32 0, Value.bool false, Value.int IntKind.i64 0, Value.int IntKind.u32 0, Value.int IntKind.u32 0, Value.int IntKind.u32 0, Value.int IntKind.u16 0, Value.int IntKind.u16 0, Value.bool false, Value.int IntKind.i64 0, Value.int IntKind.u32 0, Value.int IntKind.u32 0, Value.int IntKind.u32 0, Value.int IntKind.u16 0, Value.int IntKind.u16 0]) from below_setRow (RB3.out.alloc RB3.out.size _) RB3.out.size _)
      go_wp2_with (first | (refine wpList_store_row rfl 38 _ _ rfl w3.heap.size #[Value.int IntKind.u32 0, Value.int IntKind.u32 0, Value.int IntKind.u32 0, Value.int IntKind.u32 0, Value.int IntKind.u32 0, Value.int IntKind.u32 0, Value.int IntKind.u32 0, Value.bool false, Value.int IntKind.i64 0, Value.int IntKind.u32 0, Value.int IntKind.u32 0, Value.int IntKind.u32 0, Value.int IntKind.u16 0, Value.int IntKind.u16 0, Value.bool false, Value.int IntKind.i64 0, Value.int IntKind.u32 0, Value.int IntKind.u32 0, Value.int IntKind.u32 0, Value.int IntKind.u16 0, Value.int IntKind.u16 0] rfl rfl 38 VS.zero.c HZ3.out HIZ.out rfl HOZ.out ?_) | (refine load_rowW rfl 38 _ rfl bx rfl 38 c (0, 0) _ RX4.out Try.underlying38 rfl HIC.out ?_))
      generalize hbz : w3.heap.size = bz at RZ4
      rw [hbz] at RX4 RB4
      generalize (w3.alloc (.cells #[Value.int IntKind.u32 0, Value.int IntKind.u32 0, Value.int IntKind.u32 0, Value.int IntKind.u32 0, Value.int IntKind.u32 0, Value.int IntKind.u32 0, Value.int IntKind.u32 0, Value.bool false, Value.int IntKind.i64 0, Value.int IntKind.u32 0, Value.int IntKind.u32 0, Value.int IntKind.u32 0, Value.int IntKind.u16 0, Value.int IntKind.u16 0, Value.bool false, Value.int IntKind.i64 0, Value.int IntKind.u32 0, Value.int IntKind.u32 0, Value.int IntKind.u32 0, Value.int IntKind.u16 0, Value.int IntKind.u16 0] 38)).setRow bz #[Value.int IntKind.u32 0, Value.int IntKind.u32 0, Value.int IntKind.u32 0, Value.int IntKind.u32 0, Value.int IntKind.u32 0, Value.int IntKind.u32 0, Value.int IntKind.u32 0, Value.bool false, Value.int IntKind.i64 0, Value.int IntKind.u32 0, Value.int IntKind.u32 0, Value.int IntKind.u32 0, Value.int IntKind.u16 0, Value.int IntKind.u16 0, Value.bool false, Value.int IntKind.i64 0, Value.int IntKind.u32 0, Value.int IntKind.u32 0, Value.int IntKind.u32 0, Value.int IntKind.u16 0, Value.int IntKind.u16 0] = w4 at RX4 RZ4 RB4 ⊢
      clear RX3 RB3 HZ3 hbz hbx3
      have hq1 := arr2_zero
      have hq2 := arr_q_eq
      refine (HF.out _).mono ?_
      rintro e w5 ⟨rfl, hb⟩
      have RZ5 := Lib.hid (below_cells RZ4.out hb)
      have RB5 := Lib.hid (RB4.out.trans (hb.mono RB4.out.size))
      have hbz5 : bz < w5.heap.size := (Array.getElem?_eq_some_iff.1 RZ5.out).1
      clear hb RX4 RZ4 RB4
      have HZ5 := Lib.hid (show (w5.alloc (.cells VS.zero.c 38)).heap[w5.heap.size]? = some (.cells VS.zero.c 38 (0, 0)) from heap_alloc_new _ _)
      have RZ6 := Lib.hid (show ((w5.alloc (.cells #[Value.int IntKind.u32 0, Value.int IntKind.u32 0, Value.int IntKind.u32 0, Value.int IntKind.u32 0, Value.int IntKind.u32 0, Value.int IntKind.u32 0, Value.int IntKind.u32 0, Value.bool false, Value.int IntKind.i64 0, Value.int IntKind.u32 0, Value.int IntKind.u32 0, Value.int IntKind.u32 0, Value.int IntKind.u16 0, Value.int IntKind.u16 0, Value.bool false, Value.int IntKind.i64 0, Value.int IntKind.u32 0, Value.int IntKind.u32 0, Value.int IntKind.u32 0, Value.int IntKind.u16 0, Value.int IntKind.u16 0] 38)).setRow w5.heap.size f).heap[bz]? = some (.cells #[Value.int IntKind.u32 0, Value.int IntKind.u32 0, Value.int IntKind.u32 0, Value.int IntKind.u32 0, Value.int IntKind.u32 0, Value.int IntKind.u32 0, Value.int IntKind.u32 0, Value.bool false, Value.int IntKind.i64 0, Value.int IntKind.u32 0, Value.int IntKind.u32 0, Value.int IntKind.u32 0, Value.int IntKind.u16 0, Value.int IntKind.u16 0, Value.bool false, Value.int IntKind.i64 0, Value.int IntKind.u32 0, Value.int IntKind.u32 0, Value.int IntKind.u32 0, Value.int IntKind.u16 0, Value.int IntKind.u16 0] 38 (0, 0)) from (row_keep (by omega)).trans (heap_alloc_keep RZ5.out))
      have RF6 := Lib.hid (show ((w5.alloc (.cells #[Value.int IntKind.u32 0, Value.int IntKind.u32 0, Value.int IntKind.u32 0, Value.int IntKind.u32 0, Value.int IntKind.u32 0, Value.int IntKind.u32 0, Value.int IntKind.u32 0, Value.bool false, Value.int IntKind.i64 0, Value.int IntKind.u32 0, Value.int IntKind.u32 0, Value.int IntKind.u32 0, Value.int IntKind.u16 0, Value.int IntKind.u16 0, Value.bool false, Value.int IntKind.i64 0, Value.int IntKind.u32 0, Value.int IntKind.u32 0, Value.int IntKind.u32 0, Value.int IntKind.u16 0, Value.int IntKind.u16 0] 38)).setRow w5.heap.size f).heap[w5.heap.size]? = some (.cells f 38 (0, 0)) from setRow_heap _ _ _ _ _ _ HZ5.out)
      have RB6 := Lib.hid (show Below w.heap.size w ((w5.alloc (.cells #[Value.int IntKind.u32 0, Value.int IntKind.u32 0, Value.int IntKind.u32 0, Value.int IntKind.u32 0, Value.int IntKind.u32 0, Value.int IntKind.u32 0, Value.int IntKind.u32 0, Value.bool false, Value.int IntKind.i64 0, Value.int IntKind.u32 0, Value.int IntKind.u32 0, Value.int IntKind.u32 0, Value.int IntKind.u16 0, Value.int IntKind.u16 0, Value.bool false, Value.int IntKind.i64 0, Value.int IntKind.u32 0, Value.int IntKind.u32 0, Value.int IntKind.u32 0, Value.int IntKind.u16 0, Value.int IntKind.u16 0] 38)).setRow w5.heap.size f) from below_setRow (RB5.out.alloc RB5.out.size _) RB5.out.size _)
      go_wp2_with (first | go_skip | (refine wpList_store_row rfl 38 _ _ rfl w5.heap.size f rfl rfl 38 VS.zero.c HZ5.out HIF.out HZF.out HOF.out ?_) | (refine load_rowW rfl 38 _ rfl bz rfl 38 #[Value.int IntKind.u32 0, Value.int IntKind.u32 0, Value.int IntKind.u32 0, Value.int IntKind.u32 0, Value.int IntKind.u32 0, Value.int IntKind.u32 0, Value.int IntKind.u32 0, Value.bool false, Value.int IntKind.i64 0, Value.int IntKind.u32 0, Value.int IntKind.u32 0, Value.int IntKind.u32 0, Value.int IntKind.u16 0, Value.int IntKind.u16 0, Value.bool false, Value.int IntKind.i64 0, Value.int IntKind.u32 0, Value.int IntKind.u32 0, Value.int IntKind.u32 0, Value.int IntKind.u16 0, Value.int IntKind.u16 0] (0, 0) _ RZ6.out Try.underlying38 rfl HIZ.out ?_) | (refine load_rowW rfl 38 _ rfl w5.heap.size rfl 38 f (0, 0) _ RF6.out Try.underlying38 rfl HIF.out ?_))
      generalize hbf : w5.heap.size = bf at RF6
      rw [hbf] at RZ6 RB6
      generalize (w5.alloc (.cells #[Value.int IntKind.u32 0, Value.int IntKind.u32 0, Value.int IntKind.u32 0, Value.int IntKind.u32 0, Value.int IntKind.u32 0, Value.int IntKind.u32 0, Value.int IntKind.u32 0, Value.bool false, Value.int IntKind.i64 0, Value.int IntKind.u32 0, Value.int IntKind.u32 0, Value.int IntKind.u32 0, Value.int IntKind.u16 0, Value.int IntKind.u16 0, Value.bool false, Value.int IntKind.i64 0, Value.int IntKind.u32 0, Value.int IntKind.u32 0, Value.int IntKind.u32 0, Value.int IntKind.u16 0, Value.int IntKind.u16 0] 38)).setRow bf f = w6 at RZ6 RF6 RB6 ⊢
      clear RZ5 RB5 HZ5 hbf hbz5
      refine (HC.out _).mono ?_
      rintro e w7 ⟨rfl, hb⟩
      have RF7 := Lib.hid (below_cells RF6.out hb)
      have RB7 := Lib.hid (RB6.out.trans (hb.mono RB6.out.size))
      clear hb RZ6 RF6 RB6
      go_wp2_with (first | go_skip | (refine load_rowW ?hw 38 _ rfl bf rfl 38 f (0, 0) _ RF7.out Try.underlying38 rfl HIF.out ?_; case hw => kernel_rfl))
      refine (HV.out _).mono ?_
      rintro e w8 ⟨rfl, hb⟩
      have RB8 := Lib.hid (RB7.out.trans (hb.mono RB7.out.size))
      clear hb RF7 RB7
      go_wp2_with fail
      refine (HS.out _).mono ?_
      rintro e w9 ⟨rfl, hb⟩
      go_wp2_with fail
      go_ret
      exact ⟨rfl, RB8.out.trans (hb.mono RB8.out.size)⟩

theorem law14_VirtioHolds (s : VS) (hs : s.wf) (p : Option Addr) (n cap : Nat) (w : World) (HL : PairsAt w p n) :
    Calls Try.prog 3 #[s.v, .slice p n cap] w fun e w' => e = .returned (.bool true) ∧ Below w.heap.size w w' := by
  have HG := Lib.hid (give_port s)
  have HS := Lib.hid law14_sure
  have HC := Lib.hid (vs_Check s hs.hst)
  by_cases hok : s.ok
  · rw [if_pos hok] at HC
    have HCN : Hid (∀ W, Calls Try.prog 6 #[.agg s.c] W fun e w' => e = .returned .nilIface ∧ Below W.heap.size W w') := HC
    exact holds_ok14 s s.c p n cap w (Lib.hid ⟨rfl, hok, hs⟩) rfl s.c_one HG HS HCN (Lib.hid HL)
  · rw [if_neg hok] at HC
    have HCE : Hid (∀ W, Calls Try.prog 6 #[.agg s.c] W fun e w' => e = .returned (.iface 51 (.int .i64 (1 : Nat))) ∧ Below W.heap.size W w') := HC
    exact holds_err s.c 1 _ w rfl s.c_one HG HS HCE

end Go.Proofs.Ytenafjdlaefepaa

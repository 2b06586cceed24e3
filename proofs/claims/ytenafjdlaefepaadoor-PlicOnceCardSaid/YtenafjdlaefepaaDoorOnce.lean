/-
pinnacelaw09.PlicOnce, walked: it answers true.
Condition: math/bits' table reads as its text lays it.
-/
import Derived.Test.YtenafjdlaefepaaDoorPlicCheck
import Derived.Test.YtenafjdlaefepaaDoorOpenActs
import Derived.Test.YtenafjdlaefepaaDoorPlicSure
import Derived.Deep.CutRange
namespace Go.Proofs.YtenafjdlaefepaaDoor
open Go.RowKit

theorem once_cells {a b : World} {g : Nat} {cs : Array Value} {t : TypeId} {f : Nat × Nat} (h : a.heap[g]? = some (.cells cs t f)) (hb : Below a.heap.size a b) : b.heap[g]? = some (.cells cs t f) :=
  (hb.block _ (by obtain ⟨h, _⟩ := Array.getElem?_eq_some_iff.1 h; exact h)).trans h
theorem once_keep {w : World} {g : Nat} {x o : Obj} (h : w.heap[g]? = some x) : (w.alloc o).heap[g]? = some x :=
  (heap_alloc_old w o (Array.getElem?_eq_some_iff.1 h).1).trans h
theorem once_row {w : World} {b b' : Nat} {cs : Array Value} (h : b' ≠ b) : (w.setRow b cs).heap[b']? = w.heap[b']? := by
  simp only [World.setRow, Array.getElem?_modify]
  rw [if_neg (fun e => h e.symm)]
def boolRow (f : Nat → Bool) : Array Value := #[.bool (f 0), .bool (f 1), .bool (f 2), .bool (f 3), .bool (f 4), .bool (f 5), .bool (f 6), .bool (f 7)]
theorem boolRow_get (f : Nat → Bool) {n : Nat} (h : n < 8) : (boolRow f)[n]? = some (.bool (f n)) := by
  have : n = 0 ∨ n = 1 ∨ n = 2 ∨ n = 3 ∨ n = 4 ∨ n = 5 ∨ n = 6 ∨ n = 7 := by omega
  rcases this with rfl | rfl | rfl | rfl | rfl | rfl | rfl | rfl <;> rfl
theorem kind_nat (K : Int) : ∃ q : Nat, q < 6 ∧ wrap64 ((IntKind.u64.wrap K).tmod 6) = (q : Int) := by
  have h0 : 0 ≤ IntKind.u64.wrap K := by simp only [IntKind.wrap, IntKind.signed, IntKind.bits]; simp; omega
  have h1 : (IntKind.u64.wrap K).tmod 6 = IntKind.u64.wrap K % 6 := Int.tmod_eq_emod_of_nonneg h0
  rw [h1]
  generalize IntKind.u64.wrap K = x at h0
  refine ⟨(x % 6).toNat, by omega, ?_⟩
  have h2 : wrap64 (x % 6) = x % 6 := by unfold wrap64; omega
  rw [h2]
  omega
theorem askK_one (sv ak : Nat → Bool) (v : Nat) : askK sv ak v 1 = ak := by
  funext i; unfold askK; rw [if_neg (by omega)]
theorem askK_step (sv ak : Nat → Bool) (v m : Nat) (h1 : 1 ≤ m) : upd (askK sv ak v m) m (ak m || (v.testBit m && !sv m)) = askK sv ak v (m + 1) := by
  funext i
  unfold upd askK
  by_cases hi : i = m
  · subst hi; rw [if_pos rfl, if_pos (by omega)]
  · rw [if_neg hi]
    by_cases h : 1 ≤ i ∧ i < m
    · rw [if_pos h, if_pos (by omega)]
    · rw [if_neg h, if_neg (by omega)]
theorem boolRow_set (f : Nat → Bool) (b : Bool) {n : Nat} (h : n < 8) : (boolRow f).setIfInBounds n (.bool b) = boolRow (upd f n b) := by
  have : n = 0 ∨ n = 1 ∨ n = 2 ∨ n = 3 ∨ n = 4 ∨ n = 5 ∨ n = 6 ∨ n = 7 := by omega
  rcases this with rfl | rfl | rfl | rfl | rfl | rfl | rfl | rfl <;> rfl


set_option maxRecDepth 100000 in
set_option maxHeartbeats 40000000 in
theorem once_err (c : Array Value) (p : Option Addr) (n cap : Nat) (w : World) (hcz : c.size = 12) (hone : c.all (·.oneCell') = true)
    (HS : Hid (∀ W, Tab32 W → Calls Tryd.prog 15 #[] W fun e w' => e = .returned (.bool true) ∧ Below W.heap.size W w')) (HT : Hid (Tab32 w))
    (HC : Hid (∀ W, Calls Tryd.prog 17 #[.agg c] W fun e w' => e = .returned (.iface 116 (.int .i64 1)) ∧ Below W.heap.size W w')) :
    Calls Tryd.prog 5 #[.agg c, .slice p n cap] w fun e w' => e = .returned (.bool true) ∧ Below w.heap.size w w' := by
  have HIC := Lib.hid (show (Tryd.prog.info? 26).map (·.size) = some c.size by rw [hcz]; kernel_rfl)
  have HIR := Lib.hid (show (Tryd.prog.info? 25).map (·.size) = some c.size by rw [hcz]; kernel_rfl)
  have HZC : Hid (PS.zero.c.size = c.size) := Lib.hid (by rw [hcz]; rfl)
  have HOC := Lib.hid hone
  have H0 := Lib.hid (show (w.alloc (.cells c 25)).heap[w.heap.size]? = some (.cells c 25 (0, 0)) from heap_alloc_new _ _)
  have HZ1 := Lib.hid (show ((w.alloc (.cells c 25)).alloc (.cells PS.zero.c 26)).heap[w.heap.size + 1]? = some (.cells PS.zero.c 26 (0, 0)) from heap_alloc2_new _ _ _)
  have HX1 := Lib.hid (show (((w.alloc (.cells c 25)).alloc (.cells #[Value.int IntKind.u32 0, Value.int IntKind.u32 0, Value.int IntKind.u32 0, Value.int IntKind.u32 0, Value.int IntKind.u32 0, Value.int IntKind.u32 0, Value.int IntKind.u32 0, Value.int IntKind.u32 0, Value.int IntKind.u32 0, Value.int IntKind.u32 0, Value.int IntKind.u32 0, Value.int IntKind.u32 0] 26)).setRow (w.heap.size + 1) c).heap[w.heap.size + 1]? = some (.cells c 26 (0, 0)) from setRow_heap _ _ _ _ _ _ HZ1.out)
  have HBX := Lib.hid (show Below w.heap.size w (((w.alloc (.cells c 25)).alloc (.cells #[Value.int IntKind.u32 0, Value.int IntKind.u32 0, Value.int IntKind.u32 0, Value.int IntKind.u32 0, Value.int IntKind.u32 0, Value.int IntKind.u32 0, Value.int IntKind.u32 0, Value.int IntKind.u32 0, Value.int IntKind.u32 0, Value.int IntKind.u32 0, Value.int IntKind.u32 0, Value.int IntKind.u32 0] 26)).setRow (w.heap.size + 1) c) from below_setRow (((Below.refl w.heap.size w).alloc (Nat.le_refl _) _).alloc (by simp) _) (by omega) _)
  clear hone
  go_enter Tryd.func5, Tryd.ntmps5
  go_wp2_with (first | (refine wpList_load_row rfl 25 _ rfl w.heap.size rfl 25 c (0, 0) _ H0.out Tryd.underlying25 rfl HIR.out ?_) | (refine wpList_store_row rfl 26 _ _ rfl (w.heap.size + 1) c rfl rfl 26 PS.zero.c HZ1.out HIC.out HZC.out HOC.out ?_) | (refine wpList_load_row rfl 26 _ rfl (w.heap.size + 1) rfl 26 c (0, 0) _ HX1.out Tryd.underlying26 rfl HIC.out ?_))
  generalize hbx : w.heap.size + 1 = bx at HX1 HBX ⊢
  have hbx2 : w.heap.size < bx := by omega
  generalize ((w.alloc (.cells c 25)).alloc (.cells #[Value.int IntKind.u32 0, Value.int IntKind.u32 0, Value.int IntKind.u32 0, Value.int IntKind.u32 0, Value.int IntKind.u32 0, Value.int IntKind.u32 0, Value.int IntKind.u32 0, Value.int IntKind.u32 0, Value.int IntKind.u32 0, Value.int IntKind.u32 0, Value.int IntKind.u32 0, Value.int IntKind.u32 0] 26)).setRow bx c = w2 at HX1 HBX ⊢
  clear HZ1 H0 hbx HIR HZC
  refine (HC.out _).mono ?_
  rintro e w3 ⟨rfl, hb⟩
  have HX3 := Lib.hid (once_cells HX1.out hb)
  have HB3 := Lib.hid (HBX.out.trans (hb.mono HBX.out.size))
  clear hb HX1 HBX
  go_wp2_with fail
  refine (HS.out _ (HT.out.below HB3.out)).mono ?_
  rintro e w9 ⟨rfl, hb9⟩
  go_wp2_with fail
  go_ret
  exact ⟨rfl, HB3.out.trans (hb9.mono HB3.out.size)⟩

set_option maxRecDepth 100000 in
set_option maxHeartbeats 40000000 in
theorem once_ok (s0 : PS) (c : Array Value) (p : Option Addr) (n cap : Nat) (w : World) (H00 : Hid (c = s0.c ∧ s0.okc ∧ s0.wf)) (hcz : c.size = 12) (hone : c.all (·.oneCell') = true)
    (HS : Hid (∀ W, Tab32 W → Calls Tryd.prog 15 #[] W fun e w' => e = .returned (.bool true) ∧ Below W.heap.size W w')) (HT : Hid (Tab32 w))
    (HC : Hid (∀ W, Calls Tryd.prog 17 #[.agg c] W fun e w' => e = .returned (.nilIface) ∧ Below W.heap.size W w'))
    (HL : Hid (ActsAt w p n)) :
    Calls Tryd.prog 5 #[.agg c, .slice p n cap] w fun e w' => e = .returned (.bool true) ∧ Below w.heap.size w w' := by
  have HIC := Lib.hid (show (Tryd.prog.info? 26).map (·.size) = some c.size by rw [hcz]; kernel_rfl)
  have HIR := Lib.hid (show (Tryd.prog.info? 25).map (·.size) = some c.size by rw [hcz]; kernel_rfl)
  have HZC : Hid (PS.zero.c.size = c.size) := Lib.hid (by rw [hcz]; rfl)
  have HOC := Lib.hid hone
  have H0 := Lib.hid (show (w.alloc (.cells c 25)).heap[w.heap.size]? = some (.cells c 25 (0, 0)) from heap_alloc_new _ _)
  have HZ1 := Lib.hid (show ((w.alloc (.cells c 25)).alloc (.cells PS.zero.c 26)).heap[w.heap.size + 1]? = some (.cells PS.zero.c 26 (0, 0)) from heap_alloc2_new _ _ _)
  have HX1 := Lib.hid (show (((w.alloc (.cells c 25)).alloc (.cells #[Value.int IntKind.u32 0, Value.int IntKind.u32 0, Value.int IntKind.u32 0, Value.int IntKind.u32 0, Value.int IntKind.u32 0, Value.int IntKind.u32 0, Value.int IntKind.u32 0, Value.int IntKind.u32 0, Value.int IntKind.u32 0, Value.int IntKind.u32 0, Value.int IntKind.u32 0, Value.int IntKind.u32 0] 26)).setRow (w.heap.size + 1) c).heap[w.heap.size + 1]? = some (.cells c 26 (0, 0)) from setRow_heap _ _ _ _ _ _ HZ1.out)
  have HBX := Lib.hid (show Below w.heap.size w (((w.alloc (.cells c 25)).alloc (.cells #[Value.int IntKind.u32 0, Value.int IntKind.u32 0, Value.int IntKind.u32 0, Value.int IntKind.u32 0, Value.int IntKind.u32 0, Value.int IntKind.u32 0, Value.int IntKind.u32 0, Value.int IntKind.u32 0, Value.int IntKind.u32 0, Value.int IntKind.u32 0, Value.int IntKind.u32 0, Value.int IntKind.u32 0] 26)).setRow (w.heap.size + 1) c) from below_setRow (((Below.refl w.heap.size w).alloc (Nat.le_refl _) _).alloc (by simp) _) (by omega) _)
  clear hone
  go_enter Tryd.func5, Tryd.ntmps5
  go_wp2_with (first | (refine wpList_load_row rfl 25 _ rfl w.heap.size rfl 25 c (0, 0) _ H0.out Tryd.underlying25 rfl HIR.out ?_) | (refine wpList_store_row rfl 26 _ _ rfl (w.heap.size + 1) c rfl rfl 26 PS.zero.c HZ1.out HIC.out HZC.out HOC.out ?_) | (refine wpList_load_row rfl 26 _ rfl (w.heap.size + 1) rfl 26 c (0, 0) _ HX1.out Tryd.underlying26 rfl HIC.out ?_))
  generalize hbx : w.heap.size + 1 = bx at HX1 HBX ⊢
  have hbx2 : w.heap.size < bx := by omega
  generalize ((w.alloc (.cells c 25)).alloc (.cells #[Value.int IntKind.u32 0, Value.int IntKind.u32 0, Value.int IntKind.u32 0, Value.int IntKind.u32 0, Value.int IntKind.u32 0, Value.int IntKind.u32 0, Value.int IntKind.u32 0, Value.int IntKind.u32 0, Value.int IntKind.u32 0, Value.int IntKind.u32 0, Value.int IntKind.u32 0, Value.int IntKind.u32 0] 26)).setRow bx c = w2 at HX1 HBX ⊢
  clear HZ1 H0 hbx HIR HZC
  refine (HC.out _).mono ?_
  rintro e w3 ⟨rfl, hb⟩
  have HX3 := Lib.hid (once_cells HX1.out hb)
  have HB3 := Lib.hid (HBX.out.trans (hb.mono HBX.out.size))
  clear hb HX1 HBX
  have hf10 := frozen_of_row _ _ 10 _ _ HX3.out
  have hf11 := frozen_of_row _ _ 11 _ _ HX3.out
  have hk10 : w3.cell? ⟨bx, 10, none⟩ = some (.int .u32 s0.pe) := (cell_of_row _ _ 10 _ _ _ HX3.out).trans (by rw [H00.out.1]; rfl)
  have hk11 : w3.cell? ⟨bx, 11, none⟩ = some (.int .u32 s0.bu) := (cell_of_row _ _ 11 _ _ _ HX3.out).trans (by rw [H00.out.1]; rfl)
  have hbx3 : bx < w3.heap.size := (Array.getElem?_eq_some_iff.1 HX3.out).1
  have hsz3 : ((w3.setCell ⟨bx, 10, none⟩ (.int .u32 0)).setCell ⟨bx, 11, none⟩ (.int .u32 0)).heap.size = w3.heap.size := by simp [World.setCell]
  have HX4 := Lib.hid (show ((((w3.setCell ⟨bx, 10, none⟩ (.int .u32 0)).setCell ⟨bx, 11, none⟩ (.int .u32 0)).alloc (.cells #[Value.bool false, Value.bool false, Value.bool false, Value.bool false, Value.bool false, Value.bool false, Value.bool false, Value.bool false] 37)).alloc (.cells #[Value.bool false, Value.bool false, Value.bool false, Value.bool false, Value.bool false, Value.bool false, Value.bool false, Value.bool false] 37)).heap[bx]? = some (.cells (({ s0 with pe := 0, bu := 0 } : PS).c) 26 (0, 0)) from once_keep (once_keep (by
    have h1 := heap_setCell_same _ _ 11 _ _ (.int .u32 0) (heap_setCell_same _ _ 10 _ _ (.int .u32 0) HX3.out)
    rw [h1, H00.out.1]; rfl)))
  have HS4 := Lib.hid (show ((((w3.setCell ⟨bx, 10, none⟩ (.int .u32 0)).setCell ⟨bx, 11, none⟩ (.int .u32 0)).alloc (.cells #[Value.bool false, Value.bool false, Value.bool false, Value.bool false, Value.bool false, Value.bool false, Value.bool false, Value.bool false] 37)).alloc (.cells #[Value.bool false, Value.bool false, Value.bool false, Value.bool false, Value.bool false, Value.bool false, Value.bool false, Value.bool false] 37)).heap[w3.heap.size]? = some (.cells (boolRow fun _ => false) 37 (0, 0)) from once_keep (by rw [← hsz3]; exact heap_alloc_new _ _))
  have HA4 := Lib.hid (show ((((w3.setCell ⟨bx, 10, none⟩ (.int .u32 0)).setCell ⟨bx, 11, none⟩ (.int .u32 0)).alloc (.cells #[Value.bool false, Value.bool false, Value.bool false, Value.bool false, Value.bool false, Value.bool false, Value.bool false, Value.bool false] 37)).alloc (.cells #[Value.bool false, Value.bool false, Value.bool false, Value.bool false, Value.bool false, Value.bool false, Value.bool false, Value.bool false] 37)).heap[w3.heap.size + 1]? = some (.cells (boolRow fun _ => false) 37 (0, 0)) from by
    have := heap_alloc2_new ((w3.setCell ⟨bx, 10, none⟩ (.int .u32 0)).setCell ⟨bx, 11, none⟩ (.int .u32 0)) (.cells #[Value.bool false, Value.bool false, Value.bool false, Value.bool false, Value.bool false, Value.bool false, Value.bool false, Value.bool false] 37) (.cells #[Value.bool false, Value.bool false, Value.bool false, Value.bool false, Value.bool false, Value.bool false, Value.bool false, Value.bool false] 37)
    rw [hsz3] at this; exact this)
  have HB4 := Lib.hid (show Below w.heap.size w ((((w3.setCell ⟨bx, 10, none⟩ (.int .u32 0)).setCell ⟨bx, 11, none⟩ (.int .u32 0)).alloc (.cells #[Value.bool false, Value.bool false, Value.bool false, Value.bool false, Value.bool false, Value.bool false, Value.bool false, Value.bool false] 37)).alloc (.cells #[Value.bool false, Value.bool false, Value.bool false, Value.bool false, Value.bool false, Value.bool false, Value.bool false, Value.bool false] 37)) from ((((HB3.out.setCell (p := ⟨bx, 10, none⟩) (Nat.le_of_lt hbx2) _).setCell (p := ⟨bx, 11, none⟩) (Nat.le_of_lt hbx2) _).alloc (by rw [hsz3]; omega) _).alloc (by simp [World.setCell]; omega) _))
  have hbs2 : bx < w3.heap.size := hbx3
  go_wp2_with fail
  generalize ((((w3.setCell ⟨bx, 10, none⟩ (.int .u32 0)).setCell ⟨bx, 11, none⟩ (.int .u32 0)).alloc (.cells #[Value.bool false, Value.bool false, Value.bool false, Value.bool false, Value.bool false, Value.bool false, Value.bool false, Value.bool false] 37)).alloc (.cells #[Value.bool false, Value.bool false, Value.bool false, Value.bool false, Value.bool false, Value.bool false, Value.bool false, Value.bool false] 37)) = w4 at HX4 HS4 HA4 HB4 ⊢
  generalize w3.heap.size = bs at HS4 HA4 hbs2 ⊢
  clear hf10 hf11 hk10 hk11 hbx3 hsz3 HX3 HB3
  go_loopw [8] (fun i wr => ∃ (k : Nat) (st : PS) (sv ak : Nat → Bool), k ≤ n ∧ i = .int .i64 k ∧ OnceI st sv ak ∧ wr.heap[bx]? = some (.cells st.c 26 (0, 0)) ∧ wr.heap[bs]? = some (.cells (boolRow sv) 37 (0, 0)) ∧ wr.heap[bs + 1]? = some (.cells (boolRow ak) 37 (0, 0)) ∧ Below w.heap.size w wr) (fun i _ => n - (intOf i).toNat)
  case atStart => exact ⟨0, _, _, _, by omega, rfl, once_start s0 H00.out.2.1 H00.out.2.2, HX4.out, HS4.out, HA4.out, HB4.out⟩
  case round =>
    obtain ⟨k, st, sv, ak, hkn, rfl, hI, rx, rs, ra, rb⟩ := hrel
    have RX := Lib.hid rx
    have RS := Lib.hid rs
    have RA := Lib.hid ra
    have RB := Lib.hid rb
    have HI := Lib.hid hI
    clear rx rs ra rb hI HX4 HS4 HA4 HB4 HIC HOC H00 hcz
    by_cases hk1 : k < n
    · by_cases hk2 : k < 60
      · obtain ⟨b, o, K, A, V, rfl, hK1, hK2, hA, hV, hcell⟩ := HL.out k hk1
        obtain ⟨c0, c1, c2⟩ := hcell wr RB.out
        have hk0 : (0 : Int) ≤ ↑k := by omega
        have hk5' : (↑k : Int) < ↑n := by omega
        clear hcell
        obtain ⟨q, hq6, hq⟩ := kind_nat K
        have HQ := Lib.hid hq
        clear hq
        go_upto_if 71 with fail
        rw [HQ.out]
        have hb9 : bs + 1 < wr.heap.size := (Array.getElem?_eq_some_iff.1 RA.out).1
        have RX5 := Lib.hid (once_keep (o := .cells #[.int .i64 K, .int .u32 A, .int .u32 V] 39) RX.out)
        have RS5 := Lib.hid (once_keep (o := .cells #[.int .i64 K, .int .u32 A, .int .u32 V] 39) RS.out)
        have RA5 := Lib.hid (once_keep (o := .cells #[.int .i64 K, .int .u32 A, .int .u32 V] 39) RA.out)
        have RT5 := Lib.hid (heap_alloc_new wr (.cells #[.int .i64 K, .int .u32 A, .int .u32 V] 39))
        have RB5 := Lib.hid (RB.out.alloc RB.out.size (.cells #[.int .i64 K, .int .u32 A, .int .u32 V] 39))
        generalize wr.alloc (.cells #[.int .i64 K, .int .u32 A, .int .u32 V] 39) = w5 at RX5 RS5 RA5 RT5 RB5 ⊢
        generalize wr.heap.size = b9 at RT5 hb9 ⊢
        clear RX RS RA RB hkn hk1
        have hst := HI.out.wf
        have hid : (Tryd.prog.info? 26).map (·.size) = some st.c.size := by kernel_rfl
        have HID := Lib.hid hid
        clear hid
        have hq := hq6
        rcases (by omega : (q = 2 ∨ q = 3) ∨ q = 4 ∨ q = 5 ∨ (q = 0 ∨ q = 1)) with hq2 | rfl | rfl | hq01
        · rcases hq2 with rfl | rfl
          · have hm7 := best_le7 st
            have hcl := plic_claim st hst
            obtain ⟨m, hm⟩ : ∃ m, m = st.best := ⟨_, rfl⟩
            obtain ⟨st2, hst2⟩ : ∃ st2, st2 = st.claim := ⟨_, rfl⟩
            have HI0 : Hid (m = 0 → OnceI st2 sv ak) := Lib.hid (fun h => by rw [hst2, claim_zero st (hm.symm.trans h)]; exact HI.out)
            have HI1 : Hid (m ≠ 0 → sv m = false ∧ ak m = true ∧ st2.th < st2.pri m ∧ OnceI st2 (upd sv m true) (upd ak m false)) := Lib.hid (fun h => by rw [hst2, hm]; exact once_claim st sv ak HI.out (by rw [← hm]; exact h))
            rw [← hm] at hcl hm7
            rw [← hst2] at hcl
            have HR : Hid (∀ W, Tab32 W → Calls Tryd.prog 18 #[.agg st.c, .int .u32 2097156] W fun e w' => e = .returned (.tuple #[.agg st2.c, .int .u32 (m : Nat), .nilIface]) ∧ Below W.heap.size W w') := Lib.hid hcl
            clear hcl hm hst2
            go_wp2_with (first | (refine wpList_load_row rfl 26 _ rfl bx rfl 26 st.c (0, 0) _ RX5.out Tryd.underlying26 rfl HID.out ?_))
            refine (HR.out _ (HT.out.below RB5.out)).mono ?_
            rintro e w6 ⟨rfl, hb⟩
            have RX6 := Lib.hid (once_cells RX5.out hb)
            have RS6 := Lib.hid (once_cells RS5.out hb)
            have RA6 := Lib.hid (once_cells RA5.out hb)
            have RT6 := Lib.hid (once_cells RT5.out hb)
            have RB6 := Lib.hid (RB5.out.trans (hb.mono RB5.out.size))
            clear hb
            have HZ7 := Lib.hid (heap_alloc_new w6 (.cells PS.zero.c 26))
            have hlt7 : bs + 1 < w6.heap.size := (Array.getElem?_eq_some_iff.1 RA6.out).1
            have hlu7 : b9 < w6.heap.size := (Array.getElem?_eq_some_iff.1 RT6.out).1
            have RX7 := Lib.hid (show ((w6.alloc (.cells #[Value.int IntKind.u32 0, Value.int IntKind.u32 0, Value.int IntKind.u32 0, Value.int IntKind.u32 0, Value.int IntKind.u32 0, Value.int IntKind.u32 0, Value.int IntKind.u32 0, Value.int IntKind.u32 0, Value.int IntKind.u32 0, Value.int IntKind.u32 0, Value.int IntKind.u32 0, Value.int IntKind.u32 0] 26)).setRow w6.heap.size st2.c).heap[bx]? = some (.cells st.c 26 (0, 0)) from (once_row (by omega)).trans (once_keep RX6.out))
            have RS7 := Lib.hid (show ((w6.alloc (.cells #[Value.int IntKind.u32 0, Value.int IntKind.u32 0, Value.int IntKind.u32 0, Value.int IntKind.u32 0, Value.int IntKind.u32 0, Value.int IntKind.u32 0, Value.int IntKind.u32 0, Value.int IntKind.u32 0, Value.int IntKind.u32 0, Value.int IntKind.u32 0, Value.int IntKind.u32 0, Value.int IntKind.u32 0] 26)).setRow w6.heap.size st2.c).heap[bs]? = some (.cells (boolRow sv) 37 (0, 0)) from (once_row (by omega)).trans (once_keep RS6.out))
            have RA7 := Lib.hid (show ((w6.alloc (.cells #[Value.int IntKind.u32 0, Value.int IntKind.u32 0, Value.int IntKind.u32 0, Value.int IntKind.u32 0, Value.int IntKind.u32 0, Value.int IntKind.u32 0, Value.int IntKind.u32 0, Value.int IntKind.u32 0, Value.int IntKind.u32 0, Value.int IntKind.u32 0, Value.int IntKind.u32 0, Value.int IntKind.u32 0] 26)).setRow w6.heap.size st2.c).heap[bs + 1]? = some (.cells (boolRow ak) 37 (0, 0)) from (once_row (by omega)).trans (once_keep RA6.out))
            have RT7 := Lib.hid (show ((w6.alloc (.cells #[Value.int IntKind.u32 0, Value.int IntKind.u32 0, Value.int IntKind.u32 0, Value.int IntKind.u32 0, Value.int IntKind.u32 0, Value.int IntKind.u32 0, Value.int IntKind.u32 0, Value.int IntKind.u32 0, Value.int IntKind.u32 0, Value.int IntKind.u32 0, Value.int IntKind.u32 0, Value.int IntKind.u32 0] 26)).setRow w6.heap.size st2.c).heap[b9]? = some (.cells #[.int .i64 K, .int .u32 A, .int .u32 V] 39 (0, 0)) from (once_row (by omega)).trans (once_keep RT6.out))
            have RY7 := Lib.hid (show ((w6.alloc (.cells #[Value.int IntKind.u32 0, Value.int IntKind.u32 0, Value.int IntKind.u32 0, Value.int IntKind.u32 0, Value.int IntKind.u32 0, Value.int IntKind.u32 0, Value.int IntKind.u32 0, Value.int IntKind.u32 0, Value.int IntKind.u32 0, Value.int IntKind.u32 0, Value.int IntKind.u32 0, Value.int IntKind.u32 0] 26)).setRow w6.heap.size st2.c).heap[w6.heap.size]? = some (.cells st2.c 26 (0, 0)) from setRow_heap _ _ _ _ _ _ HZ7.out)
            have RB7 := Lib.hid (show Below w.heap.size w ((w6.alloc (.cells #[Value.int IntKind.u32 0, Value.int IntKind.u32 0, Value.int IntKind.u32 0, Value.int IntKind.u32 0, Value.int IntKind.u32 0, Value.int IntKind.u32 0, Value.int IntKind.u32 0, Value.int IntKind.u32 0, Value.int IntKind.u32 0, Value.int IntKind.u32 0, Value.int IntKind.u32 0, Value.int IntKind.u32 0] 26)).setRow w6.heap.size st2.c) from below_setRow (RB6.out.alloc RB6.out.size _) RB6.out.size _)
            go_upto_region 19 with (first | (refine wpList_store_row rfl 26 _ _ rfl w6.heap.size st2.c rfl rfl 26 PS.zero.c HZ7.out HID.out rfl (PS.c_one st2) ?_))
            generalize hbn7 : w6.heap.size = b10 at RX7 RS7 RA7 RT7 RY7 RB7 hlt7 hlu7 ⊢
            generalize ((w6.alloc (.cells #[Value.int IntKind.u32 0, Value.int IntKind.u32 0, Value.int IntKind.u32 0, Value.int IntKind.u32 0, Value.int IntKind.u32 0, Value.int IntKind.u32 0, Value.int IntKind.u32 0, Value.int IntKind.u32 0, Value.int IntKind.u32 0, Value.int IntKind.u32 0, Value.int IntKind.u32 0, Value.int IntKind.u32 0] 26)).setRow b10 st2.c) = w7 at RX7 RS7 RA7 RT7 RY7 RB7 ⊢
            clear HZ7 hbn7
            have h7 : ¬ (7 : Int) < (m : Int) := by omega
            have h7d : decide ((7 : Int) < (m : Int)) = false := by simp; omega
            by_cases hm0 : m = 0
            · have h0 : ¬ (0 : Int) < (m : Int) := by omega
              have h0d : decide ((0 : Int) < (m : Int)) = false := by simp; omega
              have h0n : decide (0 < m) = false := by simp; omega
              have HIZ := Lib.hid (HI0.out hm0)
              clear hm0
              go_wp2_with fail
              go_quiet (fail)
              go_upto_region 23 with fail
              have RX7 : Hid ((w7.drewN nq).heap[bx]? = _) := RX7
              have RY7 : Hid ((w7.drewN nq).heap[b10]? = _) := RY7
              have RS7 : Hid ((w7.drewN nq).heap[bs]? = _) := RS7
              have RA7 : Hid ((w7.drewN nq).heap[bs + 1]? = _) := RA7
              have RB7 := Lib.hid (below_drewN RB7.out nq)
              have RX8 := RX7
              have RY8 := RY7
              have RS8 := RS7
              have RA8 := RA7
              have RB8 := RB7
              generalize w7.drewN nq = w8 at RX8 RY8 RS8 RA8 RB8 ⊢
              have RX9 := Lib.hid (show (w8.setRow bx st2.c).heap[bx]? = some (.cells st2.c 26 (0, 0)) from setRow_heap _ _ _ _ _ _ RX8.out)
              have RS9 := Lib.hid (show (w8.setRow bx st2.c).heap[bs]? = _ from (once_row (by omega)).trans RS8.out)
              have RA9 := Lib.hid (show (w8.setRow bx st2.c).heap[bs + 1]? = _ from (once_row (by omega)).trans RA8.out)
              have RB9 := Lib.hid (show Below w.heap.size w (w8.setRow bx st2.c) from below_setRow RB8.out (by omega) _)
              have HCK : Hid (∀ W, Calls Tryd.prog 17 #[.agg st2.c] W fun e w' => e = .returned .nilIface ∧ Below W.heap.size W w') := Lib.hid (plic_Check_ok st2 (HIZ.out).wf (HIZ.out).ok)
              go_wp2_with (first | (refine wpList_load_row rfl 26 _ rfl b10 rfl 26 st2.c (0, 0) _ RY8.out Tryd.underlying26 rfl HID.out ?_) | (refine wpList_store_row rfl 26 _ _ rfl bx st2.c rfl rfl 26 st.c RX8.out HID.out rfl (PS.c_one st2) ?_) | (refine wpList_load_row rfl 26 _ rfl bx rfl 26 st2.c (0, 0) _ RX9.out Tryd.underlying26 rfl HID.out ?_))
              refine (HCK.out _).mono ?_
              rintro e w99 ⟨rfl, hb⟩
              go_wp2_with fail
              go_roundw
              case rel => exact ⟨k + 1, st2, sv, ak, by omega, by go_num, HIZ.out, once_cells RX9.out hb, once_cells RS9.out hb, once_cells RA9.out hb, RB9.out.trans (hb.mono RB9.out.size)⟩
              case measure => simp [intOf]; omega
            · have h0 : (0 : Int) < (m : Int) := by omega
              have h0d : decide ((0 : Int) < (m : Int)) = true := by simp; omega
              have h0n : decide (0 < m) = true := by simp; omega
              obtain ⟨hs1, hs2, hs3, hs4⟩ := HI1.out hm0
              have HIZ := Lib.hid hs4
              have hm8 : m < 8 := by omega
              have e7 : w7.cell? ⟨bs, m, none⟩ = some (.bool false) := (cell_of_row _ _ m _ _ _ RS7.out).trans ((boolRow_get sv hm8).trans (by rw [hs1]))
              have a7 : w7.cell? ⟨bs + 1, m, none⟩ = some (.bool true) := (cell_of_row _ _ m _ _ _ RA7.out).trans ((boolRow_get ak hm8).trans (by rw [hs2]))
              have p7 : w7.cell? ⟨b10, m, none⟩ = some (.int .u32 (st2.pri m : Nat)) := (cell_of_row _ _ m _ _ _ RY7.out).trans (PS.c_pri st2 m hm7)
              have q7 : w7.cell? ⟨b10, 9, none⟩ = some (.int .u32 (st2.th : Nat)) := (cell_of_row _ _ 9 _ _ _ RY7.out).trans rfl
              have hle : ¬ ((st2.pri m : Int) ≤ (st2.th : Int)) := by omega
              have hled : decide (st2.pri m ≤ st2.th) = false := by simp; omega
              have hm8i : (m : Int) < 8 := by omega
              have hm0i : (0 : Int) ≤ (m : Int) := by omega
              clear hm0 hs1 hs2 hs3 hs4
              go_wp2_with fail
              go_quiet (fail)
              go_upto_region 22 with fail
              have RXq : Hid ((w7.drewN nq).heap[bx]? = _) := RX7
              have RYq : Hid ((w7.drewN nq).heap[b10]? = _) := RY7
              have RSq : Hid ((w7.drewN nq).heap[bs]? = _) := RS7
              have RAq : Hid ((w7.drewN nq).heap[bs + 1]? = _) := RA7
              have RBq := Lib.hid (below_drewN RB7.out nq)
              generalize w7.drewN nq = wq at RXq RYq RSq RAq RBq ⊢
              clear e7 a7 p7 q7 hle hled RX7 RY7 RS7 RA7 RB7
              have eq1 : wq.cell? ⟨bs, m, none⟩ = some (.bool (sv m)) := (cell_of_row _ _ m _ _ _ RSq.out).trans (boolRow_get sv hm8)
              have eq2 : wq.cell? ⟨bs + 1, m, none⟩ = some (.bool (ak m)) := (cell_of_row _ _ m _ _ _ RAq.out).trans (boolRow_get ak hm8)
              have fq1 := frozen_of_row _ _ m _ _ RSq.out
              have fq2 := frozen_of_row _ _ m _ _ RAq.out
              have RXr := Lib.hid (show ((wq.setCell ⟨bs, m, none⟩ (.bool true)).setCell ⟨bs + 1, m, none⟩ (.bool false)).heap[bx]? = some (.cells st.c 26 (0, 0)) from (heap_setCell_other _ _ _ _ (by simp; omega)).trans ((heap_setCell_other _ _ _ _ (by simp; omega)).trans RXq.out))
              have RYr := Lib.hid (show ((wq.setCell ⟨bs, m, none⟩ (.bool true)).setCell ⟨bs + 1, m, none⟩ (.bool false)).heap[b10]? = some (.cells st2.c 26 (0, 0)) from (heap_setCell_other _ _ _ _ (by simp; omega)).trans ((heap_setCell_other _ _ _ _ (by simp; omega)).trans RYq.out))
              have RSr := Lib.hid (show ((wq.setCell ⟨bs, m, none⟩ (.bool true)).setCell ⟨bs + 1, m, none⟩ (.bool false)).heap[bs]? = some (.cells (boolRow (upd sv m true)) 37 (0, 0)) from (heap_setCell_other _ _ _ _ (by simp)).trans (by rw [← boolRow_set sv true hm8]; exact heap_setCell_same _ _ _ _ _ _ RSq.out))
              have RAr := Lib.hid (show ((wq.setCell ⟨bs, m, none⟩ (.bool true)).setCell ⟨bs + 1, m, none⟩ (.bool false)).heap[bs + 1]? = some (.cells (boolRow (upd ak m false)) 37 (0, 0)) from by rw [← boolRow_set ak false hm8]; exact heap_setCell_same _ _ _ _ _ _ ((heap_setCell_other _ _ _ _ (by simp)).trans RAq.out))
              have RBr := Lib.hid (show Below w.heap.size w ((wq.setCell ⟨bs, m, none⟩ (.bool true)).setCell ⟨bs + 1, m, none⟩ (.bool false)) from (RBq.out.setCell (p := ⟨bs, m, none⟩) (by show w.heap.size ≤ bs; omega) _).setCell (p := ⟨bs + 1, m, none⟩) (by show w.heap.size ≤ bs + 1; omega) _)
              go_upto_region 23 with fail
              clear eq1 eq2 fq1 fq2
              have RX8 := RXr
              have RY8 := RYr
              have RS8 := RSr
              have RA8 := RAr
              have RB8 := RBr
              generalize (wq.setCell ⟨bs, m, none⟩ (.bool true)).setCell ⟨bs + 1, m, none⟩ (.bool false) = w8 at RX8 RY8 RS8 RA8 RB8 ⊢
              have RX9 := Lib.hid (show (w8.setRow bx st2.c).heap[bx]? = some (.cells st2.c 26 (0, 0)) from setRow_heap _ _ _ _ _ _ RX8.out)
              have RS9 := Lib.hid (show (w8.setRow bx st2.c).heap[bs]? = _ from (once_row (by omega)).trans RS8.out)
              have RA9 := Lib.hid (show (w8.setRow bx st2.c).heap[bs + 1]? = _ from (once_row (by omega)).trans RA8.out)
              have RB9 := Lib.hid (show Below w.heap.size w (w8.setRow bx st2.c) from below_setRow RB8.out (by omega) _)
              have HCK : Hid (∀ W, Calls Tryd.prog 17 #[.agg st2.c] W fun e w' => e = .returned .nilIface ∧ Below W.heap.size W w') := Lib.hid (plic_Check_ok st2 (HIZ.out).wf (HIZ.out).ok)
              go_wp2_with (first | (refine wpList_load_row rfl 26 _ rfl b10 rfl 26 st2.c (0, 0) _ RY8.out Tryd.underlying26 rfl HID.out ?_) | (refine wpList_store_row rfl 26 _ _ rfl bx st2.c rfl rfl 26 st.c RX8.out HID.out rfl (PS.c_one st2) ?_) | (refine wpList_load_row rfl 26 _ rfl bx rfl 26 st2.c (0, 0) _ RX9.out Tryd.underlying26 rfl HID.out ?_))
              refine (HCK.out _).mono ?_
              rintro e w99 ⟨rfl, hb⟩
              go_wp2_with fail
              go_roundw
              case rel => exact ⟨k + 1, st2, (upd sv m true), (upd ak m false), by omega, by go_num, HIZ.out, once_cells RX9.out hb, once_cells RS9.out hb, once_cells RA9.out hb, RB9.out.trans (hb.mono RB9.out.size)⟩
              case measure => simp [intOf]; omega

          · have hm7 := best_le7 st
            have hcl := plic_claim st hst
            obtain ⟨m, hm⟩ : ∃ m, m = st.best := ⟨_, rfl⟩
            obtain ⟨st2, hst2⟩ : ∃ st2, st2 = st.claim := ⟨_, rfl⟩
            have HI0 : Hid (m = 0 → OnceI st2 sv ak) := Lib.hid (fun h => by rw [hst2, claim_zero st (hm.symm.trans h)]; exact HI.out)
            have HI1 : Hid (m ≠ 0 → sv m = false ∧ ak m = true ∧ st2.th < st2.pri m ∧ OnceI st2 (upd sv m true) (upd ak m false)) := Lib.hid (fun h => by rw [hst2, hm]; exact once_claim st sv ak HI.out (by rw [← hm]; exact h))
            rw [← hm] at hcl hm7
            rw [← hst2] at hcl
            have HR : Hid (∀ W, Tab32 W → Calls Tryd.prog 18 #[.agg st.c, .int .u32 2097156] W fun e w' => e = .returned (.tuple #[.agg st2.c, .int .u32 (m : Nat), .nilIface]) ∧ Below W.heap.size W w') := Lib.hid hcl
            clear hcl hm hst2
            go_wp2_with (first | (refine wpList_load_row rfl 26 _ rfl bx rfl 26 st.c (0, 0) _ RX5.out Tryd.underlying26 rfl HID.out ?_))
            refine (HR.out _ (HT.out.below RB5.out)).mono ?_
            rintro e w6 ⟨rfl, hb⟩
            have RX6 := Lib.hid (once_cells RX5.out hb)
            have RS6 := Lib.hid (once_cells RS5.out hb)
            have RA6 := Lib.hid (once_cells RA5.out hb)
            have RT6 := Lib.hid (once_cells RT5.out hb)
            have RB6 := Lib.hid (RB5.out.trans (hb.mono RB5.out.size))
            clear hb
            have HZ7 := Lib.hid (heap_alloc_new w6 (.cells PS.zero.c 26))
            have hlt7 : bs + 1 < w6.heap.size := (Array.getElem?_eq_some_iff.1 RA6.out).1
            have hlu7 : b9 < w6.heap.size := (Array.getElem?_eq_some_iff.1 RT6.out).1
            have RX7 := Lib.hid (show ((w6.alloc (.cells #[Value.int IntKind.u32 0, Value.int IntKind.u32 0, Value.int IntKind.u32 0, Value.int IntKind.u32 0, Value.int IntKind.u32 0, Value.int IntKind.u32 0, Value.int IntKind.u32 0, Value.int IntKind.u32 0, Value.int IntKind.u32 0, Value.int IntKind.u32 0, Value.int IntKind.u32 0, Value.int IntKind.u32 0] 26)).setRow w6.heap.size st2.c).heap[bx]? = some (.cells st.c 26 (0, 0)) from (once_row (by omega)).trans (once_keep RX6.out))
            have RS7 := Lib.hid (show ((w6.alloc (.cells #[Value.int IntKind.u32 0, Value.int IntKind.u32 0, Value.int IntKind.u32 0, Value.int IntKind.u32 0, Value.int IntKind.u32 0, Value.int IntKind.u32 0, Value.int IntKind.u32 0, Value.int IntKind.u32 0, Value.int IntKind.u32 0, Value.int IntKind.u32 0, Value.int IntKind.u32 0, Value.int IntKind.u32 0] 26)).setRow w6.heap.size st2.c).heap[bs]? = some (.cells (boolRow sv) 37 (0, 0)) from (once_row (by omega)).trans (once_keep RS6.out))
            have RA7 := Lib.hid (show ((w6.alloc (.cells #[Value.int IntKind.u32 0, Value.int IntKind.u32 0, Value.int IntKind.u32 0, Value.int IntKind.u32 0, Value.int IntKind.u32 0, Value.int IntKind.u32 0, Value.int IntKind.u32 0, Value.int IntKind.u32 0, Value.int IntKind.u32 0, Value.int IntKind.u32 0, Value.int IntKind.u32 0, Value.int IntKind.u32 0] 26)).setRow w6.heap.size st2.c).heap[bs + 1]? = some (.cells (boolRow ak) 37 (0, 0)) from (once_row (by omega)).trans (once_keep RA6.out))
            have RT7 := Lib.hid (show ((w6.alloc (.cells #[Value.int IntKind.u32 0, Value.int IntKind.u32 0, Value.int IntKind.u32 0, Value.int IntKind.u32 0, Value.int IntKind.u32 0, Value.int IntKind.u32 0, Value.int IntKind.u32 0, Value.int IntKind.u32 0, Value.int IntKind.u32 0, Value.int IntKind.u32 0, Value.int IntKind.u32 0, Value.int IntKind.u32 0] 26)).setRow w6.heap.size st2.c).heap[b9]? = some (.cells #[.int .i64 K, .int .u32 A, .int .u32 V] 39 (0, 0)) from (once_row (by omega)).trans (once_keep RT6.out))
            have RY7 := Lib.hid (show ((w6.alloc (.cells #[Value.int IntKind.u32 0, Value.int IntKind.u32 0, Value.int IntKind.u32 0, Value.int IntKind.u32 0, Value.int IntKind.u32 0, Value.int IntKind.u32 0, Value.int IntKind.u32 0, Value.int IntKind.u32 0, Value.int IntKind.u32 0, Value.int IntKind.u32 0, Value.int IntKind.u32 0, Value.int IntKind.u32 0] 26)).setRow w6.heap.size st2.c).heap[w6.heap.size]? = some (.cells st2.c 26 (0, 0)) from setRow_heap _ _ _ _ _ _ HZ7.out)
            have RB7 := Lib.hid (show Below w.heap.size w ((w6.alloc (.cells #[Value.int IntKind.u32 0, Value.int IntKind.u32 0, Value.int IntKind.u32 0, Value.int IntKind.u32 0, Value.int IntKind.u32 0, Value.int IntKind.u32 0, Value.int IntKind.u32 0, Value.int IntKind.u32 0, Value.int IntKind.u32 0, Value.int IntKind.u32 0, Value.int IntKind.u32 0, Value.int IntKind.u32 0] 26)).setRow w6.heap.size st2.c) from below_setRow (RB6.out.alloc RB6.out.size _) RB6.out.size _)
            go_upto_region 19 with (first | (refine wpList_store_row rfl 26 _ _ rfl w6.heap.size st2.c rfl rfl 26 PS.zero.c HZ7.out HID.out rfl (PS.c_one st2) ?_))
            generalize hbn7 : w6.heap.size = b10 at RX7 RS7 RA7 RT7 RY7 RB7 hlt7 hlu7 ⊢
            generalize ((w6.alloc (.cells #[Value.int IntKind.u32 0, Value.int IntKind.u32 0, Value.int IntKind.u32 0, Value.int IntKind.u32 0, Value.int IntKind.u32 0, Value.int IntKind.u32 0, Value.int IntKind.u32 0, Value.int IntKind.u32 0, Value.int IntKind.u32 0, Value.int IntKind.u32 0, Value.int IntKind.u32 0, Value.int IntKind.u32 0] 26)).setRow b10 st2.c) = w7 at RX7 RS7 RA7 RT7 RY7 RB7 ⊢
            clear HZ7 hbn7
            have h7 : ¬ (7 : Int) < (m : Int) := by omega
            have h7d : decide ((7 : Int) < (m : Int)) = false := by simp; omega
            by_cases hm0 : m = 0
            · have h0 : ¬ (0 : Int) < (m : Int) := by omega
              have h0d : decide ((0 : Int) < (m : Int)) = false := by simp; omega
              have h0n : decide (0 < m) = false := by simp; omega
              have HIZ := Lib.hid (HI0.out hm0)
              clear hm0
              go_wp2_with fail
              go_quiet (fail)
              go_upto_region 23 with fail
              have RX7 : Hid ((w7.drewN nq).heap[bx]? = _) := RX7
              have RY7 : Hid ((w7.drewN nq).heap[b10]? = _) := RY7
              have RS7 : Hid ((w7.drewN nq).heap[bs]? = _) := RS7
              have RA7 : Hid ((w7.drewN nq).heap[bs + 1]? = _) := RA7
              have RB7 := Lib.hid (below_drewN RB7.out nq)
              have RX8 := RX7
              have RY8 := RY7
              have RS8 := RS7
              have RA8 := RA7
              have RB8 := RB7
              generalize w7.drewN nq = w8 at RX8 RY8 RS8 RA8 RB8 ⊢
              have RX9 := Lib.hid (show (w8.setRow bx st2.c).heap[bx]? = some (.cells st2.c 26 (0, 0)) from setRow_heap _ _ _ _ _ _ RX8.out)
              have RS9 := Lib.hid (show (w8.setRow bx st2.c).heap[bs]? = _ from (once_row (by omega)).trans RS8.out)
              have RA9 := Lib.hid (show (w8.setRow bx st2.c).heap[bs + 1]? = _ from (once_row (by omega)).trans RA8.out)
              have RB9 := Lib.hid (show Below w.heap.size w (w8.setRow bx st2.c) from below_setRow RB8.out (by omega) _)
              have HCK : Hid (∀ W, Calls Tryd.prog 17 #[.agg st2.c] W fun e w' => e = .returned .nilIface ∧ Below W.heap.size W w') := Lib.hid (plic_Check_ok st2 (HIZ.out).wf (HIZ.out).ok)
              go_wp2_with (first | (refine wpList_load_row rfl 26 _ rfl b10 rfl 26 st2.c (0, 0) _ RY8.out Tryd.underlying26 rfl HID.out ?_) | (refine wpList_store_row rfl 26 _ _ rfl bx st2.c rfl rfl 26 st.c RX8.out HID.out rfl (PS.c_one st2) ?_) | (refine wpList_load_row rfl 26 _ rfl bx rfl 26 st2.c (0, 0) _ RX9.out Tryd.underlying26 rfl HID.out ?_))
              refine (HCK.out _).mono ?_
              rintro e w99 ⟨rfl, hb⟩
              go_wp2_with fail
              go_roundw
              case rel => exact ⟨k + 1, st2, sv, ak, by omega, by go_num, HIZ.out, once_cells RX9.out hb, once_cells RS9.out hb, once_cells RA9.out hb, RB9.out.trans (hb.mono RB9.out.size)⟩
              case measure => simp [intOf]; omega
            · have h0 : (0 : Int) < (m : Int) := by omega
              have h0d : decide ((0 : Int) < (m : Int)) = true := by simp; omega
              have h0n : decide (0 < m) = true := by simp; omega
              obtain ⟨hs1, hs2, hs3, hs4⟩ := HI1.out hm0
              have HIZ := Lib.hid hs4
              have hm8 : m < 8 := by omega
              have e7 : w7.cell? ⟨bs, m, none⟩ = some (.bool false) := (cell_of_row _ _ m _ _ _ RS7.out).trans ((boolRow_get sv hm8).trans (by rw [hs1]))
              have a7 : w7.cell? ⟨bs + 1, m, none⟩ = some (.bool true) := (cell_of_row _ _ m _ _ _ RA7.out).trans ((boolRow_get ak hm8).trans (by rw [hs2]))
              have p7 : w7.cell? ⟨b10, m, none⟩ = some (.int .u32 (st2.pri m : Nat)) := (cell_of_row _ _ m _ _ _ RY7.out).trans (PS.c_pri st2 m hm7)
              have q7 : w7.cell? ⟨b10, 9, none⟩ = some (.int .u32 (st2.th : Nat)) := (cell_of_row _ _ 9 _ _ _ RY7.out).trans rfl
              have hle : ¬ ((st2.pri m : Int) ≤ (st2.th : Int)) := by omega
              have hled : decide (st2.pri m ≤ st2.th) = false := by simp; omega
              have hm8i : (m : Int) < 8 := by omega
              have hm0i : (0 : Int) ≤ (m : Int) := by omega
              clear hm0 hs1 hs2 hs3 hs4
              go_wp2_with fail
              go_quiet (fail)
              go_upto_region 22 with fail
              have RXq : Hid ((w7.drewN nq).heap[bx]? = _) := RX7
              have RYq : Hid ((w7.drewN nq).heap[b10]? = _) := RY7
              have RSq : Hid ((w7.drewN nq).heap[bs]? = _) := RS7
              have RAq : Hid ((w7.drewN nq).heap[bs + 1]? = _) := RA7
              have RBq := Lib.hid (below_drewN RB7.out nq)
              generalize w7.drewN nq = wq at RXq RYq RSq RAq RBq ⊢
              clear e7 a7 p7 q7 hle hled RX7 RY7 RS7 RA7 RB7
              have eq1 : wq.cell? ⟨bs, m, none⟩ = some (.bool (sv m)) := (cell_of_row _ _ m _ _ _ RSq.out).trans (boolRow_get sv hm8)
              have eq2 : wq.cell? ⟨bs + 1, m, none⟩ = some (.bool (ak m)) := (cell_of_row _ _ m _ _ _ RAq.out).trans (boolRow_get ak hm8)
              have fq1 := frozen_of_row _ _ m _ _ RSq.out
              have fq2 := frozen_of_row _ _ m _ _ RAq.out
              have RXr := Lib.hid (show ((wq.setCell ⟨bs, m, none⟩ (.bool true)).setCell ⟨bs + 1, m, none⟩ (.bool false)).heap[bx]? = some (.cells st.c 26 (0, 0)) from (heap_setCell_other _ _ _ _ (by simp; omega)).trans ((heap_setCell_other _ _ _ _ (by simp; omega)).trans RXq.out))
              have RYr := Lib.hid (show ((wq.setCell ⟨bs, m, none⟩ (.bool true)).setCell ⟨bs + 1, m, none⟩ (.bool false)).heap[b10]? = some (.cells st2.c 26 (0, 0)) from (heap_setCell_other _ _ _ _ (by simp; omega)).trans ((heap_setCell_other _ _ _ _ (by simp; omega)).trans RYq.out))
              have RSr := Lib.hid (show ((wq.setCell ⟨bs, m, none⟩ (.bool true)).setCell ⟨bs + 1, m, none⟩ (.bool false)).heap[bs]? = some (.cells (boolRow (upd sv m true)) 37 (0, 0)) from (heap_setCell_other _ _ _ _ (by simp)).trans (by rw [← boolRow_set sv true hm8]; exact heap_setCell_same _ _ _ _ _ _ RSq.out))
              have RAr := Lib.hid (show ((wq.setCell ⟨bs, m, none⟩ (.bool true)).setCell ⟨bs + 1, m, none⟩ (.bool false)).heap[bs + 1]? = some (.cells (boolRow (upd ak m false)) 37 (0, 0)) from by rw [← boolRow_set ak false hm8]; exact heap_setCell_same _ _ _ _ _ _ ((heap_setCell_other _ _ _ _ (by simp)).trans RAq.out))
              have RBr := Lib.hid (show Below w.heap.size w ((wq.setCell ⟨bs, m, none⟩ (.bool true)).setCell ⟨bs + 1, m, none⟩ (.bool false)) from (RBq.out.setCell (p := ⟨bs, m, none⟩) (by show w.heap.size ≤ bs; omega) _).setCell (p := ⟨bs + 1, m, none⟩) (by show w.heap.size ≤ bs + 1; omega) _)
              go_upto_region 23 with fail
              clear eq1 eq2 fq1 fq2
              have RX8 := RXr
              have RY8 := RYr
              have RS8 := RSr
              have RA8 := RAr
              have RB8 := RBr
              generalize (wq.setCell ⟨bs, m, none⟩ (.bool true)).setCell ⟨bs + 1, m, none⟩ (.bool false) = w8 at RX8 RY8 RS8 RA8 RB8 ⊢
              have RX9 := Lib.hid (show (w8.setRow bx st2.c).heap[bx]? = some (.cells st2.c 26 (0, 0)) from setRow_heap _ _ _ _ _ _ RX8.out)
              have RS9 := Lib.hid (show (w8.setRow bx st2.c).heap[bs]? = _ from (once_row (by omega)).trans RS8.out)
              have RA9 := Lib.hid (show (w8.setRow bx st2.c).heap[bs + 1]? = _ from (once_row (by omega)).trans RA8.out)
              have RB9 := Lib.hid (show Below w.heap.size w (w8.setRow bx st2.c) from below_setRow RB8.out (by omega) _)
              have HCK : Hid (∀ W, Calls Tryd.prog 17 #[.agg st2.c] W fun e w' => e = .returned .nilIface ∧ Below W.heap.size W w') := Lib.hid (plic_Check_ok st2 (HIZ.out).wf (HIZ.out).ok)
              go_wp2_with (first | (refine wpList_load_row rfl 26 _ rfl b10 rfl 26 st2.c (0, 0) _ RY8.out Tryd.underlying26 rfl HID.out ?_) | (refine wpList_store_row rfl 26 _ _ rfl bx st2.c rfl rfl 26 st.c RX8.out HID.out rfl (PS.c_one st2) ?_) | (refine wpList_load_row rfl 26 _ rfl bx rfl 26 st2.c (0, 0) _ RX9.out Tryd.underlying26 rfl HID.out ?_))
              refine (HCK.out _).mono ?_
              rintro e w99 ⟨rfl, hb⟩
              go_wp2_with fail
              go_roundw
              case rel => exact ⟨k + 1, st2, (upd sv m true), (upd ak m false), by omega, by go_num, HIZ.out, once_cells RX9.out hb, once_cells RS9.out hb, once_cells RA9.out hb, RB9.out.trans (hb.mono RB9.out.size)⟩
              case measure => simp [intOf]; omega

        · obtain ⟨r, hr⟩ : ∃ r, r = V % 9 := ⟨_, rfl⟩
          have hV9 : r < 9 := by omega
          have hmod : ((V : Int) % 9) = (r : Int) := by omega
          clear hr
          obtain ⟨hwe, hwi⟩ := once_done st sv ak HI.out r hV9
          have hwr := plic_Write st 2097156 r hst (by omega) (by omega)
          rw [hwe] at hwr
          obtain ⟨st2, hst2⟩ : ∃ st2, st2 = (writeN st 2097156 r).1 := ⟨_, rfl⟩
          rw [← hst2] at hwr hwi
          have HW : Hid (∀ W, Calls Tryd.prog 19 #[.agg st.c, .int .u32 2097156, .int .u32 (r : Nat)] W fun e w' => e = .returned (.tuple #[.agg st2.c, .nilIface]) ∧ Below W.heap.size W w') := Lib.hid hwr
          have HWI := Lib.hid hwi
          clear hwr hwi hwe hst2
          have t2 : w5.cell? ⟨b9, 2, none⟩ = some (.int .u32 V) := (cell_of_row _ _ 2 _ _ _ RT5.out).trans rfl
          go_wp2_with (first | (refine wpList_load_row rfl 26 _ rfl bx rfl 26 st.c (0, 0) _ RX5.out Tryd.underlying26 rfl HID.out ?_))
          refine (HW.out _).mono ?_
          rintro e w6 ⟨rfl, hb⟩
          have RX6 := Lib.hid (once_cells RX5.out hb)
          have RS6 := Lib.hid (once_cells RS5.out hb)
          have RA6 := Lib.hid (once_cells RA5.out hb)
          have RT6 := Lib.hid (once_cells RT5.out hb)
          have RB6 := Lib.hid (RB5.out.trans (hb.mono RB5.out.size))
          clear hb
          have HZ7 := Lib.hid (heap_alloc_new w6 (.cells PS.zero.c 26))
          have hlt7 : bs + 1 < w6.heap.size := (Array.getElem?_eq_some_iff.1 RA6.out).1
          have hlu7 : b9 < w6.heap.size := (Array.getElem?_eq_some_iff.1 RT6.out).1
          have RX7 := Lib.hid (show ((w6.alloc (.cells #[Value.int IntKind.u32 0, Value.int IntKind.u32 0, Value.int IntKind.u32 0, Value.int IntKind.u32 0, Value.int IntKind.u32 0, Value.int IntKind.u32 0, Value.int IntKind.u32 0, Value.int IntKind.u32 0, Value.int IntKind.u32 0, Value.int IntKind.u32 0, Value.int IntKind.u32 0, Value.int IntKind.u32 0] 26)).setRow w6.heap.size st2.c).heap[bx]? = some (.cells st.c 26 (0, 0)) from (once_row (by omega)).trans (once_keep RX6.out))
          have RS7 := Lib.hid (show ((w6.alloc (.cells #[Value.int IntKind.u32 0, Value.int IntKind.u32 0, Value.int IntKind.u32 0, Value.int IntKind.u32 0, Value.int IntKind.u32 0, Value.int IntKind.u32 0, Value.int IntKind.u32 0, Value.int IntKind.u32 0, Value.int IntKind.u32 0, Value.int IntKind.u32 0, Value.int IntKind.u32 0, Value.int IntKind.u32 0] 26)).setRow w6.heap.size st2.c).heap[bs]? = some (.cells (boolRow sv) 37 (0, 0)) from (once_row (by omega)).trans (once_keep RS6.out))
          have RA7 := Lib.hid (show ((w6.alloc (.cells #[Value.int IntKind.u32 0, Value.int IntKind.u32 0, Value.int IntKind.u32 0, Value.int IntKind.u32 0, Value.int IntKind.u32 0, Value.int IntKind.u32 0, Value.int IntKind.u32 0, Value.int IntKind.u32 0, Value.int IntKind.u32 0, Value.int IntKind.u32 0, Value.int IntKind.u32 0, Value.int IntKind.u32 0] 26)).setRow w6.heap.size st2.c).heap[bs + 1]? = some (.cells (boolRow ak) 37 (0, 0)) from (once_row (by omega)).trans (once_keep RA6.out))
          have RT7 := Lib.hid (show ((w6.alloc (.cells #[Value.int IntKind.u32 0, Value.int IntKind.u32 0, Value.int IntKind.u32 0, Value.int IntKind.u32 0, Value.int IntKind.u32 0, Value.int IntKind.u32 0, Value.int IntKind.u32 0, Value.int IntKind.u32 0, Value.int IntKind.u32 0, Value.int IntKind.u32 0, Value.int IntKind.u32 0, Value.int IntKind.u32 0] 26)).setRow w6.heap.size st2.c).heap[b9]? = some (.cells #[.int .i64 K, .int .u32 A, .int .u32 V] 39 (0, 0)) from (once_row (by omega)).trans (once_keep RT6.out))
          have RY7 := Lib.hid (show ((w6.alloc (.cells #[Value.int IntKind.u32 0, Value.int IntKind.u32 0, Value.int IntKind.u32 0, Value.int IntKind.u32 0, Value.int IntKind.u32 0, Value.int IntKind.u32 0, Value.int IntKind.u32 0, Value.int IntKind.u32 0, Value.int IntKind.u32 0, Value.int IntKind.u32 0, Value.int IntKind.u32 0, Value.int IntKind.u32 0] 26)).setRow w6.heap.size st2.c).heap[w6.heap.size]? = some (.cells st2.c 26 (0, 0)) from setRow_heap _ _ _ _ _ _ HZ7.out)
          have RB7 := Lib.hid (show Below w.heap.size w ((w6.alloc (.cells #[Value.int IntKind.u32 0, Value.int IntKind.u32 0, Value.int IntKind.u32 0, Value.int IntKind.u32 0, Value.int IntKind.u32 0, Value.int IntKind.u32 0, Value.int IntKind.u32 0, Value.int IntKind.u32 0, Value.int IntKind.u32 0, Value.int IntKind.u32 0, Value.int IntKind.u32 0, Value.int IntKind.u32 0] 26)).setRow w6.heap.size st2.c) from below_setRow (RB6.out.alloc RB6.out.size _) RB6.out.size _)
          go_upto_region 26 with (first | (refine wpList_store_row rfl 26 _ _ rfl w6.heap.size st2.c rfl rfl 26 PS.zero.c HZ7.out HID.out rfl (PS.c_one st2) ?_))
          generalize hbn7 : w6.heap.size = b13 at RX7 RS7 RA7 RT7 RY7 RB7 hlt7 hlu7 ⊢
          generalize ((w6.alloc (.cells #[Value.int IntKind.u32 0, Value.int IntKind.u32 0, Value.int IntKind.u32 0, Value.int IntKind.u32 0, Value.int IntKind.u32 0, Value.int IntKind.u32 0, Value.int IntKind.u32 0, Value.int IntKind.u32 0, Value.int IntKind.u32 0, Value.int IntKind.u32 0, Value.int IntKind.u32 0, Value.int IntKind.u32 0] 26)).setRow b13 st2.c) = w7 at RX7 RS7 RA7 RT7 RY7 RB7 ⊢
          clear HZ7 hbn7
          by_cases hv8 : r < 8
          · rw [if_pos hv8] at HWI
            have hv8i : (r : Int) < 8 := by omega
            have hv0i : (0 : Int) ≤ (r : Int) := by omega
            have t7 : w7.cell? ⟨b9, 2, none⟩ = some (.int .u32 V) := (cell_of_row _ _ 2 _ _ _ RT7.out).trans rfl
            have e7 : w7.cell? ⟨bs, r, none⟩ = some (.bool (sv r)) := (cell_of_row _ _ r _ _ _ RS7.out).trans (boolRow_get sv hv8)
            have f7 := frozen_of_row _ _ r _ _ RS7.out
            have RX8 := Lib.hid (show (w7.setCell ⟨bs, r, none⟩ (.bool false)).heap[bx]? = some (.cells st.c 26 (0, 0)) from (heap_setCell_other _ _ _ _ (by simp; omega)).trans RX7.out)
            have RY8 := Lib.hid (show (w7.setCell ⟨bs, r, none⟩ (.bool false)).heap[b13]? = some (.cells st2.c 26 (0, 0)) from (heap_setCell_other _ _ _ _ (by simp; omega)).trans RY7.out)
            have RS8 := Lib.hid (show (w7.setCell ⟨bs, r, none⟩ (.bool false)).heap[bs]? = some (.cells (boolRow (upd sv r false)) 37 (0, 0)) from by rw [← boolRow_set sv false hv8]; exact heap_setCell_same _ _ _ _ _ _ RS7.out)
            have RA8 := Lib.hid (show (w7.setCell ⟨bs, r, none⟩ (.bool false)).heap[bs + 1]? = some (.cells (boolRow ak) 37 (0, 0)) from (heap_setCell_other _ _ _ _ (by simp)).trans RA7.out)
            have RB8 := Lib.hid (show Below w.heap.size w (w7.setCell ⟨bs, r, none⟩ (.bool false)) from RB7.out.setCell (by show w.heap.size ≤ bs; omega) _)
            go_upto_region 30 with fail
            generalize w7.setCell ⟨bs, r, none⟩ (.bool false) = w8 at RX8 RY8 RS8 RA8 RB8 ⊢
            clear e7 f7 t7
            have RX9 := Lib.hid (show (w8.setRow bx st2.c).heap[bx]? = some (.cells st2.c 26 (0, 0)) from setRow_heap _ _ _ _ _ _ RX8.out)
            have RS9 := Lib.hid (show (w8.setRow bx st2.c).heap[bs]? = _ from (once_row (by omega)).trans RS8.out)
            have RA9 := Lib.hid (show (w8.setRow bx st2.c).heap[bs + 1]? = _ from (once_row (by omega)).trans RA8.out)
            have RB9 := Lib.hid (show Below w.heap.size w (w8.setRow bx st2.c) from below_setRow RB8.out (by omega) _)
            have HCK : Hid (∀ W, Calls Tryd.prog 17 #[.agg st2.c] W fun e w' => e = .returned .nilIface ∧ Below W.heap.size W w') := Lib.hid (plic_Check_ok st2 (HWI.out).wf (HWI.out).ok)
            go_wp2_with (first | (refine wpList_load_row rfl 26 _ rfl b13 rfl 26 st2.c (0, 0) _ RY8.out Tryd.underlying26 rfl HID.out ?_) | (refine wpList_store_row rfl 26 _ _ rfl bx st2.c rfl rfl 26 st.c RX8.out HID.out rfl (PS.c_one st2) ?_) | (refine wpList_load_row rfl 26 _ rfl bx rfl 26 st2.c (0, 0) _ RX9.out Tryd.underlying26 rfl HID.out ?_))
            refine (HCK.out _).mono ?_
            rintro e w99 ⟨rfl, hb⟩
            go_wp2_with fail
            go_roundw
            case rel => exact ⟨k + 1, st2, (upd sv r false), ak, by omega, by go_num, HWI.out, once_cells RX9.out hb, once_cells RS9.out hb, once_cells RA9.out hb, RB9.out.trans (hb.mono RB9.out.size)⟩
            case measure => simp [intOf]; omega
          · rw [if_neg hv8] at HWI
            have hv8i : ¬ (r : Int) < 8 := by omega
            have t7 : w7.cell? ⟨b9, 2, none⟩ = some (.int .u32 V) := (cell_of_row _ _ 2 _ _ _ RT7.out).trans rfl
            have RX8 := RX7
            have RY8 := RY7
            have RS8 := RS7
            have RA8 := RA7
            have RB8 := RB7
            go_upto_region 30 with fail
            generalize w7 = w8 at RX8 RY8 RS8 RA8 RB8 ⊢
            clear RX7 RY7 RS7 RA7 RB7 RT7
            have RX9 := Lib.hid (show (w8.setRow bx st2.c).heap[bx]? = some (.cells st2.c 26 (0, 0)) from setRow_heap _ _ _ _ _ _ RX8.out)
            have RS9 := Lib.hid (show (w8.setRow bx st2.c).heap[bs]? = _ from (once_row (by omega)).trans RS8.out)
            have RA9 := Lib.hid (show (w8.setRow bx st2.c).heap[bs + 1]? = _ from (once_row (by omega)).trans RA8.out)
            have RB9 := Lib.hid (show Below w.heap.size w (w8.setRow bx st2.c) from below_setRow RB8.out (by omega) _)
            have HCK : Hid (∀ W, Calls Tryd.prog 17 #[.agg st2.c] W fun e w' => e = .returned .nilIface ∧ Below W.heap.size W w') := Lib.hid (plic_Check_ok st2 (HWI.out).wf (HWI.out).ok)
            go_wp2_with (first | (refine wpList_load_row rfl 26 _ rfl b13 rfl 26 st2.c (0, 0) _ RY8.out Tryd.underlying26 rfl HID.out ?_) | (refine wpList_store_row rfl 26 _ _ rfl bx st2.c rfl rfl 26 st.c RX8.out HID.out rfl (PS.c_one st2) ?_) | (refine wpList_load_row rfl 26 _ rfl bx rfl 26 st2.c (0, 0) _ RX9.out Tryd.underlying26 rfl HID.out ?_))
            refine (HCK.out _).mono ?_
            rintro e w99 ⟨rfl, hb⟩
            go_wp2_with fail
            go_roundw
            case rel => exact ⟨k + 1, st2, sv, ak, by omega, by go_num, HWI.out, once_cells RX9.out hb, once_cells RS9.out hb, once_cells RA9.out hb, RB9.out.trans (hb.mono RB9.out.size)⟩
            case measure => simp [intOf]; omega

        · obtain ⟨st2, hst2⟩ : ∃ st2, st2 = (writeN st A V).1 := ⟨_, rfl⟩
          obtain ⟨ne, hne⟩ : ∃ ne, ne = (writeN st A V).2 := ⟨_, rfl⟩
          have hwr := plic_Write st A V hst hA hV
          rw [← hst2, ← hne] at hwr
          obtain ⟨ev, hev⟩ : ∃ ev, ev = errV ne := ⟨_, rfl⟩
          rw [← hev] at hwr
          have HW : Hid (∀ W, Calls Tryd.prog 19 #[.agg st.c, .int .u32 A, .int .u32 V] W fun e w' => e = .returned (.tuple #[.agg st2.c, ev]) ∧ Below W.heap.size W w') := Lib.hid hwr
          have HWI : Hid (A ≠ 2097156 → ne = 0 → OnceI st2 sv ak) := Lib.hid (fun h1 h2 => by rw [hst2]; exact once_write st sv ak HI.out A V h1 (hne.symm.trans h2))
          have HEV := Lib.hid hev
          clear hwr hst2 hne hev
          have t1 : w5.cell? ⟨b9, 1, none⟩ = some (.int .u32 A) := (cell_of_row _ _ 1 _ _ _ RT5.out).trans rfl
          have t2 : w5.cell? ⟨b9, 2, none⟩ = some (.int .u32 V) := (cell_of_row _ _ 2 _ _ _ RT5.out).trans rfl
          go_wp2_with (first | (refine wpList_load_row rfl 26 _ rfl bx rfl 26 st.c (0, 0) _ RX5.out Tryd.underlying26 rfl HID.out ?_))
          refine (HW.out _).mono ?_
          rintro e w6 ⟨rfl, hb⟩
          have RX6 := Lib.hid (once_cells RX5.out hb)
          have RS6 := Lib.hid (once_cells RS5.out hb)
          have RA6 := Lib.hid (once_cells RA5.out hb)
          have RT6 := Lib.hid (once_cells RT5.out hb)
          have RB6 := Lib.hid (RB5.out.trans (hb.mono RB5.out.size))
          clear hb
          have HZ7 := Lib.hid (heap_alloc_new w6 (.cells PS.zero.c 26))
          have hlt7 : bs + 1 < w6.heap.size := (Array.getElem?_eq_some_iff.1 RA6.out).1
          have hlu7 : b9 < w6.heap.size := (Array.getElem?_eq_some_iff.1 RT6.out).1
          have RX7 := Lib.hid (show ((w6.alloc (.cells #[Value.int IntKind.u32 0, Value.int IntKind.u32 0, Value.int IntKind.u32 0, Value.int IntKind.u32 0, Value.int IntKind.u32 0, Value.int IntKind.u32 0, Value.int IntKind.u32 0, Value.int IntKind.u32 0, Value.int IntKind.u32 0, Value.int IntKind.u32 0, Value.int IntKind.u32 0, Value.int IntKind.u32 0] 26)).setRow w6.heap.size st2.c).heap[bx]? = some (.cells st.c 26 (0, 0)) from (once_row (by omega)).trans (once_keep RX6.out))
          have RS7 := Lib.hid (show ((w6.alloc (.cells #[Value.int IntKind.u32 0, Value.int IntKind.u32 0, Value.int IntKind.u32 0, Value.int IntKind.u32 0, Value.int IntKind.u32 0, Value.int IntKind.u32 0, Value.int IntKind.u32 0, Value.int IntKind.u32 0, Value.int IntKind.u32 0, Value.int IntKind.u32 0, Value.int IntKind.u32 0, Value.int IntKind.u32 0] 26)).setRow w6.heap.size st2.c).heap[bs]? = some (.cells (boolRow sv) 37 (0, 0)) from (once_row (by omega)).trans (once_keep RS6.out))
          have RA7 := Lib.hid (show ((w6.alloc (.cells #[Value.int IntKind.u32 0, Value.int IntKind.u32 0, Value.int IntKind.u32 0, Value.int IntKind.u32 0, Value.int IntKind.u32 0, Value.int IntKind.u32 0, Value.int IntKind.u32 0, Value.int IntKind.u32 0, Value.int IntKind.u32 0, Value.int IntKind.u32 0, Value.int IntKind.u32 0, Value.int IntKind.u32 0] 26)).setRow w6.heap.size st2.c).heap[bs + 1]? = some (.cells (boolRow ak) 37 (0, 0)) from (once_row (by omega)).trans (once_keep RA6.out))
          have RT7 := Lib.hid (show ((w6.alloc (.cells #[Value.int IntKind.u32 0, Value.int IntKind.u32 0, Value.int IntKind.u32 0, Value.int IntKind.u32 0, Value.int IntKind.u32 0, Value.int IntKind.u32 0, Value.int IntKind.u32 0, Value.int IntKind.u32 0, Value.int IntKind.u32 0, Value.int IntKind.u32 0, Value.int IntKind.u32 0, Value.int IntKind.u32 0] 26)).setRow w6.heap.size st2.c).heap[b9]? = some (.cells #[.int .i64 K, .int .u32 A, .int .u32 V] 39 (0, 0)) from (once_row (by omega)).trans (once_keep RT6.out))
          have RY7 := Lib.hid (show ((w6.alloc (.cells #[Value.int IntKind.u32 0, Value.int IntKind.u32 0, Value.int IntKind.u32 0, Value.int IntKind.u32 0, Value.int IntKind.u32 0, Value.int IntKind.u32 0, Value.int IntKind.u32 0, Value.int IntKind.u32 0, Value.int IntKind.u32 0, Value.int IntKind.u32 0, Value.int IntKind.u32 0, Value.int IntKind.u32 0] 26)).setRow w6.heap.size st2.c).heap[w6.heap.size]? = some (.cells st2.c 26 (0, 0)) from setRow_heap _ _ _ _ _ _ HZ7.out)
          have RB7 := Lib.hid (show Below w.heap.size w ((w6.alloc (.cells #[Value.int IntKind.u32 0, Value.int IntKind.u32 0, Value.int IntKind.u32 0, Value.int IntKind.u32 0, Value.int IntKind.u32 0, Value.int IntKind.u32 0, Value.int IntKind.u32 0, Value.int IntKind.u32 0, Value.int IntKind.u32 0, Value.int IntKind.u32 0, Value.int IntKind.u32 0, Value.int IntKind.u32 0] 26)).setRow w6.heap.size st2.c) from below_setRow (RB6.out.alloc RB6.out.size _) RB6.out.size _)
          go_upto_region 33 with (first | (refine wpList_store_row rfl 26 _ _ rfl w6.heap.size st2.c rfl rfl 26 PS.zero.c HZ7.out HID.out rfl (PS.c_one st2) ?_))
          generalize hbn7 : w6.heap.size = b15 at RX7 RS7 RA7 RT7 RY7 RB7 hlt7 hlu7 ⊢
          generalize ((w6.alloc (.cells #[Value.int IntKind.u32 0, Value.int IntKind.u32 0, Value.int IntKind.u32 0, Value.int IntKind.u32 0, Value.int IntKind.u32 0, Value.int IntKind.u32 0, Value.int IntKind.u32 0, Value.int IntKind.u32 0, Value.int IntKind.u32 0, Value.int IntKind.u32 0, Value.int IntKind.u32 0, Value.int IntKind.u32 0] 26)).setRow b15 st2.c) = w7 at RX7 RS7 RA7 RT7 RY7 RB7 ⊢
          clear HZ7 hbn7
          clear t1 t2
          have t7 : w7.cell? ⟨b9, 1, none⟩ = some (.int .u32 A) := (cell_of_row _ _ 1 _ _ _ RT7.out).trans rfl
          by_cases he : ne = 0
          · have hnil : ev = .nilIface := by rw [HEV.out]; exact if_pos he
            subst hnil
            by_cases hat : A = 2097156
            · have hai : ((A : Int) != 2097156) = false := by simp; omega
              clear hat he
              have HCK : Hid (∀ W, Calls Tryd.prog 17 #[.agg st.c] W fun e w' => e = .returned .nilIface ∧ Below W.heap.size W w') := Lib.hid (plic_Check_ok st HI.out.wf HI.out.ok)
              go_upto_region 35 with fail
              go_wp2_with (first | (refine wpList_load_row rfl 26 _ rfl bx rfl 26 st.c (0, 0) _ RX7.out Tryd.underlying26 rfl HID.out ?_))
              refine (HCK.out _).mono ?_
              rintro e w99 ⟨rfl, hb⟩
              go_wp2_with fail
              go_roundw
              case rel => exact ⟨k + 1, st, sv, ak, by omega, by go_num, HI.out, once_cells RX7.out hb, once_cells RS7.out hb, once_cells RA7.out hb, RB7.out.trans (hb.mono RB7.out.size)⟩
              case measure => simp [intOf]; omega
            · have hai : ((A : Int) != 2097156) = true := by simp; omega
              have HWJ := Lib.hid (HWI.out hat he)
              clear hat he
              go_upto_region 34 with fail
              have RX8 := RX7
              have RY8 := RY7
              have RS8 := RS7
              have RA8 := RA7
              have RB8 := RB7
              generalize w7 = w8 at RX8 RY8 RS8 RA8 RB8 ⊢
              have RX9 := Lib.hid (show (w8.setRow bx st2.c).heap[bx]? = some (.cells st2.c 26 (0, 0)) from setRow_heap _ _ _ _ _ _ RX8.out)
              have RS9 := Lib.hid (show (w8.setRow bx st2.c).heap[bs]? = _ from (once_row (by omega)).trans RS8.out)
              have RA9 := Lib.hid (show (w8.setRow bx st2.c).heap[bs + 1]? = _ from (once_row (by omega)).trans RA8.out)
              have RB9 := Lib.hid (show Below w.heap.size w (w8.setRow bx st2.c) from below_setRow RB8.out (by omega) _)
              have HCK : Hid (∀ W, Calls Tryd.prog 17 #[.agg st2.c] W fun e w' => e = .returned .nilIface ∧ Below W.heap.size W w') := Lib.hid (plic_Check_ok st2 (HWJ.out).wf (HWJ.out).ok)
              go_wp2_with (first | (refine wpList_load_row rfl 26 _ rfl b15 rfl 26 st2.c (0, 0) _ RY8.out Tryd.underlying26 rfl HID.out ?_) | (refine wpList_store_row rfl 26 _ _ rfl bx st2.c rfl rfl 26 st.c RX8.out HID.out rfl (PS.c_one st2) ?_) | (refine wpList_load_row rfl 26 _ rfl bx rfl 26 st2.c (0, 0) _ RX9.out Tryd.underlying26 rfl HID.out ?_))
              refine (HCK.out _).mono ?_
              rintro e w99 ⟨rfl, hb⟩
              go_wp2_with fail
              go_roundw
              case rel => exact ⟨k + 1, st2, sv, ak, by omega, by go_num, HWJ.out, once_cells RX9.out hb, once_cells RS9.out hb, once_cells RA9.out hb, RB9.out.trans (hb.mono RB9.out.size)⟩
              case measure => simp [intOf]; omega
          · have hif : ev = .iface 116 (.int .i64 ne) := by rw [HEV.out]; exact if_neg he
            subst hif
            clear he
            have HCK : Hid (∀ W, Calls Tryd.prog 17 #[.agg st.c] W fun e w' => e = .returned .nilIface ∧ Below W.heap.size W w') := Lib.hid (plic_Check_ok st HI.out.wf HI.out.ok)
            go_upto_region 35 with fail
            go_wp2_with (first | (refine wpList_load_row rfl 26 _ rfl bx rfl 26 st.c (0, 0) _ RX7.out Tryd.underlying26 rfl HID.out ?_))
            refine (HCK.out _).mono ?_
            rintro e w99 ⟨rfl, hb⟩
            go_wp2_with fail
            go_roundw
            case rel => exact ⟨k + 1, st, sv, ak, by omega, by go_num, HI.out, once_cells RX7.out hb, once_cells RS7.out hb, once_cells RA7.out hb, RB7.out.trans (hb.mono RB7.out.size)⟩
            case measure => simp [intOf]; omega

        · rcases hq01 with rfl | rfl
          · obtain ⟨st2, hst2⟩ : ∃ st2 : PS, st2 = { st with pe := levelN st.pe st.bu V } := ⟨_, rfl⟩
            have hlv := plic_Level st V hst hV
            have hin := once_level st sv ak HI.out V hV
            rw [← hst2] at hlv hin
            have HW : Hid (∀ W, Calls Tryd.prog 13 #[.agg st.c, .int .u32 V] W fun e w' => e = .returned (.agg st2.c) ∧ Below W.heap.size W w') := Lib.hid hlv
            have HIN := Lib.hid hin
            clear hlv hin hst2
            have t2 : w5.cell? ⟨b9, 2, none⟩ = some (.int .u32 V) := (cell_of_row _ _ 2 _ _ _ RT5.out).trans rfl
            go_wp2_with (first | (refine wpList_load_row rfl 26 _ rfl bx rfl 26 st.c (0, 0) _ RX5.out Tryd.underlying26 rfl HID.out ?_))
            refine (HW.out _).mono ?_
            rintro e w6 ⟨rfl, hb⟩
            have RX6 := Lib.hid (once_cells RX5.out hb)
            have RS6 := Lib.hid (once_cells RS5.out hb)
            have RA6 := Lib.hid (once_cells RA5.out hb)
            have RT6 := Lib.hid (once_cells RT5.out hb)
            have RB6 := Lib.hid (RB5.out.trans (hb.mono RB5.out.size))
            clear hb
            clear t2
            have RX7 := Lib.hid (show (w6.setRow bx st2.c).heap[bx]? = some (.cells st2.c 26 (0, 0)) from setRow_heap _ _ _ _ _ _ RX6.out)
            have RS7 := Lib.hid (show (w6.setRow bx st2.c).heap[bs]? = _ from (once_row (by omega)).trans RS6.out)
            have RA7 := Lib.hid (show (w6.setRow bx st2.c).heap[bs + 1]? = _ from (once_row (by omega)).trans RA6.out)
            have RT7 := Lib.hid (show (w6.setRow bx st2.c).heap[b9]? = _ from (once_row (by omega)).trans RT6.out)
            have RB7 := Lib.hid (show Below w.heap.size w (w6.setRow bx st2.c) from below_setRow RB6.out (by omega) _)
            go_wp2_with (first | (refine wpList_store_row rfl 26 _ _ rfl bx st2.c rfl rfl 26 st.c RX6.out HID.out rfl (PS.c_one st2) ?_))
            generalize w6.setRow bx st2.c = w7 at RX7 RS7 RA7 RT7 RB7 ⊢
            clear RX6 RS6 RA6 RT6 RB6 RX5 RS5 RA5 RT5 RB5
            go_loopw [17] (fun j wq => ∃ m : Nat, 1 ≤ m ∧ m ≤ 8 ∧ j = .int .i64 m ∧ wq.heap[bx]? = some (.cells st2.c 26 (0, 0)) ∧ wq.heap[bs]? = some (.cells (boolRow sv) 37 (0, 0)) ∧ wq.heap[bs + 1]? = some (.cells (boolRow (askK sv ak V m)) 37 (0, 0)) ∧ wq.heap[b9]? = some (.cells #[.int .i64 K, .int .u32 A, .int .u32 V] 39 (0, 0)) ∧ Below w.heap.size w wq) (fun j _ => 8 - (intOf j).toNat)
            case atStart => exact ⟨1, by omega, by omega, rfl, RX7.out, RS7.out, by rw [askK_one]; exact RA7.out, RT7.out, RB7.out⟩
            case round =>
              obtain ⟨m, hm1, hm8, rfl, rx, rs, ra, rt, rb⟩ := hrel
              have RXm := Lib.hid rx
              have RSm := Lib.hid rs
              have RAm := Lib.hid ra
              have RTm := Lib.hid rt
              have RBm := Lib.hid rb
              clear rx rs ra rt rb RX7 RS7 RA7 RT7 RB7
              by_cases hmlt : m < 8
              · have hm8i : (m : Int) < 8 := by omega
                have hm0i : (0 : Int) ≤ (m : Int) := by omega
                have t2 : wr.cell? ⟨b9, 2, none⟩ = some (.int .u32 V) := (cell_of_row _ _ 2 _ _ _ RTm.out).trans rfl
                have hbt := bit_test V m hV
                have fa := frozen_of_row _ _ m _ _ RAm.out
                have HNX : Hid (∀ b : Bool, b = (ak m || (V.testBit m && !sv m)) → (wr.setCell ⟨bs + 1, m, none⟩ (.bool b)).heap[bs + 1]? = some (.cells (boolRow (askK sv ak V (m + 1))) 37 (0, 0))) := Lib.hid (fun b hb => by
                  rw [← askK_step sv ak V m hm1, ← hb, ← boolRow_set _ b hmlt]; exact heap_setCell_same _ _ _ _ _ _ RAm.out)
                have HNB : Hid (∀ b : Bool, (wr.setCell ⟨bs + 1, m, none⟩ (.bool b)).heap[bx]? = some (.cells st2.c 26 (0, 0)) ∧ (wr.setCell ⟨bs + 1, m, none⟩ (.bool b)).heap[bs]? = some (.cells (boolRow sv) 37 (0, 0)) ∧ (wr.setCell ⟨bs + 1, m, none⟩ (.bool b)).heap[b9]? = some (.cells #[.int .i64 K, .int .u32 A, .int .u32 V] 39 (0, 0)) ∧ Below w.heap.size w (wr.setCell ⟨bs + 1, m, none⟩ (.bool b))) := Lib.hid (fun b =>
                  ⟨(heap_setCell_other _ _ _ _ (by simp; omega)).trans RXm.out, (heap_setCell_other _ _ _ _ (by simp)).trans RSm.out, (heap_setCell_other _ _ _ _ (by simp; omega)).trans RTm.out, RBm.out.setCell (p := ⟨bs + 1, m, none⟩) (by show w.heap.size ≤ bs + 1; omega) _⟩)
                have a0 : wr.cell? ⟨bs + 1, m, none⟩ = some (.bool (ak m)) := (cell_of_row _ _ m _ _ _ RAm.out).trans ((boolRow_get _ hmlt).trans (by unfold askK; rw [if_neg (by omega)]))
                have s0' : wr.cell? ⟨bs, m, none⟩ = some (.bool (sv m)) := (cell_of_row _ _ m _ _ _ RSm.out).trans (boolRow_get sv hmlt)
                cases hak : ak m with
                | true =>
                  have HAK := Lib.hid hak
                  rw [hak] at a0
                  clear hak hbt s0'
                  go_wp2_with fail
                  go_roundw
                  case rel => exact ⟨m + 1, by omega, by omega, by go_num, (HNB.out true).1, (HNB.out true).2.1, HNX.out true (by rw [HAK.out]; rfl), (HNB.out true).2.2.1, (HNB.out true).2.2.2⟩
                  case measure => simp [intOf]; omega
                | false =>
                  have HAK := Lib.hid hak
                  rw [hak] at a0
                  clear hak
                  cases hbit : V.testBit m with
                  | false =>
                    have HBI := Lib.hid hbit
                    rw [hbit] at hbt
                    clear hbit s0'
                    go_wp2_with fail
                    go_roundw
                    case rel => exact ⟨m + 1, by omega, by omega, by go_num, (HNB.out false).1, (HNB.out false).2.1, HNX.out false (by rw [HAK.out, HBI.out]; rfl), (HNB.out false).2.2.1, (HNB.out false).2.2.2⟩
                    case measure => simp [intOf]; omega
                  | true =>
                    have HBI := Lib.hid hbit
                    rw [hbit] at hbt
                    clear hbit
                    cases hsv : sv m with
                    | true =>
                      have HSV := Lib.hid hsv
                      rw [hsv] at s0'
                      clear hsv
                      go_wp2_with fail
                      go_roundw
                      case rel => exact ⟨m + 1, by omega, by omega, by go_num, (HNB.out false).1, (HNB.out false).2.1, HNX.out false (by rw [HAK.out, HBI.out, HSV.out]; rfl), (HNB.out false).2.2.1, (HNB.out false).2.2.2⟩
                      case measure => simp [intOf]; omega
                    | false =>
                      have HSV := Lib.hid hsv
                      rw [hsv] at s0'
                      clear hsv
                      go_wp2_with fail
                      go_roundw
                      case rel => exact ⟨m + 1, by omega, by omega, by go_num, (HNB.out true).1, (HNB.out true).2.1, HNX.out true (by rw [HAK.out, HBI.out, HSV.out]; rfl), (HNB.out true).2.2.1, (HNB.out true).2.2.2⟩
                      case measure => simp [intOf]; omega
              · obtain rfl : m = 8 := by omega
                have HCK : Hid (∀ W, Calls Tryd.prog 17 #[.agg st2.c] W fun e w' => e = .returned .nilIface ∧ Below W.heap.size W w') := Lib.hid (plic_Check_ok st2 HIN.out.wf HIN.out.ok)
                go_upto_region 35 with fail
                go_wp2_with (first | (refine wpList_load_row rfl 26 _ rfl bx rfl 26 st2.c (0, 0) _ RXm.out Tryd.underlying26 rfl HID.out ?_))
                refine (HCK.out _).mono ?_
                rintro e w99 ⟨rfl, hb⟩
                go_wp2_with fail
                go_roundw
                case rel => exact ⟨k + 1, st2, sv, (askK sv ak V 8), by omega, by go_num, HIN.out, once_cells RXm.out hb, once_cells RSm.out hb, once_cells RAm.out hb, RBm.out.trans (hb.mono RBm.out.size)⟩
                case measure => simp [intOf]; omega

          · obtain ⟨st2, hst2⟩ : ∃ st2 : PS, st2 = { st with pe := levelN st.pe st.bu V } := ⟨_, rfl⟩
            have hlv := plic_Level st V hst hV
            have hin := once_level st sv ak HI.out V hV
            rw [← hst2] at hlv hin
            have HW : Hid (∀ W, Calls Tryd.prog 13 #[.agg st.c, .int .u32 V] W fun e w' => e = .returned (.agg st2.c) ∧ Below W.heap.size W w') := Lib.hid hlv
            have HIN := Lib.hid hin
            clear hlv hin hst2
            have t2 : w5.cell? ⟨b9, 2, none⟩ = some (.int .u32 V) := (cell_of_row _ _ 2 _ _ _ RT5.out).trans rfl
            go_wp2_with (first | (refine wpList_load_row rfl 26 _ rfl bx rfl 26 st.c (0, 0) _ RX5.out Tryd.underlying26 rfl HID.out ?_))
            refine (HW.out _).mono ?_
            rintro e w6 ⟨rfl, hb⟩
            have RX6 := Lib.hid (once_cells RX5.out hb)
            have RS6 := Lib.hid (once_cells RS5.out hb)
            have RA6 := Lib.hid (once_cells RA5.out hb)
            have RT6 := Lib.hid (once_cells RT5.out hb)
            have RB6 := Lib.hid (RB5.out.trans (hb.mono RB5.out.size))
            clear hb
            clear t2
            have RX7 := Lib.hid (show (w6.setRow bx st2.c).heap[bx]? = some (.cells st2.c 26 (0, 0)) from setRow_heap _ _ _ _ _ _ RX6.out)
            have RS7 := Lib.hid (show (w6.setRow bx st2.c).heap[bs]? = _ from (once_row (by omega)).trans RS6.out)
            have RA7 := Lib.hid (show (w6.setRow bx st2.c).heap[bs + 1]? = _ from (once_row (by omega)).trans RA6.out)
            have RT7 := Lib.hid (show (w6.setRow bx st2.c).heap[b9]? = _ from (once_row (by omega)).trans RT6.out)
            have RB7 := Lib.hid (show Below w.heap.size w (w6.setRow bx st2.c) from below_setRow RB6.out (by omega) _)
            go_wp2_with (first | (refine wpList_store_row rfl 26 _ _ rfl bx st2.c rfl rfl 26 st.c RX6.out HID.out rfl (PS.c_one st2) ?_))
            generalize w6.setRow bx st2.c = w7 at RX7 RS7 RA7 RT7 RB7 ⊢
            clear RX6 RS6 RA6 RT6 RB6 RX5 RS5 RA5 RT5 RB5
            go_loopw [17] (fun j wq => ∃ m : Nat, 1 ≤ m ∧ m ≤ 8 ∧ j = .int .i64 m ∧ wq.heap[bx]? = some (.cells st2.c 26 (0, 0)) ∧ wq.heap[bs]? = some (.cells (boolRow sv) 37 (0, 0)) ∧ wq.heap[bs + 1]? = some (.cells (boolRow (askK sv ak V m)) 37 (0, 0)) ∧ wq.heap[b9]? = some (.cells #[.int .i64 K, .int .u32 A, .int .u32 V] 39 (0, 0)) ∧ Below w.heap.size w wq) (fun j _ => 8 - (intOf j).toNat)
            case atStart => exact ⟨1, by omega, by omega, rfl, RX7.out, RS7.out, by rw [askK_one]; exact RA7.out, RT7.out, RB7.out⟩
            case round =>
              obtain ⟨m, hm1, hm8, rfl, rx, rs, ra, rt, rb⟩ := hrel
              have RXm := Lib.hid rx
              have RSm := Lib.hid rs
              have RAm := Lib.hid ra
              have RTm := Lib.hid rt
              have RBm := Lib.hid rb
              clear rx rs ra rt rb RX7 RS7 RA7 RT7 RB7
              by_cases hmlt : m < 8
              · have hm8i : (m : Int) < 8 := by omega
                have hm0i : (0 : Int) ≤ (m : Int) := by omega
                have t2 : wr.cell? ⟨b9, 2, none⟩ = some (.int .u32 V) := (cell_of_row _ _ 2 _ _ _ RTm.out).trans rfl
                have hbt := bit_test V m hV
                have fa := frozen_of_row _ _ m _ _ RAm.out
                have HNX : Hid (∀ b : Bool, b = (ak m || (V.testBit m && !sv m)) → (wr.setCell ⟨bs + 1, m, none⟩ (.bool b)).heap[bs + 1]? = some (.cells (boolRow (askK sv ak V (m + 1))) 37 (0, 0))) := Lib.hid (fun b hb => by
                  rw [← askK_step sv ak V m hm1, ← hb, ← boolRow_set _ b hmlt]; exact heap_setCell_same _ _ _ _ _ _ RAm.out)
                have HNB : Hid (∀ b : Bool, (wr.setCell ⟨bs + 1, m, none⟩ (.bool b)).heap[bx]? = some (.cells st2.c 26 (0, 0)) ∧ (wr.setCell ⟨bs + 1, m, none⟩ (.bool b)).heap[bs]? = some (.cells (boolRow sv) 37 (0, 0)) ∧ (wr.setCell ⟨bs + 1, m, none⟩ (.bool b)).heap[b9]? = some (.cells #[.int .i64 K, .int .u32 A, .int .u32 V] 39 (0, 0)) ∧ Below w.heap.size w (wr.setCell ⟨bs + 1, m, none⟩ (.bool b))) := Lib.hid (fun b =>
                  ⟨(heap_setCell_other _ _ _ _ (by simp; omega)).trans RXm.out, (heap_setCell_other _ _ _ _ (by simp)).trans RSm.out, (heap_setCell_other _ _ _ _ (by simp; omega)).trans RTm.out, RBm.out.setCell (p := ⟨bs + 1, m, none⟩) (by show w.heap.size ≤ bs + 1; omega) _⟩)
                have a0 : wr.cell? ⟨bs + 1, m, none⟩ = some (.bool (ak m)) := (cell_of_row _ _ m _ _ _ RAm.out).trans ((boolRow_get _ hmlt).trans (by unfold askK; rw [if_neg (by omega)]))
                have s0' : wr.cell? ⟨bs, m, none⟩ = some (.bool (sv m)) := (cell_of_row _ _ m _ _ _ RSm.out).trans (boolRow_get sv hmlt)
                cases hak : ak m with
                | true =>
                  have HAK := Lib.hid hak
                  rw [hak] at a0
                  clear hak hbt s0'
                  go_wp2_with fail
                  go_roundw
                  case rel => exact ⟨m + 1, by omega, by omega, by go_num, (HNB.out true).1, (HNB.out true).2.1, HNX.out true (by rw [HAK.out]; rfl), (HNB.out true).2.2.1, (HNB.out true).2.2.2⟩
                  case measure => simp [intOf]; omega
                | false =>
                  have HAK := Lib.hid hak
                  rw [hak] at a0
                  clear hak
                  cases hbit : V.testBit m with
                  | false =>
                    have HBI := Lib.hid hbit
                    rw [hbit] at hbt
                    clear hbit s0'
                    go_wp2_with fail
                    go_roundw
                    case rel => exact ⟨m + 1, by omega, by omega, by go_num, (HNB.out false).1, (HNB.out false).2.1, HNX.out false (by rw [HAK.out, HBI.out]; rfl), (HNB.out false).2.2.1, (HNB.out false).2.2.2⟩
                    case measure => simp [intOf]; omega
                  | true =>
                    have HBI := Lib.hid hbit
                    rw [hbit] at hbt
                    clear hbit
                    cases hsv : sv m with
                    | true =>
                      have HSV := Lib.hid hsv
                      rw [hsv] at s0'
                      clear hsv
                      go_wp2_with fail
                      go_roundw
                      case rel => exact ⟨m + 1, by omega, by omega, by go_num, (HNB.out false).1, (HNB.out false).2.1, HNX.out false (by rw [HAK.out, HBI.out, HSV.out]; rfl), (HNB.out false).2.2.1, (HNB.out false).2.2.2⟩
                      case measure => simp [intOf]; omega
                    | false =>
                      have HSV := Lib.hid hsv
                      rw [hsv] at s0'
                      clear hsv
                      go_wp2_with fail
                      go_roundw
                      case rel => exact ⟨m + 1, by omega, by omega, by go_num, (HNB.out true).1, (HNB.out true).2.1, HNX.out true (by rw [HAK.out, HBI.out, HSV.out]; rfl), (HNB.out true).2.2.1, (HNB.out true).2.2.2⟩
                      case measure => simp [intOf]; omega
              · obtain rfl : m = 8 := by omega
                have HCK : Hid (∀ W, Calls Tryd.prog 17 #[.agg st2.c] W fun e w' => e = .returned .nilIface ∧ Below W.heap.size W w') := Lib.hid (plic_Check_ok st2 HIN.out.wf HIN.out.ok)
                go_upto_region 35 with fail
                go_wp2_with (first | (refine wpList_load_row rfl 26 _ rfl bx rfl 26 st2.c (0, 0) _ RXm.out Tryd.underlying26 rfl HID.out ?_))
                refine (HCK.out _).mono ?_
                rintro e w99 ⟨rfl, hb⟩
                go_wp2_with fail
                go_roundw
                case rel => exact ⟨k + 1, st2, sv, (askK sv ak V 8), by omega, by go_num, HIN.out, once_cells RXm.out hb, once_cells RSm.out hb, once_cells RAm.out hb, RBm.out.trans (hb.mono RBm.out.size)⟩
                case measure => simp [intOf]; omega

      · have hk5' : ¬ ((k : Int) < 60) := by omega
        have hk6 : (k : Int) < ↑n := by omega
        clear hkn hk1 hk2
        go_wp2_with fail
        refine (HS.out _ (HT.out.below RB.out)).mono ?_
        rintro e w9 ⟨rfl, hb9⟩
        go_wp2_with fail
        go_ret
        exact ⟨rfl, RB.out.trans (hb9.mono RB.out.size)⟩

    · have hk5' : ¬ ((k : Int) < ↑n) := by omega
      clear hkn hk1
      go_wp2_with fail
      refine (HS.out _ (HT.out.below RB.out)).mono ?_
      rintro e w9 ⟨rfl, hb9⟩
      go_wp2_with fail
      go_ret
      exact ⟨rfl, RB.out.trans (hb9.mono RB.out.size)⟩


theorem law9_PlicOnce (s : PS) (hs : s.wf) (p : Option Addr) (n cap : Nat) (w : World) (HL : ActsAt w p n) (ht : Tab32 w) :
    Calls Tryd.prog 5 #[s.v, .slice p n cap] w fun e w' => e = .returned (.bool true) ∧ Below w.heap.size w w' := by
  have HS : Hid (∀ W, Tab32 W → Calls Tryd.prog 15 #[] W fun e w' => e = .returned (.bool true) ∧ Below W.heap.size W w') := Lib.hid (fun W hW => law9_sure W hW)
  by_cases hok : s.okc
  · have HC : Hid (∀ W, Calls Tryd.prog 17 #[.agg s.c] W fun e w' => e = .returned .nilIface ∧ Below W.heap.size W w') := Lib.hid (plic_Check_ok s hs hok)
    exact once_ok s s.c p n cap w (Lib.hid ⟨rfl, hok, hs⟩) rfl s.c_one HS (Lib.hid ht) HC (Lib.hid HL)
  · have HC : Hid (∀ W, Calls Tryd.prog 17 #[.agg s.c] W fun e w' => e = .returned (.iface 116 (.int .i64 1)) ∧ Below W.heap.size W w') := Lib.hid (plic_Check_bad s hs hok)
    exact once_err s.c p n cap w rfl s.c_one HS (Lib.hid ht) HC

end Go.Proofs.YtenafjdlaefepaaDoor

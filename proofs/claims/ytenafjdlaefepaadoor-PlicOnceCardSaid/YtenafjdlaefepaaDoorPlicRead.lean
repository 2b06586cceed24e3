/-
plic.Read at the claim's place, walked: who is served next, and what becomes of the state.
Condition: math/bits' table reads as its text lays it.
-/
import Derived.Test.YtenafjdlaefepaaDoorBest
namespace Go.Proofs.YtenafjdlaefepaaDoor
open Go.RowKit

set_option maxHeartbeats 400000 in
theorem plic_source (at_ : Nat) (w : World) (h : at_ < 4294967296) :
    Calls Tryd.prog 54 #[.int .u32 at_] w fun e w' => e = .returned (.tuple #[.int .i64 (at_ / 4 : Nat), .bool (decide (at_ % 4 = 0) && decide (at_ / 4 ≤ 7))]) ∧ w = w' := by
  by_cases h1 : at_ % 4 = 0
  · have h1b : (((at_ : Int) % 4 == 0)) = true := by simp; omega
    by_cases h2 : at_ / 4 ≤ 7
    · go_enter Tryd.func54, Tryd.ntmps54
      go_wp2
      go_ret2
      exact ⟨by simp [h1, h2]; omega, rfl⟩
    · have h2b : ¬ ((at_ : Int) / 4 ≤ 7) := by omega
      go_enter Tryd.func54, Tryd.ntmps54
      go_wp2
      go_ret2
      exact ⟨by simp, rfl⟩
  · have h1b : (((at_ : Int) % 4 == 0)) = false := by simp; omega
    go_enter Tryd.func54, Tryd.ntmps54
    go_wp2
    go_ret2
    exact ⟨by simp [h1], rfl⟩

theorem best_lt (s : PS) : s.best ≤ 8 := bestK_le _ _ _ _
theorem bestK_lt (x : Nat) (p : Nat → Nat) (th : Nat) : ∀ k, 1 ≤ k → (bestK x p th k).1 < k
  | 0, h => by omega
  | 1, _ => by
    have e : bestK x p th 1 = if x.testBit 0 = true ∧ th < p 0 then (0, p 0) else (0, th) := rfl
    rw [e]
    by_cases h : x.testBit 0 = true ∧ th < p 0
    · rw [if_pos h]; simp
    · rw [if_neg h]; simp
  | k + 2, _ => by
    have ih := bestK_lt x p th (k + 1) (by omega)
    have e : bestK x p th (k + 2) = if x.testBit (k + 1) = true ∧ (bestK x p th (k + 1)).2 < p (k + 1) then (k + 1, p (k + 1)) else bestK x p th (k + 1) := rfl
    rw [e]
    split
    · simp
    · omega
theorem best_le7 (s : PS) : s.best ≤ 7 := by have := bestK_lt s.mask s.pri s.th 8 (by omega); unfold PS.best; omega
/-- What a claim makes of a state. -/
def PS.claim (s : PS) : PS := if s.best = 0 then s else { s with pe := s.pe &&& (4294967295 - 2 ^ s.best), bu := s.bu ||| 2 ^ s.best }

set_option maxRecDepth 100000 in
set_option maxHeartbeats 1000000 in
theorem plic_claim (s : PS) (hs : s.wf) (w : World) (ht : Tab32 w) :
    Calls Tryd.prog 18 #[s.v, .int .u32 2097156] w fun e w' => e = .returned (.tuple #[s.claim.v, .int .u32 (s.best : Nat), .nilIface]) ∧ Below w.heap.size w w' := by
  have hn7 := best_le7 s
  have HB0 := Lib.hid (plic_Best s hs)
  have HSO := Lib.hid (plic_source 2097156)
  have HPE := Lib.hid hs.hpe
  have HBU := Lib.hid hs.hbu
  have HT := Lib.hid ht
  clear ht hs
  have HCL : Hid (s.claim = if s.best = 0 then s else { s with pe := s.pe &&& (4294967295 - 2 ^ s.best), bu := s.bu ||| 2 ^ s.best }) := Lib.hid rfl
  obtain ⟨n, hn⟩ : ∃ n, n = s.best := ⟨_, rfl⟩
  obtain ⟨t, hct⟩ : ∃ t, t = s.claim := ⟨_, rfl⟩
  rw [← hn] at hn7 HB0 HCL ⊢
  rw [← hct] at HCL ⊢
  clear hn hct
  unfold PS.v
  unfold PS.v at HB0
  go_enter Tryd.func18, Tryd.ntmps18
  go_wp2_with fail
  refine (HSO.out _ (by omega)).mono ?_
  rintro e w' ⟨rfl, rfl⟩
  go_wp2_with fail
  refine (HB0.out _ (HT.out.below (((Below.refl _ _).alloc (Nat.le_refl _) _).alloc (by simp) _))).mono ?_
  rintro e w' ⟨rfl, hb2⟩
  have HBL := Lib.hid ((((Below.refl w.heap.size w).alloc (Nat.le_refl _) _).alloc (by simp) _).trans (hb2.mono (by simp; omega)))
  have HB : Hid (w'.heap[w.heap.size]? = some (.cells s.c 26 (0, 0))) := Lib.hid ((hb2.block _ (by simp; omega)).trans (heap_alloc2_old _ _ _))
  have HZ : Hid (w'.heap[w.heap.size + 1]? = some (.cells PS.zero.c 26 (0, 0))) := Lib.hid ((hb2.block _ (by simp)).trans (heap_alloc2_new _ _ _))
  clear hb2
  by_cases h0 : n = 0
  · have ht : t = s := by rw [HCL.out, if_pos h0]
    clear HCL
    subst ht
    subst h0
    go_wp2_with (first | (refine wpList_load_row rfl 26 _ rfl w.heap.size rfl 26 t.c (0, 0) _ HB.out Tryd.underlying26 rfl (by kernel_rfl) ?_) | (refine wpList_store_row rfl 26 _ _ rfl (w.heap.size + 1) t.c rfl rfl 26 PS.zero.c HZ.out (by kernel_rfl) rfl (PS.c_one _) ?_))
    exact bodyPost_ret (results_cell_tmp2 Tryd.results18 _ _ (w.heap.size + 1) 26 t.c (0, 0) _ rfl (setRow_heap _ _ _ _ _ _ HZ.out) Tryd.underlying26 rfl (by kernel_rfl)) rfl ⟨rfl, below_setRow HBL.out (by simp) _⟩
  · have hfr10 := frozen_of_row w' w.heap.size 10 _ _ HB.out
    have hfr11 := frozen_of_row w' w.heap.size 11 _ _ HB.out
    have hc10 : w'.cell? ⟨w.heap.size, 10, none⟩ = some (.int .u32 s.pe) := (cell_of_row w' w.heap.size 10 _ _ _ HB.out).trans rfl
    have hc11 : w'.cell? ⟨w.heap.size, 11, none⟩ = some (.int .u32 s.bu) := (cell_of_row w' w.heap.size 11 _ _ _ HB.out).trans rfl
    have e2 : (2 : Int) ^ n % 4294967296 = ((2 ^ n : Nat) : Int) := by
      have : 2 ^ n ≤ 2 ^ 7 := Nat.pow_le_pow_right (by omega) hn7
      have e : (2 : Int) ^ n = ((2 ^ n : Nat) : Int) := by simp
      rw [e]; generalize 2 ^ n = q at this ⊢; omega
    have h2n : 2 ^ n < 4294967296 := two_pow_lt (by omega)
    have HX : Hid (bits BinOp.andNot IntKind.u32 (s.pe : Int) ((2 : Int) ^ n % 4294967296) = ((s.pe &&& (4294967295 - 2 ^ n) : Nat) : Int)) := Lib.hid (by rw [e2, u32_andNot_nat _ _ HPE.out h2n])
    have HY : Hid (bits BinOp.or IntKind.u32 (s.bu : Int) ((2 : Int) ^ n % 4294967296) = ((s.bu ||| 2 ^ n : Nat) : Int)) := Lib.hid (by rw [e2, u32_or_nat _ _ HBU.out h2n])
    have ht : t = { s with pe := s.pe &&& (4294967295 - 2 ^ n), bu := s.bu ||| 2 ^ n } := by rw [HCL.out, if_neg h0]
    have HT2 := Lib.hid ht
    have HB2 : Hid ((((w'.setCell ⟨w.heap.size, 10, none⟩ (.int .u32 (bits BinOp.andNot IntKind.u32 (s.pe : Int) ((2 : Int) ^ n % 4294967296)))).setCell ⟨w.heap.size, 11, none⟩ (.int .u32 (bits BinOp.or IntKind.u32 (s.bu : Int) ((2 : Int) ^ n % 4294967296)))).drew.drew).heap[w.heap.size]? = some (.cells t.c 26 (0, 0))) := Lib.hid (by
      rw [HX.out, HY.out, ht]
      show ((w'.setCell _ _).setCell _ _).heap[_]? = _
      rw [heap_setCell_same _ _ _ _ _ _ (heap_setCell_same _ _ _ _ _ _ HB.out)]
      rfl)
    have HZ2 : Hid ((((w'.setCell ⟨w.heap.size, 10, none⟩ (.int .u32 (bits BinOp.andNot IntKind.u32 (s.pe : Int) ((2 : Int) ^ n % 4294967296)))).setCell ⟨w.heap.size, 11, none⟩ (.int .u32 (bits BinOp.or IntKind.u32 (s.bu : Int) ((2 : Int) ^ n % 4294967296)))).drew.drew).heap[w.heap.size + 1]? = some (.cells PS.zero.c 26 (0, 0))) := Lib.hid (by
      show ((w'.setCell _ _).setCell _ _).heap[_]? = _
      rw [heap_setCell_other _ _ _ _ (by simp), heap_setCell_other _ _ _ _ (by simp)]
      exact HZ.out)
    have hpos : 0 < n := by omega
    clear ht e2 h2n HCL HB0 HSO h0
    go_wp2_with fail
    go_region
    go_wp2_with fail
    go_region
    go_wp2_with (first | (refine wpList_load_row rfl 26 _ rfl w.heap.size rfl 26 t.c (0, 0) _ HB2.out Tryd.underlying26 rfl (by kernel_rfl) ?_) | (refine wpList_store_row rfl 26 _ _ rfl (w.heap.size + 1) t.c rfl rfl 26 PS.zero.c HZ2.out (by kernel_rfl) rfl (PS.c_one _) ?_))
    exact bodyPost_ret (results_cell_tmp2 Tryd.results18 _ _ (w.heap.size + 1) 26 t.c (0, 0) _ rfl (setRow_heap _ _ _ _ _ _ HZ2.out) Tryd.underlying26 rfl (by kernel_rfl)) rfl ⟨rfl, below_setRow (((HBL.out.setCell (by simp) _).setCell (by simp) _).drew.drew) (by simp) _⟩
end Go.Proofs.YtenafjdlaefepaaDoor

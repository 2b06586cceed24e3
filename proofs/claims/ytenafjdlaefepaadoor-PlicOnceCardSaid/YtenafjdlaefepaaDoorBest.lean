/-
plic.Best, walked: the source that is served next, as a plain function of the state.
Condition: math/bits' table reads as its text lays it.
-/
import Derived.Test.YtenafjdlaefepaaDoorPlic
import Derived.Test.YtenafjdlaefepaaDoorTz
namespace Go.Proofs.YtenafjdlaefepaaDoor
open Go.RowKit

def PS.pri (s : PS) : Nat → Nat
  | 0 => s.p0 | 1 => s.p1 | 2 => s.p2 | 3 => s.p3 | 4 => s.p4 | 5 => s.p5 | 6 => s.p6 | 7 => s.p7 | _ => 0
/-- Best and top, when the places below k were gone over. -/
def bestK (x : Nat) (p : Nat → Nat) (th : Nat) : Nat → Nat × Nat
  | 0 => (0, th)
  | k + 1 => if x.testBit k = true ∧ (bestK x p th k).2 < p k then (k, p k) else bestK x p th k
def PS.mask (s : PS) : Nat := s.pe &&& s.en &&& 254
def PS.best (s : PS) : Nat := (bestK s.mask s.pri s.th 8).1
theorem bestK_le (x : Nat) (p : Nat → Nat) (th : Nat) : ∀ k, (bestK x p th k).1 ≤ k
  | 0 => by simp [bestK]
  | k + 1 => by
    have := bestK_le x p th k
    simp only [bestK]
    split
    · simp
    · omega
def hiN (x k : Nat) : Nat := x / 2 ^ k * 2 ^ k
def roundB (x k : Nat) : Bool := hiN x k == 0 || (decide (k ≤ tz8 (hiN x k)) && decide (hiN x k < 256) && (hiN x k &&& (hiN x k - 1) == hiN x (tz8 (hiN x k) + 1)) && x.testBit (tz8 (hiN x k)) &&
  (List.range 8).all fun i => decide (i < k) || decide (tz8 (hiN x k) ≤ i) || !x.testBit i)
def endB (x k : Nat) : Bool := hiN x k != 0 || (List.range 8).all fun i => decide (i < k) || !x.testBit i
theorem roundB_all : ((List.range 256).all fun x => (List.range 9).all fun k => roundB x k && endB x k) = true := by decide +kernel
theorem roundB_one (x k : Nat) (hx : x < 256) (hk : k < 9) : roundB x k = true ∧ endB x k = true := by
  have h := List.all_eq_true.1 (List.all_eq_true.1 roundB_all x (by simpa using hx)) k (by simpa using hk)
  simpa using h
theorem best_round (x k : Nat) (hx : x < 256) (hk : k < 9) (h0 : hiN x k ≠ 0) :
    k ≤ tz8 (hiN x k) ∧ hiN x k < 256 ∧ (hiN x k &&& (hiN x k - 1)) = hiN x (tz8 (hiN x k) + 1) ∧ x.testBit (tz8 (hiN x k)) = true ∧ ∀ i : Nat, i < 8 → k ≤ i → i < tz8 (hiN x k) → x.testBit i = false := by
  have h := (roundB_one x k hx hk).1
  simp only [roundB, Bool.or_eq_true, beq_iff_eq, Bool.and_eq_true, decide_eq_true_eq, List.all_eq_true, List.mem_range, Bool.not_eq_true'] at h
  rcases h with h | ⟨⟨⟨⟨h1, h2⟩, h3⟩, h4⟩, h5⟩
  · exact absurd h h0
  · refine ⟨h1, h2, h3, h4, fun i hi h6 h7 => ?_⟩
    rcases h5 i hi with (h | h) | h
    · omega
    · omega
    · exact h
theorem best_end (x k : Nat) (hx : x < 256) (hk : k < 9) (h0 : hiN x k = 0) : ∀ i : Nat, i < 8 → k ≤ i → x.testBit i = false := by
  intro i hi hki
  have h := (roundB_one x k hx hk).2
  simp only [endB, Bool.or_eq_true, bne_iff_ne, decide_eq_true_eq, List.all_eq_true, List.mem_range, Bool.not_eq_true'] at h
  rcases h with h | h
  · exact absurd h0 h
  · rcases h i hi with h | h
    · omega
    · exact h
theorem bestK_step (x : Nat) (p : Nat → Nat) (th k n : Nat) (hb : x.testBit n = true) (he : bestK x p th n = bestK x p th k) : bestK x p th (n + 1) = if (bestK x p th k).2 < p n then (n, p n) else bestK x p th k := by
  simp only [bestK, hb, he, true_and]
theorem Tab32.drewN {w : World} (h : Tab32 w) (m : Nat) : Tab32 (w.drewN m) := fun j hj => h j hj
theorem bestK_skip (x : Nat) (p : Nat → Nat) (th k : Nat) : ∀ d, (∀ i, k ≤ i → i < k + d → x.testBit i = false) → bestK x p th (k + d) = bestK x p th k
  | 0, _ => rfl
  | d + 1, h => by
    have ih := bestK_skip x p th k d (fun i h1 h2 => h i h1 (by omega))
    have hb := h (k + d) (by omega) (by omega)
    show bestK x p th ((k + d) + 1) = _
    simp only [bestK, hb]
    simpa using ih

theorem mask_bits (s : PS) (hs : s.wf) : bits BinOp.and IntKind.u32 (bits BinOp.and IntKind.u32 (s.pe : Int) (s.en : Int)) 254 = ((s.mask : Nat) : Int) := by
  rw [u32_and_nat _ _ hs.hpe hs.hen, show (254 : Int) = ((254 : Nat) : Int) from rfl, u32_and_nat _ _ (Nat.lt_of_le_of_lt Nat.and_le_left hs.hpe) (by omega)]
  rfl
theorem PS.mask_lt (s : PS) : s.mask < 256 := Nat.lt_of_le_of_lt Nat.and_le_right (by omega)
theorem hiN_zero (x : Nat) : hiN x 0 = x := by simp [hiN]
theorem left_bits (x : Nat) (h : x < 256) (h0 : x ≠ 0) : bits BinOp.and IntKind.u32 (x : Int) ((x : Int) - 1) = ((x &&& (x - 1) : Nat) : Int) := by
  rw [show ((x : Int) - 1) = ((x - 1 : Nat) : Int) by omega, u32_and_nat _ _ (by omega) (by omega)]

set_option maxRecDepth 100000 in
set_option maxHeartbeats 1000000 in
theorem plic_Best (s : PS) (hs : s.wf) (w : World) (ht : Tab32 w) :
    Calls Tryd.prog 16 #[s.v] w fun e w' => e = .returned (.int .i64 (s.best : Nat)) ∧ Below w.heap.size w w' := by
  have HM := Lib.hid (mask_bits s hs)
  have HX := Lib.hid s.mask_lt
  have hpri : ∀ n, n < 8 → s.pri n < 4294967296 := fun n hn => by
    have : n = 0 ∨ n = 1 ∨ n = 2 ∨ n = 3 ∨ n = 4 ∨ n = 5 ∨ n = 6 ∨ n = 7 := by omega
    rcases this with rfl | rfl | rfl | rfl | rfl | rfl | rfl | rfl
    · exact hs.h0
    · exact hs.h1
    · exact hs.h2
    · exact hs.h3
    · exact hs.h4
    · exact hs.h5
    · exact hs.h6
    · exact hs.h7
  have HP := Lib.hid hpri
  have hcell : ∀ n, n < 8 → (w.alloc (.cells s.c 26)).cell? ⟨w.heap.size, n, none⟩ = some (.int .u32 (s.pri n : Nat)) := fun n hn => by
    rw [cell_of_row _ _ n s.c 26 (0, 0) (heap_alloc_new w _)]
    have : n = 0 ∨ n = 1 ∨ n = 2 ∨ n = 3 ∨ n = 4 ∨ n = 5 ∨ n = 6 ∨ n = 7 := by omega
    rcases this with rfl | rfl | rfl | rfl | rfl | rfl | rfl | rfl <;> rfl
  have HC := Lib.hid hcell
  have HT := Lib.hid (show Tab32 (w.alloc (.cells s.c 26)) from ht.below ((Below.refl _ _).alloc (Nat.le_refl _) _))
  clear hs hpri hcell ht
  unfold PS.v
  go_enter Tryd.func16, Tryd.ntmps16
  go_wp2_with fail
  go_quiet (fail)
  go_wp2_with fail
  rw [HM.out]
  go_loopw [3, 4, 5] (fun b t l wr => ∃ k : Nat, k ≤ 8 ∧ b = .int .i64 ((bestK s.mask s.pri s.th k).1 : Nat) ∧ t = .int .u32 ((bestK s.mask s.pri s.th k).2 : Nat) ∧ l = .int .u32 (hiN s.mask k : Nat) ∧ (∀ n, n < 8 → wr.cell? ⟨w.heap.size, n, none⟩ = some (.int .u32 (s.pri n : Nat))) ∧ Tab32 wr ∧ Below w.heap.size w wr) (fun _ _ l _ => (intOf l).toNat)
  case atStart => exact ⟨0, by omega, rfl, rfl, by rw [hiN_zero], HC.out, HT.out.drewN nq, below_drewN ((Below.refl _ _).alloc (Nat.le_refl _) _) nq⟩
  case round =>
    obtain ⟨k, hk, rfl, rfl, rfl, hcr, htr, hbr⟩ := hrel
    have HCR := Lib.hid hcr
    have HTR := Lib.hid htr
    clear hcr htr
    by_cases h0 : hiN s.mask k = 0
    · have HE := Lib.hid (best_end s.mask k HX.out (by omega) h0)
      have h0b : ((hiN s.mask k : Int) != 0) = false := by simp [h0]
      clear h0
      go_wp2_with fail
      go_ret
      refine ⟨ret_i ?_, hbr⟩
      have := bestK_skip s.mask s.pri s.th k (8 - k) (fun i h1 h2 => HE.out i (by omega) h1)
      rw [show k + (8 - k) = 8 by omega] at this
      unfold PS.best
      rw [this]
    · obtain ⟨r1, r2, r3, r4, r5⟩ := best_round s.mask k HX.out (by omega) h0
      have hn7 := tz8_le (hiN s.mask k)
      have HB := Lib.hid (bestK_skip s.mask s.pri s.th k (tz8 (hiN s.mask k) - k) (fun i h1 h2 => r5 i (by omega) h1 (by omega)))
      have h0b : ((hiN s.mask k : Int) != 0) = true := by simp [h0]
      have HL := Lib.hid (left_bits (hiN s.mask k) r2 h0)
      have HT1 := Lib.hid (tz_32 (hiN s.mask k) (by omega) r2 _ HTR.out)
      have hland : hiN s.mask k &&& (hiN s.mask k - 1) ≤ hiN s.mask k - 1 := Nat.and_le_right
      have R3 := Lib.hid r3
      have R4 := Lib.hid r4
      have hpos : 0 < hiN s.mask k := by omega
      clear r3 r4 r5 h0
      obtain ⟨l, hl⟩ : ∃ l, l = hiN s.mask k := ⟨_, rfl⟩
      rw [← hl] at r1 r2 R3 R4 hn7 HB h0b HL HT1 hland hpos ⊢
      clear hl
      obtain ⟨n, hn⟩ : ∃ n, n = tz8 l := ⟨_, rfl⟩
      rw [← hn] at r1 R3 R4 hn7 HB HT1
      clear hn
      obtain ⟨z, hz⟩ : ∃ z, z = l &&& (l - 1) := ⟨_, rfl⟩
      rw [← hz] at R3 HL hland
      clear hz
      have hcn := HCR.out n (by omega)
      have hpn := HP.out n (by omega)
      go_wp2_with fail
      refine HT1.out.mono ?_
      rintro e w' ⟨rfl, rfl⟩
      have HN : Hid (bestK s.mask s.pri s.th n = bestK s.mask s.pri s.th k) := Lib.hid (by rw [← HB.out, show k + (n - k) = n by omega])
      have HS := Lib.hid (bestK_step s.mask s.pri s.th k n R4.out HN.out)
      by_cases hgt : (bestK s.mask s.pri s.th k).2 < s.pri n
      · go_wp2_with fail
        go_quiet (fail)
        go_wp2_with fail
        rw [HL.out]
        go_wp2_with fail
        go_roundw
        case rel => exact ⟨n + 1, by omega, by rw [HS.out, if_pos hgt], by rw [HS.out, if_pos hgt], val_i R3.out, HCR.out, HTR.out.drewN _, below_drewN hbr _⟩
        case measure => simp [intOf]; omega
      · go_wp2_with fail
        rw [HL.out]
        go_wp2_with fail
        go_roundw
        case rel => exact ⟨n + 1, by omega, by rw [HS.out, if_neg (by omega)], by rw [HS.out, if_neg (by omega)], val_i R3.out, HCR.out, HTR.out, hbr⟩
        case measure => simp [intOf]; omega

end Go.Proofs.YtenafjdlaefepaaDoor

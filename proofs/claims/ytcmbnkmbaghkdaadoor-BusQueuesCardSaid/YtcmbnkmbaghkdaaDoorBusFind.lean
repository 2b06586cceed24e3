/-
bus.Find and the reference's Find, walked: both answer the same plain function of the place.
Condition: the package's table of regions reads as its text lays it.
-/
import Derived.Test.YtcmbnkmbaghkdaaDoorBus
import Derived.OwnWalk
namespace Go.Proofs.YtcmbnkmbaghkdaaDoor
open Go.RowKit

def findF (size at_ n : Nat) : Nat → Nat → Nat × Nat × Nat
  | 0, _ => (0, 0, 20)
  | c + 1, d => if fromD d ≤ at_ ∧ at_ + n ≤ fromD d + roomD size d then (if byD d ≠ 0 ∧ byD d ≠ n then (0, 0, 21) else (d, at_ - fromD d, 0)) else findF size at_ n c (d + 1)
def findN (size at_ : Nat) (n : Int) : Nat × Nat × Nat :=
  if n = 1 ∨ n = 2 ∨ n = 4 then (if at_ % n.toNat = 0 then findF size at_ n.toNat 7 1 else (0, 0, 5)) else (0, 0, 21)
theorem findF_step (size at_ n d : Nat) (h : d ≤ 7) : findF size at_ n (8 - d) d = if fromD d ≤ at_ ∧ at_ + n ≤ fromD d + roomD size d then (if byD d ≠ 0 ∧ byD d ≠ n then (0, 0, 21) else (d, at_ - fromD d, 0)) else findF size at_ n (8 - (d + 1)) (d + 1) := by
  have e : 8 - d = (7 - d) + 1 := by omega
  have e2 : 8 - (d + 1) = 7 - d := by omega
  rw [e, e2]; rfl
def findV (r : Nat × Nat × Nat) : Value := .tuple #[.int .i64 (r.1 : Int), .int .u32 (r.2.1 : Int), errV r.2.2]
def findVR (r : Nat × Nat × Nat) : Value := .tuple #[.int .i64 (r.1 : Int), .int .u32 (r.2.1 : Int), .int .i64 (r.2.2 : Int)]

set_option maxRecDepth 100000 in
set_option maxHeartbeats 1000000 in
theorem bus_Find (size at_ : Nat) (n : Int) (w : World) (hs : size < 4294967296) (ha : at_ < 4294967296) (hr : RegAt w) :
    Calls Tryd.prog 31 #[.int .u32 size, .int .u32 at_, .int .i64 n] w fun e w' => e = .returned (findV (findN size at_ n)) ∧ Below w.heap.size w w' := by
  have HR := Lib.hid hr
  clear hr
  have HW := Lib.hid (bus_wide n)
  by_cases hn : n = 1 ∨ n = 2 ∨ n = 4
  · have HQ : Hid (findN size at_ n = if at_ % n.toNat = 0 then findF size at_ n.toNat 7 1 else (0, 0, 5)) := Lib.hid (by unfold findN; rw [if_pos hn])
    obtain ⟨q, hq⟩ : ∃ q, q = findN size at_ n := ⟨_, rfl⟩
    rw [← hq] at HQ ⊢
    clear hq
    obtain ⟨m, rfl, hm⟩ : ∃ m : Nat, n = (m : Int) ∧ (m = 1 ∨ m = 2 ∨ m = 4) := ⟨n.toNat, by omega, by omega⟩
    have e1 : decide ((m : Int) = 1 ∨ (m : Int) = 2 ∨ (m : Int) = 4) = true := by simpa using hn
    rw [e1] at HW
    rw [show ((m : Int)).toNat = m from rfl] at HQ
    have hm0 : ¬ m = 0 := by omega
    clear hn e1
    by_cases hmod : at_ % m = 0
    · rw [if_pos hmod] at HQ
      have hmb : (((at_ : Int) % (m : Int)) != 0) = false := by
        have : ((at_ : Int) % (m : Int)) = ((at_ % m : Nat) : Int) := by omega
        rw [this, hmod]; rfl
      clear hmod
      have HF := Lib.hid (fun (d : Nat) W h => bus_at (d : Int) size W hs h)
      have HH := Lib.hid (fun f r b W hf hr => bus_holds f r b at_ m W hf hr ha (by omega))
      go_enter Tryd.func31, Tryd.ntmps31
      go_wp2_with fail
      refine (HW.out _).mono ?_
      rintro e w' ⟨rfl, rfl⟩
      go_wp2_with fail
      go_loopw [9] (fun i wr => ∃ d : Nat, 1 ≤ d ∧ d ≤ 8 ∧ i = .int .i64 d ∧ findF size at_ m (8 - d) d = q ∧ RegAt wr ∧ Below w.heap.size w wr) (fun i _ => 8 - (intOf i).toNat)
      case atStart => exact ⟨1, by omega, by omega, rfl, HQ.out.symm, HR.out, Below.refl _ _⟩
      case round =>
        obtain ⟨d, hd1, hd8, rfl, hdq, hwr, hbel⟩ := hrel
        have HQ2 := Lib.hid hdq
        have HWR := Lib.hid hwr
        clear hdq hwr HQ
        by_cases hd : d ≤ 7
        · have HS := Lib.hid (findF_step size at_ m d hd)
          rw [HQ2.out] at HS
          have hf := fromD_lt d
          have hrm := roomD_lt size d hs
          go_wp2_with fail
          refine (HF.out d _ HWR.out).mono ?_
          rintro e w' ⟨rfl, hb⟩
          unfold regV
          rw [show ((d : Int)).toNat = d from rfl]
          obtain ⟨f, hfe⟩ : ∃ f, f = fromD d := ⟨_, rfl⟩
          obtain ⟨r, hre⟩ : ∃ r, r = roomD size d := ⟨_, rfl⟩
          obtain ⟨b, hbe⟩ : ∃ b, b = byD d := ⟨_, rfl⟩
          rw [← hfe] at hf HS ⊢
          rw [← hre] at hrm HS ⊢
          rw [← hbe] at HS ⊢
          clear hfe hre hbe
          go_wp2_with fail
          refine (HH.out f r b _ hf hrm).mono ?_
          rintro e w'' ⟨rfl, hb2⟩
          have hrow : w''.heap[w'.heap.size]? = some (.cells #[.int .u32 f, .int .u32 r, .int .i64 b] 169 (0, 0)) := (hb2.block _ (by simp)).trans (heap_alloc_new _ _)
          have hc0 := (cell_of_row _ _ 0 _ _ _ hrow).trans rfl
          have hc2 := (cell_of_row _ _ 2 _ _ _ hrow).trans rfl
          have HB0 := (hb.alloc hb.size (.cells #[.int .u32 f, .int .u32 r, .int .i64 b] 169)).trans (hb2.mono (Nat.le_trans hb.size (by simp)))
          have HBB := Lib.hid (hbel.trans (HB0.mono hbel.size))
          have HRR := Lib.hid (HWR.out.below HB0)
          clear HF HH HB0 hb2 hrow
          by_cases hin : f ≤ at_ ∧ at_ + m ≤ f + r
          · rw [if_pos hin] at HS
            have e1 : (decide (f ≤ at_) && decide (at_ + m ≤ f + r)) = true := by simp [hin]
            rw [e1]
            have hle := hin.1
            clear hin e1
            by_cases hb0 : b = 0
            · rw [if_neg (by simp [hb0])] at HS
              subst hb0
              go_wp2_with fail
              go_quiet (fail)
              go_wp2_with fail
              go_ret3
              rw [HS.out]
              exact ⟨by simp [findV, errV]; omega, below_drewN HBB.out _⟩
            · have b0 : ((b : Int) != 0) = true := by simpa using hb0
              by_cases hbm : b = m
              · rw [if_neg (by simp [hbm])] at HS
                have b1 : ((b : Int) != (m : Int)) = false := by simp [hbm]
                go_wp2_with fail
                go_quiet (fail)
                go_wp2_with fail
                go_ret3
                rw [HS.out]
                exact ⟨by simp [findV, errV]; omega, below_drewN HBB.out _⟩
              · rw [if_pos ⟨hb0, hbm⟩] at HS
                have b1 : ((b : Int) != (m : Int)) = true := by simp; omega
                go_wp2_with fail
                go_ret3
                rw [HS.out]
                exact ⟨rfl, HBB.out⟩
          · rw [if_neg hin] at HS
            have e1 : (decide (f ≤ at_) && decide (at_ + m ≤ f + r)) = false := by simpa using hin
            rw [e1]
            clear hin e1
            go_wp2_with fail
            go_roundw
            case rel => exact ⟨d + 1, by omega, by omega, by go_num, HS.out.symm, HRR.out, HBB.out⟩
            case measure => simp [intOf]; omega
        · obtain rfl : d = 8 := by omega
          have hq8 : q = (0, 0, 20) := HQ2.out.symm
          go_wp2_with fail
          go_ret3
          rw [hq8]
          exact ⟨rfl, hbel⟩
    · rw [if_neg hmod] at HQ
      have hmb : (((at_ : Int) % (m : Int)) != 0) = true := by
        have : ((at_ : Int) % (m : Int)) = ((at_ % m : Nat) : Int) := by omega
        rw [this]; simp; omega
      clear hmod
      go_enter Tryd.func31, Tryd.ntmps31
      go_wp2_with fail
      refine (HW.out _).mono ?_
      rintro e w' ⟨rfl, rfl⟩
      go_wp2_with fail
      go_ret3
      rw [HQ.out]
      exact ⟨rfl, Below.refl _ _⟩
  · have HQ : Hid (findN size at_ n = (0, 0, 21)) := Lib.hid (by unfold findN; rw [if_neg hn])
    have e1 : decide (n = 1 ∨ n = 2 ∨ n = 4) = false := by simpa using hn
    rw [e1] at HW
    clear hn e1
    go_enter Tryd.func31, Tryd.ntmps31
    go_wp2_with fail
    refine (HW.out _).mono ?_
    rintro e w' ⟨rfl, rfl⟩
    go_wp2_with fail
    go_ret3
    rw [HQ.out]
    exact ⟨rfl, Below.refl _ _⟩
end Go.Proofs.YtcmbnkmbaghkdaaDoor

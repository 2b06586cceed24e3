/-
The reference's Base, by and Find, walked.
No condition.
-/
import Derived.Test.YtenafjdlaefepaaDoorBusFind
namespace Go.Proofs.YtenafjdlaefepaaDoor
open Go.RowKit

set_option maxHeartbeats 1000000 in
theorem ref7_Base (dev : Int) (size : Nat) (w : World) :
    Calls Tryd.prog 25 #[.int .i64 dev, .int .u32 size] w fun e w' => e = .returned (.tuple #[.int .u32 (fromD dev.toNat : Nat), .int .u32 (roomD size dev.toNat : Nat)]) ∧ w = w' := by
  have hcase : (dev ≤ 0 ∨ 7 < dev) ∨ dev = 1 ∨ dev = 2 ∨ dev = 3 ∨ dev = 4 ∨ dev = 5 ∨ dev = 6 ∨ dev = 7 := by omega
  rcases hcase with h | rfl | rfl | rfl | rfl | rfl | rfl | rfl
  · rw [fromD_out dev h, roomD_out size dev h]
    have b1 : (dev == 1) = false := by simp; omega
    have b2 : (dev == 2) = false := by simp; omega
    have b3 : (dev == 3) = false := by simp; omega
    have b4 : (dev == 4) = false := by simp; omega
    have b5 : (dev == 5) = false := by simp; omega
    have b6 : (dev == 6) = false := by simp; omega
    have b7 : (dev == 7) = false := by simp; omega
    go_enter Tryd.func25, Tryd.ntmps25
    go_wp2_with fail
    go_ret2
    exact ⟨rfl, rfl⟩
  · go_enter Tryd.func25, Tryd.ntmps25
    go_wp2_with fail
    go_ret2
    exact ⟨rfl, rfl⟩
  · go_enter Tryd.func25, Tryd.ntmps25
    go_wp2_with fail
    go_ret2
    exact ⟨rfl, rfl⟩
  · go_enter Tryd.func25, Tryd.ntmps25
    go_wp2_with fail
    go_ret2
    exact ⟨rfl, rfl⟩
  · go_enter Tryd.func25, Tryd.ntmps25
    go_wp2_with fail
    go_ret2
    exact ⟨rfl, rfl⟩
  · go_enter Tryd.func25, Tryd.ntmps25
    go_wp2_with fail
    go_ret2
    exact ⟨rfl, rfl⟩
  · go_enter Tryd.func25, Tryd.ntmps25
    go_wp2_with fail
    go_ret2
    exact ⟨rfl, rfl⟩
  · by_cases h : 2147483648 < size
    · have e : roomD size (Int.toNat 7) = 2147483648 := by show min size 2147483648 = _; omega
      rw [e]
      go_enter Tryd.func25, Tryd.ntmps25
      go_wp2_with fail
      go_ret2
      exact ⟨rfl, rfl⟩
    · have e : roomD size (Int.toNat 7) = size := by show min size 2147483648 = _; omega
      rw [e]
      go_enter Tryd.func25, Tryd.ntmps25
      go_wp2_with fail
      go_ret2
      exact ⟨rfl, rfl⟩

theorem ref7_by (d n : Nat) (w : World) (h1 : 1 ≤ d) (h7 : d ≤ 7) :
    Calls Tryd.prog 58 #[.int .i64 d, .int .i64 n] w fun e w' => e = .returned (.bool (decide (byD d = 0 ∨ byD d = n))) ∧ w = w' := by
  have hcase : d = 1 ∨ d = 2 ∨ d = 3 ∨ d = 4 ∨ d = 5 ∨ d = 6 ∨ d = 7 := by omega
  rcases hcase with rfl | rfl | rfl | rfl | rfl | rfl | rfl
  · by_cases hn : n = 4
    · subst hn
      go_enter Tryd.func58, Tryd.ntmps58
      go_wp2_with fail
      go_ret
      exact ⟨rfl, rfl⟩
    · have hb : ((n : Int) == 4) = false := by simp; omega
      have hd : decide (byD 1 = 0 ∨ byD 1 = n) = false := by simp [byD]; omega
      rw [hd]
      go_enter Tryd.func58, Tryd.ntmps58
      go_wp2_with fail
      go_ret
      exact ⟨rfl, rfl⟩
  · by_cases hn : n = 4
    · subst hn
      go_enter Tryd.func58, Tryd.ntmps58
      go_wp2_with fail
      go_ret
      exact ⟨rfl, rfl⟩
    · have hb : ((n : Int) == 4) = false := by simp; omega
      have hd : decide (byD 2 = 0 ∨ byD 2 = n) = false := by simp [byD]; omega
      rw [hd]
      go_enter Tryd.func58, Tryd.ntmps58
      go_wp2_with fail
      go_ret
      exact ⟨rfl, rfl⟩
  · by_cases hn : n = 1
    · subst hn
      go_enter Tryd.func58, Tryd.ntmps58
      go_wp2_with fail
      go_ret
      exact ⟨rfl, rfl⟩
    · have hb : ((n : Int) == 1) = false := by simp; omega
      have hd : decide (byD 3 = 0 ∨ byD 3 = n) = false := by simp [byD]; omega
      rw [hd]
      go_enter Tryd.func58, Tryd.ntmps58
      go_wp2_with fail
      go_ret
      exact ⟨rfl, rfl⟩
  · by_cases hn : n = 4
    · subst hn
      go_enter Tryd.func58, Tryd.ntmps58
      go_wp2_with fail
      go_ret
      exact ⟨rfl, rfl⟩
    · have hb : ((n : Int) == 4) = false := by simp; omega
      have hd : decide (byD 4 = 0 ∨ byD 4 = n) = false := by simp [byD]; omega
      rw [hd]
      go_enter Tryd.func58, Tryd.ntmps58
      go_wp2_with fail
      go_ret
      exact ⟨rfl, rfl⟩
  · by_cases hn : n = 4
    · subst hn
      go_enter Tryd.func58, Tryd.ntmps58
      go_wp2_with fail
      go_ret
      exact ⟨rfl, rfl⟩
    · have hb : ((n : Int) == 4) = false := by simp; omega
      have hd : decide (byD 5 = 0 ∨ byD 5 = n) = false := by simp [byD]; omega
      rw [hd]
      go_enter Tryd.func58, Tryd.ntmps58
      go_wp2_with fail
      go_ret
      exact ⟨rfl, rfl⟩
  · by_cases hn : n = 4
    · subst hn
      go_enter Tryd.func58, Tryd.ntmps58
      go_wp2_with fail
      go_ret
      exact ⟨rfl, rfl⟩
    · have hb : ((n : Int) == 4) = false := by simp; omega
      have hd : decide (byD 6 = 0 ∨ byD 6 = n) = false := by simp [byD]; omega
      rw [hd]
      go_enter Tryd.func58, Tryd.ntmps58
      go_wp2_with fail
      go_ret
      exact ⟨rfl, rfl⟩
  · go_enter Tryd.func58, Tryd.ntmps58
    go_wp2_with fail
    go_ret
    exact ⟨by simp [byD], rfl⟩

set_option maxRecDepth 100000 in
set_option maxHeartbeats 1000000 in
theorem ref7_Find (size at_ : Nat) (n : Int) (w : World) (hs : size < 4294967296) (ha : at_ < 4294967296) :
    Calls Tryd.prog 21 #[.int .u32 size, .int .u32 at_, .int .i64 n] w fun e w' => e = .returned (findVR (findN size at_ n)) ∧ w = w' := by
  by_cases hn : n = 1 ∨ n = 2 ∨ n = 4
  · have HQ : Hid (findN size at_ n = if at_ % n.toNat = 0 then findF size at_ n.toNat 7 1 else (0, 0, 5)) := Lib.hid (by unfold findN; rw [if_pos hn])
    obtain ⟨q, hq⟩ : ∃ q, q = findN size at_ n := ⟨_, rfl⟩
    rw [← hq] at HQ ⊢
    clear hq
    obtain ⟨m, rfl, hm⟩ : ∃ m : Nat, n = (m : Int) ∧ (m = 1 ∨ m = 2 ∨ m = 4) := ⟨n.toNat, by omega, by omega⟩
    rw [show ((m : Int)).toNat = m from rfl] at HQ
    have hm0 : ¬ m = 0 := by omega
    clear hn
    have HPRE : Hid ((((m : Int) != 1) = false) ∨ (((m : Int) != 1) = true ∧ ((m : Int) != 2) = false) ∨ (((m : Int) != 1) = true ∧ ((m : Int) != 2) = true ∧ ((m : Int) != 4) = false)) := Lib.hid (by
      rcases hm with rfl | rfl | rfl
      · exact .inl rfl
      · exact .inr (.inl ⟨rfl, rfl⟩)
      · exact .inr (.inr ⟨rfl, rfl, rfl⟩))
    have hm4 : m ≤ 4 := by omega
    have hm1 : 1 ≤ m := by omega
    clear hm
    by_cases hmod : at_ % m = 0
    · rw [if_pos hmod] at HQ
      have hmb : (((at_ : Int) % (m : Int)) != 0) = false := by
        have : ((at_ : Int) % (m : Int)) = ((at_ % m : Nat) : Int) := by omega
        rw [this, hmod]; rfl
      have hmt : ((at_ : Int).tmod (m : Int)) = (at_ : Int) % (m : Int) := Int.tmod_eq_emod_of_nonneg (by omega)
      clear hmod
      have HF := Lib.hid (fun (d : Nat) W => ref7_Base (d : Int) size W)
      have HH := Lib.hid (fun d W h1 h7 => ref7_by d m W h1 h7)
      go_enter Tryd.func21, Tryd.ntmps21
      rcases HPRE.out with p1 | ⟨p1, p2⟩ | ⟨p1, p2, p4⟩
      all_goals
        go_wp2_with fail
        go_loopw [9] (fun i wr => ∃ d : Nat, 1 ≤ d ∧ d ≤ 8 ∧ i = .int .i64 d ∧ findF size at_ m (8 - d) d = q ∧ w = wr) (fun i _ => 8 - (intOf i).toNat)
        case atStart => exact ⟨1, by omega, by omega, rfl, HQ.out.symm, rfl⟩
        case round =>
          obtain ⟨d, hd1, hd8, rfl, hdq, rfl⟩ := hrel
          have HQ2 := Lib.hid hdq
          clear hdq HQ
          by_cases hd : d ≤ 7
          · have HS := Lib.hid (findF_step size at_ m d hd)
            rw [HQ2.out] at HS
            have hf := fromD_lt d
            have hrm := roomD_lt size d hs
            have HHd := Lib.hid (fun W => HH.out d W hd1 hd)
            go_wp2_with fail
            refine (HF.out d _).mono ?_
            rintro e w' ⟨rfl, rfl⟩
            rw [show ((d : Int)).toNat = d from rfl]
            obtain ⟨f, hfe⟩ : ∃ f, f = fromD d := ⟨_, rfl⟩
            obtain ⟨r, hre⟩ : ∃ r, r = roomD size d := ⟨_, rfl⟩
            obtain ⟨b, hbe⟩ : ∃ b, b = byD d := ⟨_, rfl⟩
            rw [← hfe] at hf HS ⊢
            rw [← hre] at hrm HS ⊢
            rw [← hbe] at HS HHd
            clear hfe hre hbe HF HH
            by_cases hin : f ≤ at_ ∧ at_ + m ≤ f + r
            · rw [if_pos hin] at HS
              obtain ⟨hin1, hin2⟩ := hin
              by_cases hbm : b = 0 ∨ b = m
              · have e1 : decide (b = 0 ∨ b = m) = true := by simpa using hbm
                rw [e1] at HHd
                rw [if_neg (by omega)] at HS
                clear e1 hbm
                go_wp2_with fail
                refine (HHd.out _).mono ?_
                rintro e w' ⟨rfl, rfl⟩
                go_wp2_with fail
                go_ret3
                rw [HS.out]
                exact ⟨by simp [findVR]; omega, rfl⟩
              · have e1 : decide (b = 0 ∨ b = m) = false := by simpa using hbm
                rw [e1] at HHd
                rw [if_pos (by omega)] at HS
                clear e1 hbm
                go_wp2_with fail
                refine (HHd.out _).mono ?_
                rintro e w' ⟨rfl, rfl⟩
                go_wp2_with fail
                go_ret3
                rw [HS.out]
                exact ⟨rfl, rfl⟩
            · rw [if_neg hin] at HS
              by_cases hin1 : f ≤ at_
              · have hin2 : f + r < at_ + m := by omega
                clear hin
                go_wp2_with fail
                go_roundw
                case rel => exact ⟨d + 1, by omega, by omega, by go_num, HS.out.symm, trivial⟩
                case measure => simp [intOf]; omega
              · clear hin
                go_wp2_with fail
                go_roundw
                case rel => exact ⟨d + 1, by omega, by omega, by go_num, HS.out.symm, trivial⟩
                case measure => simp [intOf]; omega
          · obtain rfl : d = 8 := by omega
            have hq8 : q = (0, 0, 20) := HQ2.out.symm
            go_wp2_with fail
            go_ret3
            rw [hq8]
            exact ⟨rfl, rfl⟩
    · rw [if_neg hmod] at HQ
      have hmt : ((at_ : Int).tmod (m : Int)) = (at_ : Int) % (m : Int) := Int.tmod_eq_emod_of_nonneg (by omega)
      have hmb : (((at_ : Int) % (m : Int)) != 0) = true := by
        have : ((at_ : Int) % (m : Int)) = ((at_ % m : Nat) : Int) := by omega
        rw [this]; simp; omega
      clear hmod
      go_enter Tryd.func21, Tryd.ntmps21
      rcases HPRE.out with p1 | ⟨p1, p2⟩ | ⟨p1, p2, p4⟩
      all_goals
        go_wp2_with fail
        go_ret3
        rw [HQ.out]
        exact ⟨rfl, rfl⟩
  · have HQ : Hid (findN size at_ n = (0, 0, 21)) := Lib.hid (by unfold findN; rw [if_neg hn])
    have p1 : (n != 1) = true := by simp; omega
    have p2 : (n != 2) = true := by simp; omega
    have p4 : (n != 4) = true := by simp; omega
    clear hn
    go_enter Tryd.func21, Tryd.ntmps21
    go_wp2_with fail
    go_ret3
    rw [HQ.out]
    exact ⟨rfl, rfl⟩
end Go.Proofs.YtenafjdlaefepaaDoor

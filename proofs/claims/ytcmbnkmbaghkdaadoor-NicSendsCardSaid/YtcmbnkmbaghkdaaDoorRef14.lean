/-
pinnaceref14's has, Live, Fail, Used, walked.
No condition.
-/
import Derived.Test.YtcmbnkmbaghkdaaDoorRef1
import Derived.Test.YtcmbnkmbaghkdaaDoorVioUsed
namespace Go.Proofs.YtcmbnkmbaghkdaaDoor
open Go.RowKit
set_option linter.unusedVariables false

theorem ref14_has (v at_ : Nat) (w : World) (hv : v < 4294967296) (ha : at_ < 32) :
    Calls Tryd.prog 83 #[.int .u32 v, .int .i64 at_] w fun e w' => e = .returned (.bool (decide (bitv v at_ = 1))) ∧ w = w' := by
  have HB := Lib.hid (fun W => ref1_Bit v at_ W hv ha)
  have hq : (((bitv v at_ : Nat) : Int) == 1) = decide (bitv v at_ = 1) := by rw [Bool.eq_iff_iff]; simp; omega
  generalize decide (bitv v at_ = 1) = d at hq ⊢
  generalize bitv v at_ = x at HB hq
  go_enter Tryd.func83, Tryd.ntmps83
  go_wp2_with fail
  refine (HB.out _).mono ?_
  rintro e w' ⟨rfl, rfl⟩
  go_wp2_with fail
  go_ret
  exact ⟨rfl, rfl⟩
theorem live_bits (x : Nat) : (x &&& 76 = 12) ↔ (bitv x 2 = 1 ∧ bitv x 3 = 1 ∧ ¬ bitv x 6 = 1) := by
  have e : ∀ i, (x &&& 76).testBit i = (x.testBit i && (76 : Nat).testBit i) := fun i => Nat.testBit_and x 76 i
  have b : ∀ i, (bitv x i = 1) ↔ x.testBit i = true := fun i => by rw [bitv_eq]; cases x.testBit i <;> simp
  rw [b, b, b]
  constructor
  · intro h
    have h2 := e 2
    have h3 := e 3
    have h6 := e 6
    rw [h] at h2 h3 h6
    have k2 : (12 : Nat).testBit 2 = true := by decide
    have k3 : (12 : Nat).testBit 3 = true := by decide
    have k6 : (12 : Nat).testBit 6 = false := by decide
    have j2 : (76 : Nat).testBit 2 = true := by decide
    have j3 : (76 : Nat).testBit 3 = true := by decide
    have j6 : (76 : Nat).testBit 6 = true := by decide
    rw [k2, j2, Bool.and_true] at h2
    rw [k3, j3, Bool.and_true] at h3
    rw [k6, j6, Bool.and_true] at h6
    exact ⟨h2.symm, h3.symm, by rw [← h6]; simp⟩
  · rintro ⟨h2, h3, h6⟩
    apply Nat.eq_of_testBit_eq
    intro i
    rw [e i]
    by_cases hi : i < 7
    · have : i = 0 ∨ i = 1 ∨ i = 2 ∨ i = 3 ∨ i = 4 ∨ i = 5 ∨ i = 6 := by omega
      rcases this with rfl | rfl | rfl | rfl | rfl | rfl | rfl
      · rw [show (76 : Nat).testBit 0 = false by decide, Bool.and_false]; decide
      · rw [show (76 : Nat).testBit 1 = false by decide, Bool.and_false]; decide
      · rw [h2]; decide
      · rw [h3]; decide
      · rw [show (76 : Nat).testBit 4 = false by decide, Bool.and_false]; decide
      · rw [show (76 : Nat).testBit 5 = false by decide, Bool.and_false]; decide
      · rw [show x.testBit 6 = false by simpa using h6]; decide
    · have h1 : (76 : Nat).testBit i = false := Nat.testBit_lt_two_pow (Nat.lt_of_lt_of_le (by decide : 76 < 2 ^ 7) (Nat.pow_le_pow_right (by omega) (by omega)))
      have h2 : (12 : Nat).testBit i = false := Nat.testBit_lt_two_pow (Nat.lt_of_lt_of_le (by decide : 12 < 2 ^ 7) (Nat.pow_le_pow_right (by omega) (by omega)))
      rw [h1, h2, Bool.and_false]
set_option maxRecDepth 100000 in
set_option maxHeartbeats 4000000 in
theorem ref14_Live_row (c : Array Value) (st : Nat) (b2 b3 b6 : Bool) (w : World) (hc : c[0]? = some (.int .u32 st))
    (H2 : Hid (∀ W, Calls Tryd.prog 83 #[.int .u32 st, .int .i64 2] W fun e w' => e = .returned (.bool b2) ∧ W = w'))
    (H3 : Hid (∀ W, Calls Tryd.prog 83 #[.int .u32 st, .int .i64 3] W fun e w' => e = .returned (.bool b3) ∧ W = w'))
    (H6 : Hid (∀ W, Calls Tryd.prog 83 #[.int .u32 st, .int .i64 6] W fun e w' => e = .returned (.bool b6) ∧ W = w')) :
    Calls Tryd.prog 47 #[.agg c] w fun e w' => e = .returned (.bool (b2 && b3 && !b6)) ∧ Below w.heap.size w w' := by
  have K0 := Lib.hid (heap_alloc_new w (.cells c 57))
  have HB := Lib.hid ((Below.refl w.heap.size w).alloc (Nat.le_refl _) (.cells c 57))
  have c0 := (cell_of_row _ _ 0 _ _ _ K0.out).trans hc
  have g0 := get_of hc
  clear hc
  go_enter Tryd.func47, Tryd.ntmps47
  go_wp2_with fail
  refine (H2.out _).mono ?_
  rintro e w' ⟨rfl, rfl⟩
  cases b2
  · go_wp2_with fail
    go_ret
    exact ⟨rfl, HB.out⟩
  · go_wp2_with fail
    refine (H3.out _).mono ?_
    rintro e w' ⟨rfl, rfl⟩
    cases b3
    · go_wp2_with fail
      go_ret
      exact ⟨rfl, HB.out⟩
    · go_wp2_with fail
      refine (H6.out _).mono ?_
      rintro e w' ⟨rfl, rfl⟩
      cases b6
      all_goals
        go_wp2_with fail
        go_ret
        exact ⟨rfl, HB.out⟩
theorem ref14_Live (s : VS) (hs : s.st < 4294967296) (w : World) : Calls Tryd.prog 47 #[.agg s.c] w fun e w' => e = .returned (.bool (decide s.live)) ∧ Below w.heap.size w w' := by
  have := ref14_Live_row s.c s.st (decide (bitv s.st 2 = 1)) (decide (bitv s.st 3 = 1)) (decide (bitv s.st 6 = 1)) w rfl (Lib.hid fun W => ref14_has s.st 2 W hs (by omega)) (Lib.hid fun W => ref14_has s.st 3 W hs (by omega)) (Lib.hid fun W => ref14_has s.st 6 W hs (by omega))
  have e : decide s.live = (decide (bitv s.st 2 = 1) && decide (bitv s.st 3 = 1) && !decide (bitv s.st 6 = 1)) := by
    rw [Bool.eq_iff_iff]
    simp only [decide_eq_true_eq, Bool.and_eq_true, Bool.not_eq_true', decide_eq_false_iff_not, VS.live, live_bits, and_assoc]
  rw [e]
  exact this
end Go.Proofs.YtcmbnkmbaghkdaaDoor

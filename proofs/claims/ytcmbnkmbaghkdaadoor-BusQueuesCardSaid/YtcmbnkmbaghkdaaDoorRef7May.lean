/-
pinnaceref07.May, walked: it answers as the program's does.
No condition.
-/
import Derived.Test.YtcmbnkmbaghkdaaDoorPost
import Derived.Test.YtcmbnkmbaghkdaaDoorRef7
namespace Go.Proofs.YtcmbnkmbaghkdaaDoor
open Go.RowKit

set_option maxRecDepth 100000 in
set_option maxHeartbeats 1000000 in
theorem ref_may_out (dev : Int) (a : Nat) (n : Int) (v : Nat) (w : World) (h : dev < 1 ∨ 6 < dev) :
    Calls Tryd.prog 33 #[.agg #[.int .i64 dev, .int .u32 a, .int .i64 n, .int .u32 v]] w fun e w' => e = .returned (.bool false) ∧ Below w.heap.size w w' := by
  by_cases h1 : dev < 1
  · have h1d : decide (dev < 1) = true := by simp; omega
    clear h
    go_enter Tryd.func33, Tryd.ntmps33
    go_wp2_with fail
    go_ret
    exact ⟨rfl, (Below.refl _ _).alloc (Nat.le_refl _) _⟩
  · have h1d : decide (dev < 1) = false := by simp; omega
    have h6 : 6 < dev := by omega
    have h6d : decide (6 < dev) = true := by simp; omega
    clear h
    go_enter Tryd.func33, Tryd.ntmps33
    go_wp2_with fail
    go_ret
    exact ⟨rfl, (Below.refl _ _).alloc (Nat.le_refl _) _⟩

set_option maxRecDepth 100000 in
set_option maxHeartbeats 1000000 in
theorem ref_may_n (d : Nat) (a : Nat) (n : Int) (v : Nat) (w : World) (h1 : 1 ≤ d) (h6 : d ≤ 6) (hn1 : n ≠ 1) (hn4 : n ≠ 4) :
    Calls Tryd.prog 33 #[.agg #[.int .i64 (d : Nat), .int .u32 a, .int .i64 n, .int .u32 v]] w fun e w' => e = .returned (.bool false) ∧ Below w.heap.size w w' := by
  have hi1 : ¬ (d : Int) < 1 := by omega
  have hi2 : ¬ (6 : Int) < (d : Int) := by omega
  have b1 : (n != 1) = true := by simpa using hn1
  have b4 : (n != 4) = true := by simpa using hn4
  go_enter Tryd.func33, Tryd.ntmps33
  go_wp2_with fail
  go_ret
  exact ⟨rfl, (Below.refl _ _).alloc (Nat.le_refl _) _⟩
set_option maxRecDepth 100000 in
set_option maxHeartbeats 1000000 in
theorem ref_may_by4 (d r : Nat) (a : Nat) (v : Nat) (w : World) (h1 : 1 ≤ d) (h6 : d ≤ 6) (_ha : a < 4294967296) (_hr : r < 4294967296) (HB : Hid (∀ W, Calls Tryd.prog 69 #[.int .i64 (d : Nat), .int .i64 4] W fun e w' => e = .returned (.bool false) ∧ W = w'))
    (_HR : Hid (∀ W, Calls Tryd.prog 70 #[.int .i64 (d : Nat), .int .u32 0] W fun e w' => e = .returned (.tuple #[.int .u32 (fromD d : Nat), .int .u32 (r : Nat)]) ∧ W = w')) :
    Calls Tryd.prog 33 #[.agg #[.int .i64 (d : Nat), .int .u32 a, .int .i64 4, .int .u32 v]] w fun e w' => e = .returned (.bool false) ∧ Below w.heap.size w w' := by
  have hi1 : ¬ (d : Int) < 1 := by omega
  have hi2 : ¬ (6 : Int) < (d : Int) := by omega
  go_enter Tryd.func33, Tryd.ntmps33
  go_wp2_with fail
  refine (HB.out _).mono ?_
  rintro e w' ⟨rfl, rfl⟩
  go_wp2_with fail
  go_ret
  exact ⟨rfl, (Below.refl _ _).alloc (Nat.le_refl _) _⟩

set_option maxRecDepth 100000 in
set_option maxHeartbeats 1000000 in
theorem ref_may_by1 (d r : Nat) (a : Nat) (v : Nat) (w : World) (h1 : 1 ≤ d) (h6 : d ≤ 6) (_ha : a < 4294967296) (_hr : r < 4294967296) (HB : Hid (∀ W, Calls Tryd.prog 69 #[.int .i64 (d : Nat), .int .i64 1] W fun e w' => e = .returned (.bool false) ∧ W = w'))
    (_HR : Hid (∀ W, Calls Tryd.prog 70 #[.int .i64 (d : Nat), .int .u32 0] W fun e w' => e = .returned (.tuple #[.int .u32 (fromD d : Nat), .int .u32 (r : Nat)]) ∧ W = w')) :
    Calls Tryd.prog 33 #[.agg #[.int .i64 (d : Nat), .int .u32 a, .int .i64 1, .int .u32 v]] w fun e w' => e = .returned (.bool false) ∧ Below w.heap.size w w' := by
  have hi1 : ¬ (d : Int) < 1 := by omega
  have hi2 : ¬ (6 : Int) < (d : Int) := by omega
  go_enter Tryd.func33, Tryd.ntmps33
  go_wp2_with fail
  refine (HB.out _).mono ?_
  rintro e w' ⟨rfl, rfl⟩
  go_wp2_with fail
  go_ret
  exact ⟨rfl, (Below.refl _ _).alloc (Nat.le_refl _) _⟩

set_option maxRecDepth 100000 in
set_option maxHeartbeats 1000000 in
theorem ref_may_odd (d r : Nat) (a : Nat) (v : Nat) (w : World) (h1 : 1 ≤ d) (h6 : d ≤ 6) (ha : a < 4294967296) (_hr : r < 4294967296) (HB : Hid (∀ W, Calls Tryd.prog 69 #[.int .i64 (d : Nat), .int .i64 4] W fun e w' => e = .returned (.bool true) ∧ W = w'))
    (HR : Hid (∀ W, Calls Tryd.prog 70 #[.int .i64 (d : Nat), .int .u32 0] W fun e w' => e = .returned (.tuple #[.int .u32 (fromD d : Nat), .int .u32 (r : Nat)]) ∧ W = w')) (hm : (((a : Int) % 4) == 0) = false) :
    Calls Tryd.prog 33 #[.agg #[.int .i64 (d : Nat), .int .u32 a, .int .i64 4, .int .u32 v]] w fun e w' => e = .returned (.bool false) ∧ Below w.heap.size w w' := by
  have hi1 : ¬ (d : Int) < 1 := by omega
  have hi2 : ¬ (6 : Int) < (d : Int) := by omega
  go_enter Tryd.func33, Tryd.ntmps33
  go_wp2_with fail
  refine (HB.out _).mono ?_
  rintro e w' ⟨rfl, rfl⟩
  go_wp2_with fail
  refine (HR.out _).mono ?_
  rintro e w' ⟨rfl, rfl⟩
  go_wp2_with fail
  go_ret
  exact ⟨by first | rfl | trivial, (Below.refl _ _).alloc (Nat.le_refl _) _⟩

set_option maxRecDepth 100000 in
set_option maxHeartbeats 1000000 in
theorem ref_may_four (d r : Nat) (a : Nat) (v : Nat) (w : World) (h1 : 1 ≤ d) (h6 : d ≤ 6) (ha : a < 4294967296) (hr : r < 4294967296) (HB : Hid (∀ W, Calls Tryd.prog 69 #[.int .i64 (d : Nat), .int .i64 4] W fun e w' => e = .returned (.bool true) ∧ W = w'))
    (HR : Hid (∀ W, Calls Tryd.prog 70 #[.int .i64 (d : Nat), .int .u32 0] W fun e w' => e = .returned (.tuple #[.int .u32 (fromD d : Nat), .int .u32 (r : Nat)]) ∧ W = w')) (hm : (((a : Int) % 4) == 0) = true) :
    Calls Tryd.prog 33 #[.agg #[.int .i64 (d : Nat), .int .u32 a, .int .i64 4, .int .u32 v]] w fun e w' => e = .returned (.bool (decide (a + 4 ≤ r))) ∧ Below w.heap.size w w' := by
  have hi1 : ¬ (d : Int) < 1 := by omega
  have hi2 : ¬ (6 : Int) < (d : Int) := by omega
  go_enter Tryd.func33, Tryd.ntmps33
  go_wp2_with fail
  refine (HB.out _).mono ?_
  rintro e w' ⟨rfl, rfl⟩
  go_wp2_with fail
  refine (HR.out _).mono ?_
  rintro e w' ⟨rfl, rfl⟩
  go_wp2_with fail
  go_ret
  exact ⟨by simp; omega, (Below.refl _ _).alloc (Nat.le_refl _) _⟩

set_option maxRecDepth 100000 in
set_option maxHeartbeats 1000000 in
theorem ref_may_one (d r : Nat) (a : Nat) (v : Nat) (w : World) (h1 : 1 ≤ d) (h6 : d ≤ 6) (ha : a < 4294967296) (hr : r < 4294967296) (HB : Hid (∀ W, Calls Tryd.prog 69 #[.int .i64 (d : Nat), .int .i64 1] W fun e w' => e = .returned (.bool true) ∧ W = w'))
    (HR : Hid (∀ W, Calls Tryd.prog 70 #[.int .i64 (d : Nat), .int .u32 0] W fun e w' => e = .returned (.tuple #[.int .u32 (fromD d : Nat), .int .u32 (r : Nat)]) ∧ W = w')) :
    Calls Tryd.prog 33 #[.agg #[.int .i64 (d : Nat), .int .u32 a, .int .i64 1, .int .u32 v]] w fun e w' => e = .returned (.bool (decide (a + 1 ≤ r))) ∧ Below w.heap.size w w' := by
  have hi1 : ¬ (d : Int) < 1 := by omega
  have hi2 : ¬ (6 : Int) < (d : Int) := by omega
  go_enter Tryd.func33, Tryd.ntmps33
  go_wp2_with fail
  refine (HB.out _).mono ?_
  rintro e w' ⟨rfl, rfl⟩
  go_wp2_with fail
  refine (HR.out _).mono ?_
  rintro e w' ⟨rfl, rfl⟩
  go_wp2_with fail
  go_ret
  exact ⟨by simp; omega, (Below.refl _ _).alloc (Nat.le_refl _) _⟩

theorem room_mod (d : Nat) (h1 : 1 ≤ d) (h6 : d ≤ 6) : roomD 0 d % 4 = 0 := by
  have : d = 1 ∨ d = 2 ∨ d = 3 ∨ d = 4 ∨ d = 5 ∨ d = 6 := by omega
  rcases this with rfl | rfl | rfl | rfl | rfl | rfl <;> rfl
theorem ref7_May (p : Pst) (hp : p.wf) (w : World) :
    Calls Tryd.prog 33 #[p.v] w fun e w' => e = .returned (.bool (decide p.may)) ∧ Below w.heap.size w w' := by
  have ha := hp.ha
  obtain ⟨dev, a, n, v⟩ := p
  by_cases h : dev < 1 ∨ 6 < dev
  · rw [decide_eq_false (fun hm => by have h1 := hm.1; have h2 := hm.2.1; simp only at h1 h2; omega)]
    exact ref_may_out dev a n v w h
  · obtain ⟨d, rfl⟩ : ∃ d : Nat, dev = d := ⟨dev.toNat, by omega⟩
    have h1 : 1 ≤ d := by omega
    have h6 : d ≤ 6 := by omega
    have e : (⟨(d : Int), a, n, v⟩ : Pst).may ↔ n = (byD d : Nat) ∧ a % byD d = 0 ∧ a < roomD 0 d := by
      unfold Pst.may
      simp only [Int.toNat_natCast]
      constructor
      · rintro ⟨_, _, h3, h4, h5⟩; exact ⟨h3, h4, h5⟩
      · rintro ⟨h3, h4, h5⟩; exact ⟨by omega, by omega, h3, h4, h5⟩
    have hR : Hid (∀ W, Calls Tryd.prog 70 #[.int .i64 (d : Nat), .int .u32 0] W fun e w' => e = .returned (.tuple #[.int .u32 (fromD d : Nat), .int .u32 (roomD 0 d : Nat)]) ∧ W = w') := Lib.hid (ref7_Base d 0)
    have hrl := roomD_lt 0 d (by omega)
    have hrm := room_mod d h1 h6
    rcases byD_two d h1 h6 with hb | hb
    · rw [hb] at e
      by_cases hn4 : n = 4
      · subst hn4
        have hB : Hid (∀ W, Calls Tryd.prog 69 #[.int .i64 (d : Nat), .int .i64 4] W fun e w' => e = .returned (.bool true) ∧ W = w') := Lib.hid (fun W => by have := ref7_by d 4 W h1 (by omega); rw [decide_eq_true (.inr hb)] at this; exact this)
        by_cases hm : a % 4 = 0
        · rw [show decide ((⟨(d : Int), a, 4, v⟩ : Pst).may) = decide (a + 4 ≤ roomD 0 d) from decide_eq_decide.2 (e.trans ⟨fun h => by omega, fun h => ⟨rfl, hm, by omega⟩⟩)]
          exact ref_may_four d _ a v w h1 h6 ha hrl hB hR (by simp; omega)
        · rw [decide_eq_false (fun hh => hm (e.1 hh).2.1)]
          exact ref_may_odd d _ a v w h1 h6 ha hrl hB hR (by simp; omega)
      · rw [decide_eq_false (fun hh => hn4 (e.1 hh).1)]
        by_cases hn1 : n = 1
        · subst hn1
          exact ref_may_by1 d _ a v w h1 h6 ha hrl (Lib.hid (fun W => by have := ref7_by d 1 W h1 (by omega); rw [decide_eq_false (by omega)] at this; exact this)) hR
        · exact ref_may_n d a n v w h1 h6 hn1 hn4
    · rw [hb] at e
      by_cases hn1 : n = 1
      · subst hn1
        have hB : Hid (∀ W, Calls Tryd.prog 69 #[.int .i64 (d : Nat), .int .i64 1] W fun e w' => e = .returned (.bool true) ∧ W = w') := Lib.hid (fun W => by have := ref7_by d 1 W h1 (by omega); rw [decide_eq_true (.inr hb)] at this; exact this)
        rw [show decide ((⟨(d : Int), a, 1, v⟩ : Pst).may) = decide (a + 1 ≤ roomD 0 d) from decide_eq_decide.2 (e.trans ⟨fun h => by omega, fun h => ⟨rfl, Nat.mod_one _, by omega⟩⟩)]
        exact ref_may_one d _ a v w h1 h6 ha hrl hB hR
      · rw [decide_eq_false (fun hh => hn1 (e.1 hh).1)]
        by_cases hn4 : n = 4
        · subst hn4
          exact ref_may_by4 d _ a v w h1 h6 ha hrl (Lib.hid (fun W => by have := ref7_by d 4 W h1 (by omega); rw [decide_eq_false (by omega)] at this; exact this)) hR
        · exact ref_may_n d a n v w h1 h6 hn1 hn4
end Go.Proofs.YtcmbnkmbaghkdaaDoor

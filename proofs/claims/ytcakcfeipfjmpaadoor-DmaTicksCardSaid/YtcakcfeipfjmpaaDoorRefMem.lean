/-
pinnaceref01.Get, pinnaceref06.Read and Write, walked where they do not fail.
No condition.
-/
import Derived.Test.YtcakcfeipfjmpaaDoorRefStore
import Derived.Deep.RegionHeld
namespace Go.Proofs.YtcakcfeipfjmpaaDoor
open Go.RowKit

/-- The number that the first j bytes at a tell. -/
def gp (f : Nat → UInt8) (a : Nat) : Nat → Nat
  | 0 => 0
  | j + 1 => gp f a j + (f (a + j)).toNat * 256 ^ j
theorem gp_step (f : Nat → UInt8) (a j : Nat) (hj : j < 4) : ((gp f a j : Nat) : Int) + (((f (a + j)).toNat : Nat) : Int) * ((256 ^ j % 4294967296 : Nat) : Int) % 4294967296 = ((gp f a (j + 1) : Nat) : Int) ∧ gp f a (j + 1) < 4294967296 ∧ ((256 ^ j % 4294967296 : Nat) : Int) * 256 % 4294967296 = ((256 ^ (j + 1) % 4294967296 : Nat) : Int) := by
  have h0 := (f a).toNat_lt
  have h1 := (f (a + 1)).toNat_lt
  have h2 := (f (a + 2)).toNat_lt
  have h3 := (f (a + 3)).toNat_lt
  have : j = 0 ∨ j = 1 ∨ j = 2 ∨ j = 3 := by omega
  rcases this with rfl | rfl | rfl | rfl
  all_goals
    simp only [gp, Nat.add_zero]
    refine ⟨?_, ?_, ?_⟩ <;> omega
set_option maxRecDepth 100000 in
set_option maxHeartbeats 1600000 in
theorem ref1_Get_ok {w : World} {b n c : Nat} {f : Nat → UInt8} (r : Row w b 5 n (cellU f)) (a k : Nat) (hk : okN k) (hs : a + k ≤ n) (hr : a % k = 0) (hn : n ≤ 67108864) :
    Calls Tryd.prog 56 #[.slice (some ⟨b, 0, none⟩) n c, .int .i64 a, .int .i64 k] w fun e w' => e = .returned (.tuple #[.int .u32 (gp f a k : Nat), .int .i64 0]) ∧ w = w' := by
  have HC := Lib.hid (ref1_check_ok (some ⟨b, 0, none⟩) n c a k w hk hs hr hn)
  have HR := Lib.hid r
  have hk1 : 1 ≤ k ∧ k ≤ 4 := by rcases hk with rfl | rfl | rfl <;> omega
  clear hk hr r
  go_enter Tryd.func56, Tryd.ntmps56
  go_wp2_with fail
  refine (HC.out).mono ?_
  rintro e w' ⟨rfl, rfl⟩
  have ha0 : (0 : Int) ≤ a := by omega
  have haN : (a : Int) ≤ 67108864 := by omega
  go_wp2_with fail
  go_loopw [9, 10, 11] (fun x y i wr => ∃ j : Nat, j ≤ k ∧ i = .int .i64 j ∧ x = .int .u32 (gp f a j : Nat) ∧ y = .int .u32 ((256 ^ j % 4294967296 : Nat) : Int) ∧ wr = w) (fun _ _ i _ => k - (intOf i).toNat)
  case atStart => exact ⟨0, by omega, rfl, rfl, rfl, rfl⟩
  case round =>
    obtain ⟨j, hj, rfl, rfl, rfl, rfl⟩ := hrel
    by_cases hlt : j < k
    · have hj0 : (0 : Int) ≤ (j : Int) := by omega
      have hjk : (j : Int) < (k : Int) := by omega
      have hk4 : (k : Int) ≤ 4 := by omega
      have hc := HR.out.cell (i := a + j) (by omega)
      unfold cellU B8 at hc
      have hajn : (a : Int) + j < n := by omega
      have HG := Lib.hid (gp_step f a j (by omega))
      have hx := (f (a + j)).toNat_lt
      generalize (f (a + j)).toNat = q at hc hx HG
      have hq0 : (0 : Int) ≤ (q : Int) := by omega
      have hq1 : (q : Int) < 256 := by omega
      have hp1 : 256 ^ j % 4294967296 < 4294967296 := Nat.mod_lt _ (by omega)
      generalize 256 ^ j % 4294967296 = p at hp1 HG ⊢
      generalize gp f a j = v at HG ⊢
      go_wp2_with fail
      go_roundw
      case rel =>
        have hg := HG.out
        exact ⟨j + 1, by omega, by go_num, by congr 1; rw [hg.1]; exact Int.emod_eq_of_lt (by omega) (by omega), by rw [hg.2.2], trivial⟩
      case measure => simp [intOf]; omega
    · obtain rfl : k = j := by omega
      go_wp2_with fail
      go_ret2
      exact ⟨rfl, rfl⟩
set_option maxRecDepth 100000 in
theorem ref6_Read_ok (b1 N c1 b2 n2 c2 : Nat) (q : Int) (a k : Nat) (w : World) (hk : 0 < k) (hs : a + k ≤ N) (hc : N ≤ c1) (hN : N ≤ 67108864) :
    Calls Tryd.prog 57 #[.agg (refC b1 N c1 b2 n2 c2 q), .int .u32 a, .int .i64 k] w fun e w' => e = .returned (.tuple #[.slice (some ⟨b1, a, none⟩) k (c1 - a), .int .i64 0]) ∧ Below w.heap.size w w' := by
  unfold refC
  have HB := Lib.hid ((Below.refl w.heap.size w).alloc (Nat.le_refl _) (.cells #[.slice (some ⟨b1, 0, none⟩) N c1, .slice (some ⟨b2, 0, none⟩) n2 c2, .int .i64 q] 30))
  have h1 : ¬ (N : Int) < (k : Int) := by omega
  have h2 : ¬ (N : Int) - (k : Int) < (a : Int) := by omega
  have ha0 : (0 : Int) ≤ a := by omega
  have hk0 : (0 : Int) ≤ k := by omega
  have hk1 : (k : Int) ≤ 67108864 := by omega
  have ha1 : (a : Int) ≤ 67108864 := by omega
  have hN1 : (N : Int) ≤ 67108864 := by omega
  have hkN : (k : Int) ≤ N := by omega
  have hca : ¬ c1 = a := by omega
  have hac : (a : Int) ≤ (a : Int) + (k : Int) := by omega
  have hak : (a : Int) + (k : Int) ≤ (c1 : Int) := by omega
  clear hs hc hN hk
  go_enter Tryd.func57, Tryd.ntmps57
  go_wp2_with fail
  go_ret2
  exact ⟨rfl, HB.out⟩
end Go.Proofs.YtcakcfeipfjmpaaDoor

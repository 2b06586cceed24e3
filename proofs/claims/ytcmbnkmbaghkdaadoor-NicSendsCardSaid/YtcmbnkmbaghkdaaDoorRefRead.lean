/-
pinnaceref06.Read, walked where it does not fail.
No condition.
-/
import Derived.Test.YtcmbnkmbaghkdaaDoorG5
import Derived.Test.YtcmbnkmbaghkdaaDoorG2
import Derived.Deep.RegionHeld
namespace Go.Proofs.YtcmbnkmbaghkdaaDoor
open Go.RowKit

set_option maxRecDepth 100000 in
theorem ref6_Read_ok (b1 N c1 b2 n2 c2 : Nat) (q : Int) (a k : Nat) (w : World) (hk : 0 < k) (hs : a + k ≤ N) (hc : N ≤ c1) (hN : N ≤ 67108864) :
    Calls Tryd.prog 87 #[.agg (refC b1 N c1 b2 n2 c2 q), .int .u32 a, .int .i64 k] w fun e w' => e = .returned (.tuple #[.slice (some ⟨b1, a, none⟩) k (c1 - a), .int .i64 0]) ∧ Below w.heap.size w w' := by
  unfold refC
  have HB := Lib.hid ((Below.refl w.heap.size w).alloc (Nat.le_refl _) (.cells #[.slice (some ⟨b1, 0, none⟩) N c1, .slice (some ⟨b2, 0, none⟩) n2 c2, .int .i64 q] 65))
  have h1 : ¬ (N : Int) < (k : Int) := by omega
  have h2 : ¬ (N : Int) - (k : Int) < (a : Int) := by omega
  have ha0 : (0 : Int) ≤ a := by omega
  have hk0 : (0 : Int) ≤ k := by omega
  have hk1 : (k : Int) ≤ 67108864 := by omega
  have ha1 : (a : Int) ≤ 67108864 := by omega
  have hN1 : (N : Int) ≤ 67108864 := by omega
  have hkN : (k : Int) ≤ N := by omega
  have hca : ¬ c1 = a := by omega
  have hac : (a : Int) ≤ (a : Int) + (k : Int) := by omega
  have hak : (a : Int) + (k : Int) ≤ (c1 : Int) := by omega
  clear hs hc hN hk
  go_enter Tryd.func87, Tryd.ntmps87
  go_wp2_with fail
  go_ret2
  exact ⟨rfl, HB.out⟩
end Go.Proofs.YtcmbnkmbaghkdaaDoor

/-
pinnaceref13's load, there, Check, walked: the document's answer, over its memory's bytes.
No condition.
-/
import Derived.Test.YtcmbnkmbaghkdaaDoorG5
import Derived.Test.YtcmbnkmbaghkdaaDoorG3
namespace Go.Proofs.YtcmbnkmbaghkdaaDoor
open Go.RowKit
set_option linter.unusedVariables false

def loadB : Option Nat → Value
  | some v => .tuple #[.int .u32 (v : Nat), .bool true]
  | none => .tuple #[.int .u32 0, .bool false]
def rloadN (f : Nat → UInt8) (N a k : Nat) : Option Nat := if 2147483648 ≤ a ∧ a - 2147483648 + k ≤ N then some (gp f (a - 2147483648) k) else none
theorem gp_cons (f : Nat → UInt8) (a : Nat) : ∀ k, gp f a (k + 1) = (f a).toNat + 256 * gp f (a + 1) k
  | 0 => by simp [gp]
  | k + 1 => by
    rw [gp, gp_cons f a k]
    conv => rhs; rw [gp]
    rw [show a + (k + 1) = a + 1 + k by omega, Nat.pow_succ, Nat.mul_add, Nat.add_assoc]
    congr 2
    rw [Nat.mul_comm (256 ^ k) 256, ← Nat.mul_assoc, Nat.mul_comm _ 256, Nat.mul_assoc]
theorem gp_lt (f : Nat → UInt8) (a : Nat) : ∀ k, gp f a k < 256 ^ k
  | 0 => by simp [gp]
  | k + 1 => by
    have h := gp_lt f a k
    have h2 := (f (a + k)).toNat_lt
    rw [gp, Nat.pow_succ]
    have : (f (a + k)).toNat * 256 ^ k ≤ 255 * 256 ^ k := Nat.mul_le_mul_right _ (by omega)
    omega
set_option maxRecDepth 100000 in
set_option maxHeartbeats 2000000 in
theorem ref13_load_in (f : Nat → UInt8) (N b1 c1 b2 n2 c2 : Nat) (q : Int) (A x k : Nat) (w : World) (r : Row w b1 5 N (cellU f)) (hA : A = 2147483648 + x) (hk : k = 2 ∨ k = 4) (hs : x + k ≤ N) (hN : N ≤ 67108864) :
    Calls Tryd.prog 85 #[.agg (refC b1 N c1 b2 n2 c2 q), .int .u32 A, .int .i64 k] w fun e w' => e = .returned (.tuple #[.int .u32 (gp f x k : Nat), .bool true]) ∧ Below w.heap.size w w' := by
  have HB := Lib.hid ((Below.refl w.heap.size w).alloc (Nat.le_refl _) (.cells (refC b1 N c1 b2 n2 c2 q) 65))
  have K0 := Lib.hid (heap_alloc_new w (.cells (refC b1 N c1 b2 n2 c2 q) 65))
  have HROW := Lib.hid (r.below HB.out)
  unfold refC at *
  have hk4 : (k : Int) ≤ 4 := by omega
  have hk0 : (0 : Int) ≤ (k : Int) := by omega
  have HK := Lib.hid hk
  have HS := Lib.hid (And.intro hs hN)
  have HAX := Lib.hid hA
  clear r hk hs hN hA
  have cb := (cell_of_row _ _ 0 _ _ _ K0.out).trans (rfl : _ = some (Value.slice (some ⟨b1, 0, none⟩) N c1))
  go_enter Tryd.func85, Tryd.ntmps85
  go_wp2_with fail
  generalize w.alloc (.cells #[.slice (some ⟨b1, 0, none⟩) N c1, .slice (some ⟨b2, 0, none⟩) n2 c2, .int .i64 q] 65) = w1 at HB K0 HROW cb ⊢
  go_loopw [8, 9] (fun v i wr => ∃ j : Nat, j ≤ k ∧ v = .int .u32 (gp f (x + j) (k - j) : Nat) ∧ i = .int .i64 ((j : Int) - 1) ∧ wr = w1) (fun _ i _ => (intOf i + 1).toNat)
  case atStart => exact ⟨k, Nat.le_refl _, by rw [Nat.sub_self]; rfl, rfl, rfl⟩
  case round =>
    obtain ⟨j, hj, rfl, rfl, rfl⟩ := hrel
    by_cases h0 : j = 0
    · subst h0
      go_wp2_with fail
      go_ret2
      exact ⟨rfl, HB.out⟩
    · obtain ⟨i, rfl⟩ : ∃ i, j = i + 1 := ⟨j - 1, by omega⟩
      have hi0 : (0 : Int) ≤ (i : Int) := by omega
      have hi4 : (i : Int) < 4 := by have := HK.out; omega
      have hci : x + i < N := by have := HS.out.1; omega
      have hcell := HROW.out.cell hci
      unfold cellU B8 at hcell
      have hx := (f (x + i)).toNat_lt
      have e1 : ((i + 1 : Nat) : Int) - 1 = (i : Int) := by omega
      rw [e1]
      have hA0 : 0 ≤ (A : Int) := by omega
      have hA1 : (A : Int) ≤ 2214592512 := by have := HS.out; have := HAX.out; omega
      have HZE : Hid ((A : Int) + (i : Int) = ((A + i : Nat) : Int)) := Lib.hid (by omega)
      have hwz : IntKind.u32.wrap ((A : Int) + (i : Int)) = ((A + i : Nat) : Int) := by rw [IntKind.wrap_u32]; omega
      clear hA1 hA0
      obtain ⟨Z, hZ⟩ : ∃ Z, Z = A + i := ⟨_, rfl⟩
      obtain ⟨y, hy⟩ : ∃ y, y = x + i := ⟨_, rfl⟩
      rw [← hZ] at hwz
      have hsub : IntKind.u32.wrap ((Z : Int) - 2147483648) = (y : Int) := by rw [IntKind.wrap_u32]; have := HS.out; have := HAX.out; omega
      have hge : decide ((Z : Int) < 2147483648) = false := by simp; have := HAX.out; omega
      have hcv : IntKind.i64.wrap (y : Int) = (y : Int) := by rw [IntKind.wrap_i64]; have := HS.out; omega
      have hyN : (y : Int) < (N : Int) := by omega
      have hy0 : (0 : Int) ≤ (y : Int) := by omega
      have hny : decide (N ≤ y) = false := by simp; omega
      have HG := Lib.hid (gp_cons f (x + i) (k - (i + 1)))
      have HG2 := Lib.hid (gp_lt f (x + i) (k - (i + 1) + 1))
      have HKI : Hid (k - (i + 1) + 1 = k - i) := Lib.hid (by omega)
      have HXI : Hid (x + i + 1 = x + (i + 1)) := Lib.hid (by omega)
      have H256 : Hid (256 ^ (k - (i + 1) + 1) ≤ 4294967296) := Lib.hid (by
        have : k - (i + 1) + 1 ≤ 4 := by omega
        calc 256 ^ (k - (i + 1) + 1) ≤ 256 ^ 4 := Nat.pow_le_pow_right (by omega) this
          _ = 4294967296 := by decide)
      rw [HXI.out, HKI.out] at HG
      rw [HKI.out] at HG2 H256
      rw [← hy] at hcell hx HG HG2
      have HYX := Lib.hid hy
      have HZA := Lib.hid hZ
      clear hy hZ hci
      generalize (f y).toNat = b at hcell hx HG
      generalize gp f (x + (i + 1)) (k - (i + 1)) = v at HG ⊢
      have hmul : IntKind.u32.wrap (256 * (v : Int)) = ((256 * v : Nat) : Int) := by rw [IntKind.wrap_u32]; have h1 := HG.out; have h2 := HG2.out; have h3 := H256.out; omega
      have hadd : IntKind.u32.wrap (((256 * v : Nat) : Int) + (b : Int)) = ((256 * v + b : Nat) : Int) := by rw [IntKind.wrap_u32]; have h1 := HG.out; have h2 := HG2.out; have h3 := H256.out; omega
      have hcb : IntKind.u32.wrap (b : Int) = (b : Int) := by rw [IntKind.wrap_u32]; omega
      obtain ⟨V, hV⟩ : ∃ V : Nat, V = 256 * v := ⟨_, rfl⟩
      rw [← hV] at hmul hadd
      obtain ⟨T, hT⟩ : ∃ T : Nat, T = V + b := ⟨_, rfl⟩
      rw [← hT] at hadd
      have HTG : Hid (T = gp f y (k - i)) := Lib.hid (by rw [HG.out, hT, hV]; omega)
      clear H256 HG2 HKI HXI hV hT HG HZE hx
      go_wp2_with fail
      go_roundw
      case rel => exact ⟨i, by omega, by rw [← HYX.out, HTG.out], by first | rfl | go_num, trivial⟩
      case measure => (simp [intOf]; try omega)
set_option maxRecDepth 100000 in
set_option maxHeartbeats 2000000 in
theorem ref13_load_out (N b1 c1 b2 n2 c2 : Nat) (q : Int) (a k : Nat) (w : World) (hk : k = 2 ∨ k = 4) (ha : a < 4294967296) (hd : a % k = 0) (hs : a < 2147483648 ∨ N ≤ a - 2147483648) (hN : N ≤ 67108864) (hN4 : N % 4 = 0) :
    Calls Tryd.prog 85 #[.agg (refC b1 N c1 b2 n2 c2 q), .int .u32 a, .int .i64 k] w fun e w' => e = .returned (.tuple #[.int .u32 0, .bool false]) ∧ Below w.heap.size w w' := by
  have HB := Lib.hid ((Below.refl w.heap.size w).alloc (Nat.le_refl _) (.cells (refC b1 N c1 b2 n2 c2 q) 65))
  have K0 := Lib.hid (heap_alloc_new w (.cells (refC b1 N c1 b2 n2 c2 q) 65))
  unfold refC at *
  have hz3 : a + (k - 1) < 4294967296 ∧ (a + (k - 1) < 2147483648 ∨ (2147483648 ≤ a + (k - 1) ∧ N ≤ a + (k - 1) - 2147483648)) := by rcases hk with rfl | rfl <;> omega
  obtain ⟨j, rfl⟩ : ∃ j, k = j + 1 := ⟨k - 1, by omega⟩
  rw [Nat.add_sub_cancel] at hz3
  have hj4 : (j : Int) < 4 := by omega
  have hj0 : (0 : Int) ≤ (j : Int) := by omega
  have hjj : (((j + 1 : Nat) : Int)) = (j : Int) + 1 := by omega
  have hjs : ((j : Int) + 1) - 1 = (j : Int) := by omega
  obtain ⟨Z, hZ⟩ : ∃ Z, Z = a + j := ⟨_, rfl⟩
  have HZ : Hid (Z < 4294967296 ∧ (Z < 2147483648 ∨ (2147483648 ≤ Z ∧ N ≤ Z - 2147483648))) := Lib.hid (by rw [hZ]; exact hz3)
  clear hz3
  have HZA := Lib.hid hZ
  have ha0 : 0 ≤ (a : Int) := by omega
  have haj : (a : Int) + (j : Int) < 4294967296 := by have := HZ.out.1; omega
  have hN1 : (N : Int) ≤ 67108864 := by omega
  rw [hjj]
  clear hk ha hd hs hN hN4 hZ hjj
  have cb := (cell_of_row _ _ 0 _ _ _ K0.out).trans (rfl : _ = some (Value.slice (some ⟨b1, 0, none⟩) N c1))
  go_enter Tryd.func85, Tryd.ntmps85
  go_wp2_with fail
  generalize w.alloc (.cells #[.slice (some ⟨b1, 0, none⟩) N c1, .slice (some ⟨b2, 0, none⟩) n2 c2, .int .i64 q] 65) = w1 at HB K0 cb ⊢
  go_loopw [8, 9] (fun v i wr => v = .int .u32 0 ∧ i = .int .i64 (j : Int) ∧ wr = w1) (fun _ i _ => 0)
  case atStart => exact ⟨rfl, by first | rfl | go_num, rfl⟩
  case round =>
    obtain ⟨rfl, rfl, rfl⟩ := hrel
    go_upto_region 6 with fail
    rw [show (a : Int) + (j : Int) = (Z : Int) by have := HZA.out; omega]
    have hZ1 : (Z : Int) < 4294967296 := by have := HZ.out.1; omega
    have hZ00 : (0 : Int) ≤ (Z : Int) := by omega
    rcases HZ.out.2 with h | h
    · have hz : (Z : Int) < 2147483648 := by omega
      clear h
      go_wp2_with fail
      go_ret2
      exact ⟨rfl, HB.out⟩
    · obtain ⟨y, hy⟩ : ∃ y, y = Z - 2147483648 := ⟨_, rfl⟩
      have e3 : (Z : Int) - 2147483648 = (y : Int) := by omega
      have hz : ¬ (Z : Int) < 2147483648 := by omega
      have hZ0 : (2147483648 : Int) ≤ (Z : Int) := by omega
      have hyN : (N : Int) ≤ (y : Int) := by omega
      have hy0 : (0 : Int) ≤ (y : Int) := by omega
      have hy1 : (y : Int) < 4294967296 := by omega
      clear h hy
      go_wp2_with fail
      go_ret2
      exact ⟨rfl, HB.out⟩
theorem ref13_load (f : Nat → UInt8) (N b1 c1 b2 n2 c2 : Nat) (q : Int) (a k : Nat) (ai ki : Int) (ea : ai = (a : Int)) (ek : ki = (k : Int)) (w : World) (r : Row w b1 5 N (cellU f)) (hk : k = 2 ∨ k = 4) (ha : a < 4294967296) (hd : a % k = 0) (hN : N ≤ 67108864) (hN4 : N % 4 = 0) :
    Calls Tryd.prog 85 #[.agg (refC b1 N c1 b2 n2 c2 q), .int .u32 ai, .int .i64 ki] w fun e w' => e = .returned (loadB (rloadN f N a k)) ∧ Below w.heap.size w w' := by
  subst ea ek
  by_cases h : 2147483648 ≤ a ∧ a - 2147483648 + k ≤ N
  · rw [show rloadN f N a k = some (gp f (a - 2147483648) k) from if_pos h]
    exact ref13_load_in f N b1 c1 b2 n2 c2 q a (a - 2147483648) k w r (by omega) hk h.2 hN
  · rw [show rloadN f N a k = none from if_neg h]
    exact ref13_load_out N b1 c1 b2 n2 c2 q a k w hk ha hd (by rcases hk with rfl | rfl <;> omega) hN hN4
end Go.Proofs.YtcmbnkmbaghkdaaDoor

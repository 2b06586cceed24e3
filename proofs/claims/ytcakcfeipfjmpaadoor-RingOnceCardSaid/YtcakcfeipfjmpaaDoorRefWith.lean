/-
pinnaceref01.With and pinnaceref06.mark, New, Store, walked where they do not fail.
No condition.
-/
import Derived.Test.YtcakcfeipfjmpaaDoorRowAt
import Derived.Test.YtcakcfeipfjmpaaDoorMemNew
namespace Go.Proofs.YtcakcfeipfjmpaaDoor
open Go.RowKit

theorem okN_cases {k : Nat} (h : okN k) : k = 1 ∨ k = 2 ∨ k = 4 := h
set_option maxRecDepth 100000 in
theorem ref1_check_ok (p : Option Addr) (n c a k : Nat) (w : World) (hk : okN k) (hs : a + k ≤ n) (hr : a % k = 0) (hn : n ≤ 67108864) :
    Calls Tryd.prog 90 #[.slice p n c, .int .i64 a, .int .i64 k] w fun e w' => e = .returned (.int .i64 0) ∧ w = w' := by
  have h1 : ¬ (n : Int) - (k : Int) < (a : Int) := by omega
  have h2 : ¬ (n : Int) < (k : Int) := by omega
  have h3 : ((a : Int) % (k : Int)) = 0 := by rw [← Int.natCast_emod, hr]; rfl
  have hk0 : (0 : Int) < k := by rcases hk with rfl | rfl | rfl <;> omega
  have ha : (a : Int) ≤ 67108864 := by omega
  have ha0 : (0 : Int) ≤ a := by omega
  have hn0 : (n : Int) ≤ 67108864 := by omega
  have hnk : (0 : Int) ≤ (n : Int) - k := by omega
  rcases hk with rfl | rfl | rfl
  all_goals
    go_enter Tryd.func90, Tryd.ntmps90
    go_wp2_with fail
    go_ret
    exact ⟨rfl, rfl⟩
theorem cellU_put (f : Nat → UInt8) (a k v j : Nat) (hj : j < k) : (fun i => if i = a + j then B8 (UInt8.ofNat (v / 256 ^ j % 256)) else cellU (putL f a ((leB k v).take j)) i) = cellU (putL f a ((leB k v).take (j + 1))) := by
  funext i
  unfold cellU
  rw [leB_take_succ k v j hj, putL_snoc]
  have e : a + ((leB k v).take j).length = a + j := by simp [leB_length]; omega
  rw [e]
  unfold updF
  split <;> rfl
theorem byte_val2 (v j : Nat) : Value.int .u8 (((v / 256 ^ j : Nat) : Int) % 256) = B8 (UInt8.ofNat (v / 256 ^ j % 256)) := by
  unfold B8
  congr 1
  rw [UInt8.toNat_ofNat']
  have e2 : v / 256 ^ j % 256 % 2 ^ 8 = v / 256 ^ j % 256 := by omega
  rw [e2, Int.natCast_emod]
  rfl
set_option maxRecDepth 100000 in
set_option maxHeartbeats 1600000 in
theorem ref1_With_ok {w : World} {b n c : Nat} {f : Nat → UInt8} (r : Row w b 5 n (cellU f)) (a k v : Nat) (hv : v < 4294967296) (hk : okN k) (hs : a + k ≤ n) (hr : a % k = 0) (hn : n ≤ 67108864) :
    Calls Tryd.prog 85 #[.slice (some ⟨b, 0, none⟩) n c, .int .i64 a, .int .i64 k, .int .u32 v] w fun e w' => ∃ b' c', e = .returned (.tuple #[.slice (some ⟨b', 0, none⟩) n c', .int .i64 0]) ∧ Row w' b' 5 n (cellU (putL f a (leB k v))) ∧ w.heap.size ≤ b' ∧ Below w.heap.size w w' ∧ n ≤ c' := by
  have HC := Lib.hid (ref1_check_ok (some ⟨b, 0, none⟩) n c a k w hk hs hr hn)
  have HR := Lib.hid r
  obtain ⟨i0, hi0, hz0, hz1, hz2⟩ := info_of info_u8
  have hk1 : 1 ≤ k ∧ k ≤ 4 := by rcases hk with rfl | rfl | rfl <;> omega
  have hnp : 0 < n := by omega
  clear hk hr r
  go_enter Tryd.func85, Tryd.ntmps85
  go_wp2_with fail
  refine (HC.out).mono ?_
  rintro e w' ⟨rfl, rfl⟩
  go_wp2_with (refine wpList_append_tx rfl _ _ 27 27 rfl w.heap.size 5 5 i0 _ 1 1 Tryd.underlying27 Tryd.underlying27 hi0 hz0 hz1 hz2 rfl (by omega) (.slice none 0 0) 0 [] rfl (World.ownsRow_nil _ _ _ _) ⟨b, 0, none⟩ n c (rowL (cellU f) n) rfl ?hl HR.out.news ?h1 ?h63 ?hby ?hb ?hK)
  case hl => rw [rowL_length, Nat.mul_one]
  case h1 =>
    intro u hu
    obtain ⟨x, _, rfl⟩ := List.mem_map.1 hu
    rfl
  case h63 => simp only [maxLen]; omega
  case hby => omega
  case hb => exact Nat.le_refl _
  intro v' w2 hown hgr hvb
  obtain ⟨b1, c1, rfl, hc1, hb1, hrow⟩ := Row.of_owns hown hnp (h := cellU f) (fun i hi => rowL_get _ _ _ hi)
  have HROW := Lib.hid hrow
  have HB1 := Lib.hid hb1
  have HBL : Hid (Below w.heap.size w w2) := Lib.hid ⟨hgr.os, hgr.tape, hgr.output, hgr.size, fun k hk => hgr.block k hk (by simp [Value.ownBlock])⟩
  clear hown hgr hvb hrow hb1
  have ha0 : (0 : Int) ≤ a := by omega
  have haN : (a : Int) ≤ 67108864 := by omega
  have hvN : (v : Int) < 4294967296 := by omega
  go_wp2_with fail
  go_loopw [3, 12] (fun x i wr => ∃ j : Nat, j ≤ k ∧ i = .int .i64 j ∧ x = .int .u32 ((v / 256 ^ j : Nat) : Int) ∧ Row wr b1 5 n (cellU (putL f a ((leB k v).take j))) ∧ Below w.heap.size w wr) (fun _ i _ => k - (intOf i).toNat)
  case atStart => exact ⟨0, by omega, rfl, by simp, by rw [List.take_zero, putL_nil]; exact HROW.out, HBL.out⟩
  case round =>
    obtain ⟨j, hj, rfl, rfl, hra, hbl⟩ := hrel
    have HA := Lib.hid hra
    have HBB := Lib.hid hbl
    clear hra hbl
    by_cases hlt : j < k
    · have hj0 : (0 : Int) ≤ (j : Int) := by omega
      have hjk : (j : Int) < (k : Int) := by omega
      have hk4 : (k : Int) ≤ 4 := by omega
      have hc := HA.out.cell (i := a + j) (by omega)
      have hz := HA.out.fz (a + j)
      have HBV := Lib.hid (byte_val2 v j)
      have HN := Lib.hid (HA.out.poke (j := a + j) (by omega) (B8 (UInt8.ofNat (v / 256 ^ j % 256))))
      have HW : Hid (v / 256 ^ (j + 1) = v / 256 ^ j / 256) := Lib.hid (by rw [Nat.pow_succ, Nat.div_div_eq_div_mul])
      have hq0 : v / 256 ^ j ≤ v := Nat.div_le_self _ _
      have hajn : (a : Int) + j < n := by omega
      rw [cellU_put _ _ _ _ _ hlt] at HN
      have HBK : Hid (Below w.heap.size w (wr.setCell ⟨b1, a + j, none⟩ (B8 (UInt8.ofNat (v / 256 ^ j % 256))))) := Lib.hid (HBB.out.setCell HB1.out _)
      have hqv : ((v / 256 ^ j : Nat) : Int) ≤ (v : Int) := by omega
      generalize v / 256 ^ j = q at hq0 hqv HBV HW HN HBK ⊢
      go_wp2_with fail
      go_roundw
      case rel =>
        rw [HBV.out]
        exact ⟨j + 1, by omega, by go_num, by rw [HW.out]; go_num, HN.out, HBK.out⟩
      case measure => simp [intOf]; omega
    · obtain rfl : k = j := by omega
      have h1 := HA.out
      rw [List.take_of_length_le (by rw [leB_length]; exact Nat.le_refl _)] at h1
      have HF := Lib.hid h1
      clear h1
      go_wp2_with fail
      go_ret2
      exact ⟨b1, c1, rfl, HF.out, HB1.out, HBB.out, hc1⟩
end Go.Proofs.YtcakcfeipfjmpaaDoor

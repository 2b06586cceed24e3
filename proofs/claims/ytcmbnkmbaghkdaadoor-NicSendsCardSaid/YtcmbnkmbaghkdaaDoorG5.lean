/-
pinnaceref01.With and pinnaceref06.mark, New, Store, walked where they do not fail.
No condition.
pinnaceref06.mark, New, Store, walked where they do not fail.
No condition.
pinnaceref06.New and Store, walked where they do not fail.
No condition.
pinnaceref06.New, walked where it does not fail.
No condition.
Both memories of a law: what they hold behind words laid in.
No condition.
Words laid from a literal list; a law's memory seen from an earlier world.
No condition.
-/
import Derived.Test.YtcmbnkmbaghkdaaDoorG2
import Derived.Test.YtcmbnkmbaghkdaaDoorG4
namespace Go.Proofs.YtcmbnkmbaghkdaaDoor
open Go.RowKit

theorem okN_cases {k : Nat} (h : okN k) : k = 1 ∨ k = 2 ∨ k = 4 := h
set_option maxRecDepth 100000 in
theorem ref1_check_ok (p : Option Addr) (n c a k : Nat) (w : World) (hk : okN k) (hs : a + k ≤ n) (hr : a % k = 0) (hn : n ≤ 67108864) :
    Calls Tryd.prog 109 #[.slice p n c, .int .i64 a, .int .i64 k] w fun e w' => e = .returned (.int .i64 0) ∧ w = w' := by
  have h1 : ¬ (n : Int) - (k : Int) < (a : Int) := by omega
  have h2 : ¬ (n : Int) < (k : Int) := by omega
  have h3 : ((a : Int) % (k : Int)) = 0 := by rw [← Int.natCast_emod, hr]; rfl
  have hk0 : (0 : Int) < k := by rcases hk with rfl | rfl | rfl <;> omega
  have ha : (a : Int) ≤ 67108864 := by omega
  have ha0 : (0 : Int) ≤ a := by omega
  have hn0 : (n : Int) ≤ 67108864 := by omega
  have hnk : (0 : Int) ≤ (n : Int) - k := by omega
  rcases hk with rfl | rfl | rfl
  all_goals
    go_enter Tryd.func109, Tryd.ntmps109
    go_wp2_with fail
    go_ret
    exact ⟨rfl, rfl⟩
theorem cellU_put (f : Nat → UInt8) (a k v j : Nat) (hj : j < k) : (fun i => if i = a + j then B8 (UInt8.ofNat (v / 256 ^ j % 256)) else cellU (putL f a ((leB k v).take j)) i) = cellU (putL f a ((leB k v).take (j + 1))) := by
  funext i
  unfold cellU
  rw [leB_take_succ k v j hj, putL_snoc]
  have e : a + ((leB k v).take j).length = a + j := by simp [leB_length]; omega
  rw [e]
  unfold updF
  split <;> rfl
theorem byte_val2 (v j : Nat) : Value.int .u8 (((v / 256 ^ j : Nat) : Int) % 256) = B8 (UInt8.ofNat (v / 256 ^ j % 256)) := by
  unfold B8
  congr 1
  rw [UInt8.toNat_ofNat']
  have e2 : v / 256 ^ j % 256 % 2 ^ 8 = v / 256 ^ j % 256 := by omega
  rw [e2, Int.natCast_emod]
  rfl
set_option maxRecDepth 100000 in
set_option maxHeartbeats 1600000 in
theorem ref1_With_ok {w : World} {b n c : Nat} {f : Nat → UInt8} (r : Row w b 5 n (cellU f)) (a k v : Nat) (hv : v < 4294967296) (hk : okN k) (hs : a + k ≤ n) (hr : a % k = 0) (hn : n ≤ 67108864) :
    Calls Tryd.prog 76 #[.slice (some ⟨b, 0, none⟩) n c, .int .i64 a, .int .i64 k, .int .u32 v] w fun e w' => ∃ b' c', e = .returned (.tuple #[.slice (some ⟨b', 0, none⟩) n c', .int .i64 0]) ∧ Row w' b' 5 n (cellU (putL f a (leB k v))) ∧ w.heap.size ≤ b' ∧ Below w.heap.size w w' ∧ n ≤ c' := by
  have HC := Lib.hid (ref1_check_ok (some ⟨b, 0, none⟩) n c a k w hk hs hr hn)
  have HR := Lib.hid r
  obtain ⟨i0, hi0, hz0, hz1, hz2⟩ := info_of info_u8
  have hk1 : 1 ≤ k ∧ k ≤ 4 := by rcases hk with rfl | rfl | rfl <;> omega
  have hnp : 0 < n := by omega
  clear hk hr r
  go_enter Tryd.func76, Tryd.ntmps76
  go_wp2_with fail
  refine (HC.out).mono ?_
  rintro e w' ⟨rfl, rfl⟩
  go_wp2_with (refine wpList_append_tx rfl _ _ 62 62 rfl w.heap.size 5 5 i0 _ 1 1 Tryd.underlying62 Tryd.underlying62 hi0 hz0 hz1 hz2 rfl (by omega) (.slice none 0 0) 0 [] rfl (World.ownsRow_nil _ _ _ _) ⟨b, 0, none⟩ n c (rowL (cellU f) n) rfl ?hl HR.out.news ?h1 ?h63 ?hby ?hb ?hK)
  case hl => rw [rowL_length, Nat.mul_one]
  case h1 =>
    intro u hu
    obtain ⟨x, _, rfl⟩ := List.mem_map.1 hu
    rfl
  case h63 => simp only [maxLen]; omega
  case hby => omega
  case hb => exact Nat.le_refl _
  intro v' w2 hown hgr hvb
  obtain ⟨b1, c1, rfl, hc1, hb1, hrow⟩ := Row.of_owns hown hnp (h := cellU f) (fun i hi => rowL_get _ _ _ hi)
  have HROW := Lib.hid hrow
  have HB1 := Lib.hid hb1
  have HBL : Hid (Below w.heap.size w w2) := Lib.hid ⟨hgr.os, hgr.tape, hgr.output, hgr.size, fun k hk => hgr.block k hk (by simp [Value.ownBlock])⟩
  clear hown hgr hvb hrow hb1
  have ha0 : (0 : Int) ≤ a := by omega
  have haN : (a : Int) ≤ 67108864 := by omega
  have hvN : (v : Int) < 4294967296 := by omega
  go_wp2_with fail
  go_loopw [3, 12] (fun x i wr => ∃ j : Nat, j ≤ k ∧ i = .int .i64 j ∧ x = .int .u32 ((v / 256 ^ j : Nat) : Int) ∧ Row wr b1 5 n (cellU (putL f a ((leB k v).take j))) ∧ Below w.heap.size w wr) (fun _ i _ => k - (intOf i).toNat)
  case atStart => exact ⟨0, by omega, rfl, by simp, by rw [List.take_zero, putL_nil]; exact HROW.out, HBL.out⟩
  case round =>
    obtain ⟨j, hj, rfl, rfl, hra, hbl⟩ := hrel
    have HA := Lib.hid hra
    have HBB := Lib.hid hbl
    clear hra hbl
    by_cases hlt : j < k
    · have hj0 : (0 : Int) ≤ (j : Int) := by omega
      have hjk : (j : Int) < (k : Int) := by omega
      have hk4 : (k : Int) ≤ 4 := by omega
      have hc := HA.out.cell (i := a + j) (by omega)
      have hz := HA.out.fz (a + j)
      have HBV := Lib.hid (byte_val2 v j)
      have HN := Lib.hid (HA.out.poke (j := a + j) (by omega) (B8 (UInt8.ofNat (v / 256 ^ j % 256))))
      have HW : Hid (v / 256 ^ (j + 1) = v / 256 ^ j / 256) := Lib.hid (by rw [Nat.pow_succ, Nat.div_div_eq_div_mul])
      have hq0 : v / 256 ^ j ≤ v := Nat.div_le_self _ _
      have hajn : (a : Int) + j < n := by omega
      rw [cellU_put _ _ _ _ _ hlt] at HN
      have HBK : Hid (Below w.heap.size w (wr.setCell ⟨b1, a + j, none⟩ (B8 (UInt8.ofNat (v / 256 ^ j % 256))))) := Lib.hid (HBB.out.setCell HB1.out _)
      have hqv : ((v / 256 ^ j : Nat) : Int) ≤ (v : Int) := by omega
      generalize v / 256 ^ j = q at hq0 hqv HBV HW HN HBK ⊢
      go_wp2_with fail
      go_roundw
      case rel =>
        rw [HBV.out]
        exact ⟨j + 1, by omega, by go_num, by rw [HW.out]; go_num, HN.out, HBK.out⟩
      case measure => simp [intOf]; omega
    · obtain rfl : k = j := by omega
      have h1 := HA.out
      rw [List.take_of_length_le (by rw [leB_length]; exact Nat.le_refl _)] at h1
      have HF := Lib.hid h1
      clear h1
      go_wp2_with fail
      go_ret2
      exact ⟨b1, c1, rfl, HF.out, HB1.out, HBB.out, hc1⟩
end Go.Proofs.YtcmbnkmbaghkdaaDoor
namespace Go.Proofs.YtcmbnkmbaghkdaaDoor
open Go.RowKit

def cellT (d : Nat → Bool) : Nat → Value := fun i => .bool (d i)
theorem info_bool : (Tryd.prog.info? 4).map (fun i => (i.zero, i.size, i.bytes)) = some (some (.bool false), 1, 1) := by kernel_rfl
def refZ : Array Value := #[.slice none 0 0, .slice none 0 0, .int .i64 0]
def refC (b1 n1 c1 b2 n2 c2 : Nat) (q : Int) : Array Value := #[.slice (some ⟨b1, 0, none⟩) n1 c1, .slice (some ⟨b2, 0, none⟩) n2 c2, .int .i64 q]
theorem refC_one (b1 n1 c1 b2 n2 c2 : Nat) (q : Int) : (refC b1 n1 c1 b2 n2 c2 q).all (·.oneCell') = true := by simp [refC, Value.oneCell']
theorem grown_heap {a b : World} {v : Value} {g : Nat} {x : Obj} (h : a.heap[g]? = some x) (hg : a.grownBy b v.ownBlock) (hn : v.ownBlock = none) : b.heap[g]? = some x := (hg.block g (lt_heap h) (by rw [hn]; simp)).trans h
theorem grown_below {a b : World} {v : Value} (hg : a.grownBy b v.ownBlock) (hn : v.ownBlock = none) : Below a.heap.size a b := ⟨hg.os, hg.tape, hg.output, hg.size, fun k hk => hg.block k hk (by rw [hn]; simp)⟩
theorem mark_step (d : Nat → Bool) (lo p : Nat) (hp : lo ≤ p) : (fun i => if i = p then Value.bool true else cellT (fun x => d x || decide (lo ≤ x ∧ x < p)) i) = cellT (fun x => d x || decide (lo ≤ x ∧ x < p + 1)) := by
  funext i
  unfold cellT
  by_cases e : i = p
  · subst e
    rw [if_pos rfl]
    dsimp only
    rw [decide_eq_true (show lo ≤ i ∧ i < i + 1 by omega), Bool.or_true]
  · rw [if_neg e]
    congr 1
    dsimp only
    by_cases h : lo ≤ i ∧ i < p
    · rw [decide_eq_true h, decide_eq_true (by omega)]
    · rw [decide_eq_false h, decide_eq_false (by omega)]
theorem mark_last (d : Nat → Bool) (a k p : Nat) (hk : 0 < k) (hp : p = (a + k - 1) / 4096 + 1) : cellT (fun x => d x || decide (a / 4096 ≤ x ∧ x < p)) = cellT (markL d a k) := by
  funext i
  unfold cellT markL
  congr 1
  dsimp only
  by_cases h : a / 4096 ≤ i ∧ i < p
  · rw [decide_eq_true h, decide_eq_true (by omega)]
  · rw [decide_eq_false h, decide_eq_false (by omega)]
set_option maxRecDepth 100000 in
set_option maxHeartbeats 1600000 in
theorem ref6_mark_ok {w : World} {b1 n1 c1 b2 n c2 : Nat} {q : Int} {d : Nat → Bool} (r : Row w b2 4 n (cellT d)) (hn : 0 < n) (hn2 : n ≤ 16384) (a k : Nat) (hk : 0 < k) (hs : a + k ≤ 4096 * n) :
    Calls Tryd.prog 77 #[.agg (refC b1 n1 c1 b2 n c2 q), .int .i64 a, .int .i64 k] w fun e w' =>
      ∃ b' c', e = .returned (.agg (refC b1 n1 c1 b' n c' q)) ∧ Row w' b' 4 n (cellT (markL d a k)) ∧ w.heap.size ≤ b' ∧ Below w.heap.size w w' := by
  unfold refC
  obtain ⟨k0, k1, hb0⟩ := two_new w (.cells #[.slice (some ⟨b1, 0, none⟩) n1 c1, .slice (some ⟨b2, 0, none⟩) n c2, .int .i64 q] 65) (.cells refZ 65)
  have HR := Lib.hid (r.below hb0)
  have K0 := Lib.hid k0
  have K1 := Lib.hid k1
  have HB0 := Lib.hid hb0
  obtain ⟨i0, hi0, hz0, hz1, hz2⟩ := info_of info_bool
  clear r k0 k1 hb0
  unfold refZ at *
  go_enter Tryd.func77, Tryd.ntmps77
  go_upto_region 1 with fail
  generalize ((w.alloc (.cells #[.slice (some ⟨b1, 0, none⟩) n1 c1, .slice (some ⟨b2, 0, none⟩) n c2, .int .i64 q] 65)).alloc (.cells #[.slice none 0 0, .slice none 0 0, .int .i64 0] 65)) = w1 at HR K0 K1 HB0 ⊢
  have cc := (cell_of_row _ _ 1 _ _ _ K0.out).trans (rfl : _ = some (.slice (some ⟨b2, 0, none⟩) n c2 : Value))
  have HSZ : Hid (w.heap.size + 1 < w1.heap.size) := Lib.hid (lt_heap K1.out)
  go_wp2_with (refine wpList_append_tx rfl _ _ 63 63 rfl w1.heap.size 4 4 i0 _ 1 1 Tryd.underlying63 Tryd.underlying63 hi0 hz0 hz1 hz2 rfl (by omega) (.slice none 0 0) 0 [] rfl (World.ownsRow_nil _ _ _ _) ⟨b2, 0, none⟩ n c2 (rowL (cellT d) n) rfl ?hl HR.out.news ?h1 ?h63 ?hby ?hb ?hK)
  case hl => rw [rowL_length, Nat.mul_one]
  case h1 =>
    intro u hu
    obtain ⟨x, _, rfl⟩ := List.mem_map.1 hu
    rfl
  case h63 => simp only [maxLen]; omega
  case hby => omega
  case hb => exact Nat.le_refl _
  intro v' w2 hown hgr hvb
  obtain ⟨b3, c3, rfl, hc3, hb3, hrow⟩ := Row.of_owns hown hn (h := cellT d) (fun i hi => rowL_get _ _ _ hi)
  have K2 := Lib.hid (grown_heap K0.out hgr rfl)
  have K3 := Lib.hid (grown_heap K1.out hgr rfl)
  have HB4 := Lib.hid (HB0.out.trans ((grown_below hgr rfl).mono (by have := HSZ.out; omega)))
  have HROW := Lib.hid hrow
  have HB3 : Hid (w.heap.size + 1 < b3) := Lib.hid (Nat.lt_of_lt_of_le HSZ.out hb3)
  clear hown hgr hvb hrow hb3 K0 K1 HB0 cc HR
  have ha0 : (0 : Int) ≤ a := by omega
  have haN : (a : Int) ≤ 67108864 := by omega
  have hk0 : (0 : Int) < k := by omega
  have hkN : (k : Int) ≤ 67108864 := by omega
  go_wp2_with fail
  go_loopw [8] (fun i wr => ∃ p : Nat, a / 4096 ≤ p ∧ p ≤ (a + k - 1) / 4096 + 1 ∧ i = .int .i64 p ∧ Row wr b3 4 n (cellT (fun x => d x || decide (a / 4096 ≤ x ∧ x < p))) ∧ wr.heap[w.heap.size]? = some (.cells #[.slice (some ⟨b1, 0, none⟩) n1 c1, .slice (some ⟨b2, 0, none⟩) n c2, .int .i64 q] 65 (0, 0)) ∧ wr.heap[w.heap.size + 1]? = some (.cells #[.slice none 0 0, .slice none 0 0, .int .i64 0] 65 (0, 0)) ∧ Below w.heap.size w wr) (fun i _ => (a + k - 1) / 4096 + 1 - (intOf i).toNat)
  case atStart =>
    refine ⟨a / 4096, Nat.le_refl _, by omega, by go_num, HROW.out.congr (fun i _ => ?_), K2.out, K3.out, HB4.out⟩
    unfold cellT
    dsimp only
    rw [decide_eq_false (by omega), Bool.or_false]
  case round =>
    obtain ⟨p, hp1, hp2, rfl, hra, hk0', hk1', hbl⟩ := hrel
    have HA := Lib.hid hra
    have K4 := Lib.hid hk0'
    have K5 := Lib.hid hk1'
    have HBB := Lib.hid hbl
    clear hra hk0' hk1' hbl
    have hp0 : (0 : Int) ≤ p := by omega
    have hpN : (p : Int) ≤ 16384 := by omega
    by_cases hlt : p ≤ (a + k - 1) / 4096
    · have hle : (p : Int) ≤ ((a : Int) + k - 1) / 4096 := by omega
      have hpn : p < n := by omega
      have hpni : (p : Int) < n := by omega
      have hc := HA.out.cell hpn
      have hz := HA.out.fz p
      have HN := Lib.hid (HA.out.poke hpn (.bool true))
      rw [mark_step _ _ _ hp1] at HN
      have HBK := Lib.hid (HBB.out.setCell (p := ⟨b3, p, none⟩) (by have := HB3.out; show w.heap.size ≤ b3; omega) (.bool true))
      have K6 := Lib.hid ((heap_cell_other (p := ⟨b3, p, none⟩) (u := .bool true) (show w.heap.size ≠ b3 by have := HB3.out; omega)).trans K4.out)
      have K7 := Lib.hid ((heap_cell_other (p := ⟨b3, p, none⟩) (u := .bool true) (show w.heap.size + 1 ≠ b3 by have := HB3.out; omega)).trans K5.out)
      unfold cellT at hc
      go_wp2_with fail
      go_roundw
      case rel => exact ⟨p + 1, by omega, by omega, by go_num, HN.out, K6.out, K7.out, HBK.out⟩
      case measure => simp [intOf]; omega
    · have hle : ¬ (p : Int) ≤ ((a : Int) + k - 1) / 4096 := by omega
      obtain rfl : p = (a + k - 1) / 4096 + 1 := by omega
      have HD := Lib.hid (HA.out)
      rw [mark_last d a k _ hk rfl] at HD
      have c11 := (cell_of_row _ _ 1 _ _ _ K4.out).trans (rfl : _ = some (.slice (some ⟨b2, 0, none⟩) n c2 : Value))
      have f13 := fun j => frozen_of_row _ _ j _ _ K4.out
      have hkk : (wr.setCell ⟨w.heap.size, 1, none⟩ (.slice (some ⟨b3, 0, none⟩) n c3)).heap[w.heap.size]? = some (.cells #[.slice (some ⟨b1, 0, none⟩) n1 c1, .slice (some ⟨b3, 0, none⟩) n c3, .int .i64 q] 65 (0, 0)) := (set_cells K4.out).trans rfl
      have hx15 := Lib.hid (show KX (fun k => k = w.heap.size) wr (wr.setCell ⟨w.heap.size, 1, none⟩ (.slice (some ⟨b3, 0, none⟩) n c3)) from (KX.refl (fun k => k = w.heap.size) wr).setCell (p := ⟨w.heap.size, 1, none⟩) (.inl rfl) _)
      clear HA hp1 hp2 hp0 hpN hlt
      go_upto_region 8 with fail
      generalize (wr.setCell ⟨w.heap.size, 1, none⟩ (.slice (some ⟨b3, 0, none⟩) n c3)) = w14 at hkk hx15 ⊢
      clear c11 f13
      have K16 := Lib.hid (hx15.out.heap K5.out (by omega))
      have K17 := Lib.hid hkk
      have HD2 := Lib.hid (HD.out.kx hx15.out (by have := HB3.out; omega))
      have HB18 := Lib.hid (HBB.out.trans (hx15.out.below (B := w.heap.size) (fun k hk e => by omega) HBB.out.size))
      clear hkk K4 K5 HBB hx15 HD
      have HO19 := Lib.hid (refC_one b1 n1 c1 b3 n c3 q)
      unfold refC at HO19
      go_wp2_with (first | (refine wpList_load_row rfl 65 _ rfl (w.heap.size) rfl 65 #[.slice (some ⟨b1, 0, none⟩) n1 c1, .slice (some ⟨b3, 0, none⟩) n c3, .int .i64 q] (0, 0) _ K17.out Tryd.underlying65 rfl (by kernel_rfl) ?_) | (refine wpList_store_to rfl 65 _ _ rfl (w.heap.size + 1) #[.slice (some ⟨b1, 0, none⟩) n1 c1, .slice (some ⟨b3, 0, none⟩) n c3, .int .i64 q] rfl rfl 65 #[.slice none 0 0, .slice none 0 0, .int .i64 0] K16.out (by kernel_rfl) rfl HO19.out ?_))
      intro w20 hx21 hkk
      have K23 := Lib.hid hkk
      have HD3 := Lib.hid (HD2.out.kx hx21.out (by have := HB3.out; omega))
      have HB24 := Lib.hid (HB18.out.trans (hx21.out.below (B := w.heap.size) (fun k hk e => by omega) HB18.out.size))
      clear hkk K16 HB18 hx21
      go_wp2_with fail
      exact bodyPost_ret (v := .agg #[.slice (some ⟨b1, 0, none⟩) n1 c1, .slice (some ⟨b3, 0, none⟩) n c3, .int .i64 q]) (results_cell_row Tryd.results77 _ _ (w.heap.size + 1) 65 #[.slice (some ⟨b1, 0, none⟩) n1 c1, .slice (some ⟨b3, 0, none⟩) n c3, .int .i64 q] (0, 0) _ rfl K23.out Tryd.underlying65 rfl (by kernel_rfl)) rfl ⟨b3, c3, rfl, HD3.out, by have := HB3.out; omega, HB24.out⟩
end Go.Proofs.YtcmbnkmbaghkdaaDoor
namespace Go.Proofs.YtcmbnkmbaghkdaaDoor
open Go.RowKit

/-- The document's memory: its value, and what its rows hold. -/
structure RefAt (W : World) (B : Nat) (v : Value) (m : Mm) : Prop where
  n1 : 1 ≤ m.n
  n2 : m.n ≤ 16384
  at_ : ∃ b1 c1 b2 c2, (v = .agg (refC b1 (4096 * m.n) c1 b2 m.n c2 m.wr) ∧ 4096 * m.n ≤ c1) ∧ B ≤ b1 ∧ B ≤ b2 ∧ Row W b1 5 (4096 * m.n) (cellU m.f) ∧ Row W b2 4 m.n (cellT m.d)
theorem markL_one (d : Nat → Bool) (a k : Nat) (hk : 0 < k) (h : a % 4096 + k ≤ 4096) : markL d a k = updD d (a / 4096) := by
  funext i
  show (d i || decide (0 < k ∧ a / 4096 ≤ i ∧ i ≤ (a + k - 1) / 4096)) = if i = a / 4096 then true else d i
  by_cases e : i = a / 4096
  · rw [if_pos e, decide_eq_true (by omega), Bool.or_true]
  · rw [if_neg e, decide_eq_false (by omega), Bool.or_false]
set_option maxRecDepth 100000 in
set_option maxHeartbeats 1600000 in
theorem ref6_Store_row {w : World} {b1 c1 b2 n c2 : Nat} {q : Int} {f : Nat → UInt8} {d : Nat → Bool} (r1 : Row w b1 5 (4096 * n) (cellU f)) (r2 : Row w b2 4 n (cellT d)) (hn : 0 < n) (hn2 : n ≤ 16384) (a k v : Nat) (hv : v < 4294967296) (hk : okN k) (hs : a + k ≤ 4096 * n) (hr : a % k = 0) :
    Calls Tryd.prog 40 #[.agg (refC b1 (4096 * n) c1 b2 n c2 q), .int .u32 a, .int .i64 k, .int .u32 v] w fun e w' =>
      ∃ b3 c3 b4 c4, e = .returned (.tuple #[.agg (refC b3 (4096 * n) c3 b4 n c4 (wrap64 (q + 1))), .int .i64 0]) ∧ Row w' b3 5 (4096 * n) (cellU (putL f a (leB k v))) ∧ Row w' b4 4 n (cellT (markL d a k)) ∧ w.heap.size ≤ b3 ∧ w.heap.size ≤ b4 ∧ Below w.heap.size w w' ∧ 4096 * n ≤ c3 := by
  have hk1 : 0 < k := by rcases hk with rfl | rfl | rfl <;> omega
  have ha : a < 4294967296 := by omega
  have HB2 : Hid (b2 < w.heap.size) := Lib.hid r2.lt
  have HM := Lib.hid (fun W b (r : Row W b2 4 n (cellT d)) cb => ref6_mark_ok (b1 := b) (n1 := 4096 * n) (c1 := cb) (c2 := c2) (q := wrap64 (q + 1)) r hn hn2 a k hk1 hs)
  unfold refC at *
  obtain ⟨k0, k1, hb0⟩ := two_new w (.cells #[.slice (some ⟨b1, 0, none⟩) (4096 * n) c1, .slice (some ⟨b2, 0, none⟩) n c2, .int .i64 q] 65) (.cells #[.slice none 0 0, .slice none 0 0, .int .i64 0] 65)
  have HR2 := Lib.hid (r2.below hb0)
  have K0 := Lib.hid k0
  have K1 := Lib.hid k1
  have HB0 := Lib.hid hb0
  have HW := Lib.hid (ref1_With_ok (c := c1) (r1.below hb0) a k v hv hk hs hr (by omega))
  clear r1 r2 k0 k1 hb0 hk hr hs hk1
  go_enter Tryd.func40, Tryd.ntmps40
  go_upto_region 1 with fail
  generalize ((w.alloc (.cells #[.slice (some ⟨b1, 0, none⟩) (4096 * n) c1, .slice (some ⟨b2, 0, none⟩) n c2, .int .i64 q] 65)).alloc (.cells #[.slice none 0 0, .slice none 0 0, .int .i64 0] 65)) = w1 at HR2 K0 K1 HB0 HW ⊢
  have cc := (cell_of_row _ _ 0 _ _ _ K0.out).trans (rfl : _ = some (.slice (some ⟨b1, 0, none⟩) (4096 * n) c1 : Value))
  have HSZ : Hid (w.heap.size + 1 < w1.heap.size) := Lib.hid (lt_heap K1.out)
  have han : (a : Int) < 4294967296 := by omega
  go_wp2_with fail
  refine (HW.out).mono ?_
  rintro e w2 ⟨b3, c3, rfl, hrow, hb3, hbl, hc3⟩
  have HC3 := Lib.hid hc3
  clear hc3
  have K2 := Lib.hid (keepB K0.out hbl)
  have K3 := Lib.hid (keepB K1.out hbl)
  have R2 := Lib.hid (HR2.out.below hbl)
  have R3 := Lib.hid hrow
  have HB3 : Hid (w.heap.size + 1 < b3) := Lib.hid (Nat.lt_of_lt_of_le HSZ.out hb3)
  have HB4 := Lib.hid (HB0.out.trans (hbl.mono HB0.out.size))
  clear cc HW hrow hb3 hbl K0 K1 HB0 HR2
  have c11 := (cell_of_row _ _ 0 _ _ _ K2.out).trans (rfl : _ = some (.slice (some ⟨b1, 0, none⟩) (4096 * n) c1 : Value))
  have c12 := (cell_of_row _ _ 2 _ _ _ K2.out).trans (rfl : _ = some (.int .i64 q : Value))
  have f13 := fun j => frozen_of_row _ _ j _ _ K2.out
  have hkk : ((w2.setCell ⟨w.heap.size, 0, none⟩ (.slice (some ⟨b3, 0, none⟩) (4096 * n) c3)).setCell ⟨w.heap.size, 2, none⟩ (.int .i64 (wrap64 (q + 1)))).heap[w.heap.size]? = some (.cells #[.slice (some ⟨b3, 0, none⟩) (4096 * n) c3, .slice (some ⟨b2, 0, none⟩) n c2, .int .i64 (wrap64 (q + 1))] 65 (0, 0)) := (set_cells (set_cells K2.out)).trans rfl
  have hx15 := Lib.hid (show KX (fun k => k = w.heap.size) w2 ((w2.setCell ⟨w.heap.size, 0, none⟩ (.slice (some ⟨b3, 0, none⟩) (4096 * n) c3)).setCell ⟨w.heap.size, 2, none⟩ (.int .i64 (wrap64 (q + 1)))) from ((KX.refl (fun k => k = w.heap.size) w2).setCell (p := ⟨w.heap.size, 0, none⟩) (.inl rfl) _).setCell (p := ⟨w.heap.size, 2, none⟩) (.inl rfl) _)
  go_upto_region 6 with fail
  generalize ((w2.setCell ⟨w.heap.size, 0, none⟩ (.slice (some ⟨b3, 0, none⟩) (4096 * n) c3)).setCell ⟨w.heap.size, 2, none⟩ (.int .i64 (wrap64 (q + 1)))) = w3 at hkk hx15 ⊢
  clear c11 c12 f13
  have K5 := Lib.hid (hx15.out.heap K3.out (by omega))
  have K6 := Lib.hid hkk
  have R4 := Lib.hid (R3.out.kx hx15.out (by have := HB3.out; omega))
  have HB5 := Lib.hid (HB4.out.trans (hx15.out.below (B := w.heap.size) (fun k hk e => by omega) HB4.out.size))
  have HMM := Lib.hid (HM.out w3 b3 (R2.out.kx hx15.out (by have := HB2.out; omega)) c3)
  clear hkk hx15 K2 K3 R2 R3 HB4 HM
  go_wp2_with (refine wpList_load_row rfl 65 _ rfl (w.heap.size) rfl 65 #[.slice (some ⟨b3, 0, none⟩) (4096 * n) c3, .slice (some ⟨b2, 0, none⟩) n c2, .int .i64 (wrap64 (q + 1))] (0, 0) _ K6.out Tryd.underlying65 rfl (by kernel_rfl) ?_)
  refine (HMM.out).mono ?_
  rintro e w4 ⟨b4, c4, rfl, hrow, hb4, hbl⟩
  have R5 := Lib.hid (R4.out.below hbl)
  have R6 := Lib.hid hrow
  have K7 := Lib.hid (keepB K5.out hbl)
  have HBX : Hid (w.heap.size + 1 < b4) := Lib.hid (Nat.lt_of_lt_of_le (lt_heap K5.out) hb4)
  have HB6 := Lib.hid (HB5.out.trans (hbl.mono HB5.out.size))
  clear HMM hrow hb4 hbl R4 K5 K6 HB5
  have HO19 := Lib.hid (refC_one b3 (4096 * n) c3 b4 n c4 (wrap64 (q + 1)))
  unfold refC at HO19
  go_wp2_with (refine wpList_store_to rfl 65 _ _ rfl (w.heap.size + 1) #[.slice (some ⟨b3, 0, none⟩) (4096 * n) c3, .slice (some ⟨b4, 0, none⟩) n c4, .int .i64 (wrap64 (q + 1))] rfl rfl 65 #[.slice none 0 0, .slice none 0 0, .int .i64 0] K7.out (by kernel_rfl) rfl HO19.out ?_)
  intro w5 hx21 hkk
  have K23 := Lib.hid hkk
  have R7 := Lib.hid (R5.out.kx hx21.out (by have := HB3.out; omega))
  have R8 := Lib.hid (R6.out.kx hx21.out (by have := HBX.out; omega))
  have HB24 := Lib.hid (HB6.out.trans (hx21.out.below (B := w.heap.size) (fun k hk e => by omega) HB6.out.size))
  clear hkk K7 HB6 hx21 R5 R6
  go_wp2_with fail
  exact bodyPost_ret (v := .tuple #[.agg #[.slice (some ⟨b3, 0, none⟩) (4096 * n) c3, .slice (some ⟨b4, 0, none⟩) n c4, .int .i64 (wrap64 (q + 1))], .int .i64 0]) (results_cell_tmp Tryd.results40 _ _ (w.heap.size + 1) 65 #[.slice (some ⟨b3, 0, none⟩) (4096 * n) c3, .slice (some ⟨b4, 0, none⟩) n c4, .int .i64 (wrap64 (q + 1))] (0, 0) _ rfl K23.out Tryd.underlying65 rfl (by kernel_rfl)) rfl ⟨b3, c3, b4, c4, rfl, R7.out, R8.out, by have := HB3.out; omega, by have := HBX.out; omega, HB24.out, HC3.out⟩
theorem ref6_Store_ok {w : World} {B : Nat} {v : Value} {m : Mm} (h : RefAt w B v m) (a k x : Nat) (hx : x < 4294967296) (hk : okN k) (hs : a + k ≤ 4096 * m.n) (hr : a % k = 0) :
    Calls Tryd.prog 40 #[v, .int .u32 a, .int .i64 k, .int .u32 x] w fun e w' => ∃ v', e = .returned (.tuple #[v', .int .i64 0]) ∧ RefAt w' w.heap.size v' (m.store a k x) ∧ Below w.heap.size w w' := by
  obtain ⟨n1, n2, b1, c1, b2, c2, ⟨rfl, hcc⟩, hb1, hb2, r1, r2⟩ := h
  refine (ref6_Store_row r1 r2 (by omega) n2 a k x hx hk hs hr).mono ?_
  rintro e w' ⟨b3, c3, b4, c4, rfl, h3, h4, h5, h6, h7, h8⟩
  refine ⟨_, rfl, ⟨n1, n2, b3, c3, b4, c4, ⟨rfl, h8⟩, h5, h6, h3, ?_⟩, h7⟩
  rw [markL_one _ _ _ (by rcases hk with rfl | rfl | rfl <;> omega) (by rcases hk with rfl | rfl | rfl <;> omega)] at h4
  exact h4
end Go.Proofs.YtcmbnkmbaghkdaaDoor
namespace Go.Proofs.YtcmbnkmbaghkdaaDoor
open Go.RowKit

theorem make_bytes (n : Nat) (h : n ≤ 67108864) (w : World) : (Instr.makeSlice 62 (.int .i64 n) (.int .i64 n)).run Tryd.prog w = .ok (.slice (some ⟨w.heap.size, 0, none⟩) n n) (w.alloc (.cells (madeCells #[.int .u8 0] n) 5)) := by
  obtain ⟨i, hi, hz, hs, hb⟩ := info_of info_u8
  have h := run_make (P := Tryd.prog) w 62 5 i _ Tryd.underlying62 hi hz .i64 .i64 n n (by omega) (by omega) (by rw [hb]; omega) (by omega)
  rw [hs, Int.toNat_natCast, Nat.mul_one] at h
  exact h
theorem make_bools (n : Nat) (h : n ≤ 16384) (w : World) : (Instr.makeSlice 63 (.int .i64 n) (.int .i64 n)).run Tryd.prog w = .ok (.slice (some ⟨w.heap.size, 0, none⟩) n n) (w.alloc (.cells (madeCells #[.bool false] n) 4)) := by
  obtain ⟨i, hi, hz, hs, hb⟩ := info_of info_bool
  have h := run_make (P := Tryd.prog) w 63 4 i _ Tryd.underlying63 hi hz .i64 .i64 n n (by omega) (by omega) (by rw [hb]; omega) (by omega)
  rw [hs, Int.toNat_natCast, Nat.mul_one] at h
  exact h
theorem madeCells_get (v : Value) {n j : Nat} (hj : j < n) : (madeCells #[v] n)[j]? = some v := by
  unfold madeCells
  simp [hj, Nat.mod_one]
set_option maxRecDepth 100000 in
set_option maxHeartbeats 1600000 in
theorem ref6_New_ok (n : Nat) (w : World) (n1 : 1 ≤ n) (n2 : n ≤ 16384) :
    Calls Tryd.prog 39 #[.int .i64 n] w fun e w' => ∃ v, e = .returned (.tuple #[v, .int .i64 0]) ∧ RefAt w' w.heap.size v (Mm.new n) ∧ Below w.heap.size w w' := by
  have hm1 := fun W => make_bytes (4096 * n) (by omega) W
  have hm2 := fun W => make_bools n n2 W
  have hn1 : (1 : Int) ≤ n := by omega
  have hn2 : (n : Int) ≤ 16384 := by omega
  rw [show ((4096 * n : Nat) : Int) = 4096 * (n : Int) by omega] at hm1
  go_enter Tryd.func39, Tryd.ntmps39
  go_wp2_with fail
  go_region
  · obtain ⟨k0, k1, k2, ks, hb⟩ := three_new w (.cells (refC (w.heap.size + 1) (4096 * n) (4096 * n) (w.heap.size + 1 + 1) n n 0) 65) (.cells (madeCells #[.int .u8 0] (4096 * n)) 5) (.cells (madeCells #[.bool false] n) 4)
    unfold refC at k0 k1 k2 hb
    generalize ((((w.alloc _).alloc _).alloc _).drew) = w1 at k0 k1 k2 hb ⊢
    have K0 := Lib.hid k0
    have HF : Hid (RefAt w1 w.heap.size (.agg (refC (w.heap.size + 1) (4096 * n) (4096 * n) (w.heap.size + 1 + 1) n n 0)) (Mm.new n) ∧ Below w.heap.size w w1) := Lib.hid ⟨⟨n1, n2, _, _, _, _, ⟨rfl, Nat.le_refl _⟩, by omega, by omega, ⟨_, k1, by rw [size_madeCells]; exact Nat.le_refl _, fun i hi => madeCells_get _ hi⟩, ⟨_, k2, by rw [size_madeCells]; exact Nat.le_refl _, fun i hi => madeCells_get _ hi⟩⟩, hb⟩
    clear k0 k1 k2 ks hb
    go_wp2_with fail
    exact bodyPost_ret (v := .tuple #[.agg (refC (w.heap.size + 1) (4096 * n) (4096 * n) (w.heap.size + 1 + 1) n n 0), .int .i64 0]) (results_cell_tmp Tryd.results39 _ _ (w.heap.size) 65 (refC (w.heap.size + 1) (4096 * n) (4096 * n) (w.heap.size + 1 + 1) n n 0) (0, 0) _ rfl K0.out Tryd.underlying65 rfl (by kernel_rfl)) rfl ⟨_, rfl, HF.out.1, HF.out.2⟩
  · obtain ⟨k0, k1, k2, ks, hb⟩ := three_new w (.cells (refC (w.heap.size + 1 + 1) (4096 * n) (4096 * n) (w.heap.size + 1) n n 0) 65) (.cells (madeCells #[.bool false] n) 4) (.cells (madeCells #[.int .u8 0] (4096 * n)) 5)
    unfold refC at k0 k1 k2 hb
    generalize ((((w.alloc _).alloc _).alloc _).drew) = w1 at k0 k1 k2 hb ⊢
    have K0 := Lib.hid k0
    have HF : Hid (RefAt w1 w.heap.size (.agg (refC (w.heap.size + 1 + 1) (4096 * n) (4096 * n) (w.heap.size + 1) n n 0)) (Mm.new n) ∧ Below w.heap.size w w1) := Lib.hid ⟨⟨n1, n2, _, _, _, _, ⟨rfl, Nat.le_refl _⟩, by omega, by omega, ⟨_, k2, by rw [size_madeCells]; exact Nat.le_refl _, fun i hi => madeCells_get _ hi⟩, ⟨_, k1, by rw [size_madeCells]; exact Nat.le_refl _, fun i hi => madeCells_get _ hi⟩⟩, hb⟩
    clear k0 k1 k2 ks hb
    go_wp2_with fail
    exact bodyPost_ret (v := .tuple #[.agg (refC (w.heap.size + 1 + 1) (4096 * n) (4096 * n) (w.heap.size + 1) n n 0), .int .i64 0]) (results_cell_tmp Tryd.results39 _ _ (w.heap.size) 65 (refC (w.heap.size + 1 + 1) (4096 * n) (4096 * n) (w.heap.size + 1) n n 0) (0, 0) _ rfl K0.out Tryd.underlying65 rfl (by kernel_rfl)) rfl ⟨_, rfl, HF.out.1, HF.out.2⟩
end Go.Proofs.YtcmbnkmbaghkdaaDoor
namespace Go.Proofs.YtcmbnkmbaghkdaaDoor
open Go.RowKit

def lay1 (m : Mm) (x : Nat × Nat) : Mm := m.store (x.1 % 8192 / 4 * 4) 4 x.2
def layL (l : List (Nat × Nat)) : Mm := l.foldl lay1 (Mm.new 2)
theorem layL_nil : layL [] = Mm.new 2 := rfl
theorem layL_snoc (l : List (Nat × Nat)) (x : Nat × Nat) : layL (l ++ [x]) = lay1 (layL l) x := by unfold layL; rw [List.foldl_append]; rfl
theorem layL_n (l : List (Nat × Nat)) : (layL l).n = 2 := by
  unfold layL
  suffices h : ∀ m : Mm, m.n = 2 → (l.foldl lay1 m).n = 2 from h _ rfl
  induction l with
  | nil => exact fun m h => h
  | cons x t ih => exact fun m h => ih _ h
/-- The pairs of a slice are these. -/
def PairsL (w : World) (p : Option Addr) (l : List (Nat × Nat)) : Prop := ∀ (k A B : Nat), l[k]? = some (A, B) → A < 4294967296 ∧ B < 4294967296 ∧ ∃ b o, p = some ⟨b, o, none⟩ ∧
  ∀ W, Below w.heap.size w W → W.cell? ⟨b, o + k * 2, none⟩ = some (.int .u32 A) ∧ W.cell? ⟨b, o + k * 2 + 1, none⟩ = some (.int .u32 B)
theorem PairsAt.list {w : World} {p : Option Addr} {n : Nat} (h : PairsAt w p n) : ∃ l, l.length = n ∧ PairsL w p l := by
  have key : ∀ k, ∃ x : Nat × Nat, k < n → x.1 < 4294967296 ∧ x.2 < 4294967296 ∧ ∃ b o, p = some ⟨b, o, none⟩ ∧ ∀ W, Below w.heap.size w W → W.cell? ⟨b, o + k * 2, none⟩ = some (.int .u32 x.1) ∧ W.cell? ⟨b, o + k * 2 + 1, none⟩ = some (.int .u32 x.2) := by
    intro k
    by_cases hk : k < n
    · obtain ⟨b, o, A, B, hp, hA, hB, hc⟩ := h k hk
      exact ⟨(A, B), fun _ => ⟨hA, hB, b, o, hp, hc⟩⟩
    · exact ⟨(0, 0), fun h => absurd h hk⟩
  obtain ⟨x, hx⟩ := Classical.axiomOfChoice key
  refine ⟨(List.range n).map x, by simp, fun k A B hk => ?_⟩
  have hkn : k < n := by have := (List.getElem?_eq_some_iff.1 hk).1; simpa using this
  have e : x k = (A, B) := by simpa [hkn] using hk
  have := hx k hkn
  rw [e] at this
  exact this
/-- The document's memory beside the program's. -/
structure RefF (W : World) (B : Nat) (v : Value) (m : Mm) (F : Nat → Prop) : Prop where
  n1 : 1 ≤ m.n
  n2 : m.n ≤ 16384
  at_ : ∃ b1 c1 b2 c2, (v = .agg (refC b1 (4096 * m.n) c1 b2 m.n c2 m.wr) ∧ 4096 * m.n ≤ c1) ∧ B ≤ b1 ∧ B ≤ b2 ∧ ¬ F b1 ∧ ¬ F b2 ∧ Row W b1 5 (4096 * m.n) (cellU m.f) ∧ Row W b2 4 m.n (cellT m.d)
theorem RefF.ref {W : World} {B : Nat} {v : Value} {m : Mm} {F : Nat → Prop} (h : RefF W B v m F) : RefAt W B v m := by
  obtain ⟨n1, n2, b1, c1, b2, c2, ⟨rfl, hcc⟩, h1, h2, h3, h4, h5, h6⟩ := h
  exact ⟨n1, n2, b1, c1, b2, c2, ⟨rfl, hcc⟩, h1, h2, h5, h6⟩
theorem RefF.step {W W' : World} {B : Nat} {v : Value} {m : Mm} {F F' : Nat → Prop} (h : RefF W B v m F) (hs : MemStep F F' W W') : RefF W' B v m F' := by
  obtain ⟨n1, n2, b1, c1, b2, c2, ⟨rfl, hcc⟩, h1, h2, h3, h4, h5, h6⟩ := h
  exact ⟨n1, n2, b1, c1, b2, c2, ⟨rfl, hcc⟩, h1, h2, hs.off h5.lt h3, hs.off h6.lt h4, h5.step hs h3, h6.step hs h4⟩
theorem RefF.below {W W' : World} {B : Nat} {v : Value} {m : Mm} {F : Nat → Prop} (h : RefF W B v m F) (hb : Below W.heap.size W W') : RefF W' B v m F := by
  obtain ⟨n1, n2, b1, c1, b2, c2, ⟨rfl, hcc⟩, h1, h2, h3, h4, h5, h6⟩ := h
  exact ⟨n1, n2, b1, c1, b2, c2, ⟨rfl, hcc⟩, h1, h2, h3, h4, h5.below hb, h6.below hb⟩
theorem RefF.kx {W W' : World} {B : Nat} {v : Value} {m : Mm} {F X : Nat → Prop} (h : RefF W B v m F) (hb : KX X W W') (hX : ∀ k, X k → F k ∨ k < B) : RefF W' B v m F := by
  obtain ⟨n1, n2, b1, c1, b2, c2, ⟨rfl, hcc⟩, h1, h2, h3, h4, h5, h6⟩ := h
  exact ⟨n1, n2, b1, c1, b2, c2, ⟨rfl, hcc⟩, h1, h2, h3, h4, h5.kx hb (fun hx => (hX _ hx).elim h3 (by omega)), h6.kx hb (fun hx => (hX _ hx).elim h4 (by omega))⟩
theorem RefF.of {W : World} {B B' : Nat} {v : Value} {m : Mm} {F : Nat → Prop} (h : RefAt W B v m) (hF : ∀ k, F k → k < B) (hB : B' ≤ B) : RefF W B' v m F := by
  obtain ⟨n1, n2, b1, c1, b2, c2, ⟨rfl, hcc⟩, h1, h2, h5, h6⟩ := h
  exact ⟨n1, n2, b1, c1, b2, c2, ⟨rfl, hcc⟩, by omega, by omega, fun hf => by have := hF _ hf; omega, fun hf => by have := hF _ hf; omega, h5, h6⟩
theorem RefF.weak {W : World} {B : Nat} {v : Value} {m : Mm} {F F' : Nat → Prop} (h : RefF W B v m F) (hF : ∀ k, F' k → F k) : RefF W B v m F' := by
  obtain ⟨n1, n2, b1, c1, b2, c2, ⟨rfl, hcc⟩, h1, h2, h3, h4, h5, h6⟩ := h
  exact ⟨n1, n2, b1, c1, b2, c2, ⟨rfl, hcc⟩, h1, h2, fun h => h3 (hF _ h), fun h => h4 (hF _ h), h5, h6⟩
theorem RefF.form {W : World} {B : Nat} {v : Value} {m : Mm} {F : Nat → Prop} (h : RefF W B v m F) : ∃ C, v = .agg C ∧ C.size = 3 ∧ C.all (·.oneCell') = true := by
  obtain ⟨n1, n2, b1, c1, b2, c2, ⟨rfl, _⟩, _⟩ := h
  exact ⟨_, rfl, rfl, refC_one _ _ _ _ _ _ _⟩
theorem RefF.keepLow {W W' : World} {B : Nat} {v : Value} {m : Mm} {F : Nat → Prop} (h : RefF W (B + 1) v m F) (hb : KX (fun k => k = B) W W') : RefF W' B v m F := by
  obtain ⟨n1, n2, b1, c1, b2, c2, ⟨rfl, hcc⟩, h1, h2, h3, h4, h5, h6⟩ := h
  exact ⟨n1, n2, b1, c1, b2, c2, ⟨rfl, hcc⟩, by omega, by omega, h3, h4, h5.kx hb (by omega), h6.kx hb (by omega)⟩
theorem results_tmp_cell {P : Program} {fn : Func} {p a : Tmp} {ty : TypeId} (h : fn.results = #[.tmp a, .cell p ty]) (tmps : Array Value) (w : World) (g : Nat) (t : TypeId) (cs : Array Value) (fr : Nat × Nat) (d : TypeDesc)
    (hp : tmps.getD p undef = .pointer (some ⟨g, 0, none⟩)) (hg : w.heap[g]? = some (.cells cs t fr))
    (hu : P.underlying ty = some d) (hd : (match d with | .struct _ | .array _ _ => true | _ => false) = true) (hi : (P.info? ty).map (·.size) = some cs.size) :
    (results fn tmps).run P w = .ok (.tuple #[tmps.getD a undef, .agg cs]) w := by
  have hp' : tmps[p]?.getD undef = .pointer (some ⟨g, 0, none⟩) := by simpa using hp
  simp [results, h, hp', asAddr, run_loadVar_row w g t ty cs fr d hg hu hd hi]
theorem lay_at (A : Nat) : A % 8192 / 4 * 4 < 8192 ∧ A % 8192 / 4 * 4 % 4 = 0 ∧ A % 8192 / 4 * 4 + 4 ≤ 8192 := by omega
end Go.Proofs.YtcmbnkmbaghkdaaDoor
namespace Go.Proofs.YtcmbnkmbaghkdaaDoor
open Go.RowKit

def pairsC (l : List (Nat × Nat)) : Array Value := (l.flatMap fun x => [Value.int .u32 (x.1 : Int), Value.int .u32 (x.2 : Int)]).toArray
theorem pairsC_get (l : List (Nat × Nat)) (k : Nat) (x : Nat × Nat) (h : l[k]? = some x) : (pairsC l)[k * 2]? = some (.int .u32 (x.1 : Int)) ∧ (pairsC l)[k * 2 + 1]? = some (.int .u32 (x.2 : Int)) := by
  unfold pairsC
  simp only [List.getElem?_toArray]
  induction l generalizing k with
  | nil => simp at h
  | cons y t ih =>
    cases k with
    | zero =>
      obtain rfl : y = x := by simpa using h
      simp
    | succ k =>
      have := ih k (by simpa using h)
      rw [show (k + 1) * 2 = k * 2 + 1 + 1 by omega, show k * 2 + 1 + 1 + 1 = (k * 2 + 1) + 1 + 1 by omega]
      simpa using this
theorem pairs_of_row {W : World} {b : Nat} {l : List (Nat × Nat)} {t : TypeId} (h : W.heap[b]? = some (.cells (pairsC l) t (0, 0))) (hb : ∀ (k : Nat) (x : Nat × Nat), l[k]? = some x → x.1 < 4294967296 ∧ x.2 < 4294967296) : PairsL W (some ⟨b, 0, none⟩) l := by
  intro k A B hk
  obtain ⟨h1, h2⟩ := hb k _ hk
  obtain ⟨g1, g2⟩ := pairsC_get l k _ hk
  refine ⟨h1, h2, b, 0, rfl, fun W' hW => ?_⟩
  have hl := lt_heap h
  exact ⟨(hW.cell (p := ⟨b, 0 + k * 2, none⟩) hl).trans ((cell_of_row _ _ _ _ _ _ h).trans (by rw [Nat.zero_add]; exact g1)), (hW.cell (p := ⟨b, 0 + k * 2 + 1, none⟩) hl).trans ((cell_of_row _ _ _ _ _ _ h).trans (by rw [Nat.zero_add]; exact g2))⟩
theorem LawMem.back {w0 w1 W : World} {g : Nat} {m : Mm} {F : Nat → Prop} (h : LawMem w1 W g m F) (hb : Below w0.heap.size w0 w1) : LawMem w0 W g m F :=
  ⟨h.ram, fun k hk => Nat.le_trans hb.size (h.lo k hk), hb.trans (h.fr.mono hb.size)⟩
end Go.Proofs.YtcmbnkmbaghkdaaDoor

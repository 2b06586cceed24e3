/-
pinnaceref06.New and Store, walked where they do not fail.
No condition.
-/
import Derived.Test.YtcakcfeipfjmpaaDoorRefRam
namespace Go.Proofs.YtcakcfeipfjmpaaDoor
open Go.RowKit

/-- The document's memory: its value, and what its rows hold. -/
structure RefAt (W : World) (B : Nat) (v : Value) (m : Mm) : Prop where
  n1 : 1 ≤ m.n
  n2 : m.n ≤ 16384
  at_ : ∃ b1 c1 b2 c2, (v = .agg (refC b1 (4096 * m.n) c1 b2 m.n c2 m.wr) ∧ 4096 * m.n ≤ c1) ∧ B ≤ b1 ∧ B ≤ b2 ∧ Row W b1 5 (4096 * m.n) (cellU m.f) ∧ Row W b2 4 m.n (cellT m.d)
theorem markL_one (d : Nat → Bool) (a k : Nat) (hk : 0 < k) (h : a % 4096 + k ≤ 4096) : markL d a k = updD d (a / 4096) := by
  funext i
  show (d i || decide (0 < k ∧ a / 4096 ≤ i ∧ i ≤ (a + k - 1) / 4096)) = if i = a / 4096 then true else d i
  by_cases e : i = a / 4096
  · rw [if_pos e, decide_eq_true (by omega), Bool.or_true]
  · rw [if_neg e, decide_eq_false (by omega), Bool.or_false]
set_option maxRecDepth 100000 in
set_option maxHeartbeats 1600000 in
theorem ref6_Store_row {w : World} {b1 c1 b2 n c2 : Nat} {q : Int} {f : Nat → UInt8} {d : Nat → Bool} (r1 : Row w b1 5 (4096 * n) (cellU f)) (r2 : Row w b2 4 n (cellT d)) (hn : 0 < n) (hn2 : n ≤ 16384) (a k v : Nat) (hv : v < 4294967296) (hk : okN k) (hs : a + k ≤ 4096 * n) (hr : a % k = 0) :
    Calls Tryd.prog 51 #[.agg (refC b1 (4096 * n) c1 b2 n c2 q), .int .u32 a, .int .i64 k, .int .u32 v] w fun e w' =>
      ∃ b3 c3 b4 c4, e = .returned (.tuple #[.agg (refC b3 (4096 * n) c3 b4 n c4 (wrap64 (q + 1))), .int .i64 0]) ∧ Row w' b3 5 (4096 * n) (cellU (putL f a (leB k v))) ∧ Row w' b4 4 n (cellT (markL d a k)) ∧ w.heap.size ≤ b3 ∧ w.heap.size ≤ b4 ∧ Below w.heap.size w w' ∧ 4096 * n ≤ c3 := by
  have hk1 : 0 < k := by rcases hk with rfl | rfl | rfl <;> omega
  have ha : a < 4294967296 := by omega
  have HB2 : Hid (b2 < w.heap.size) := Lib.hid r2.lt
  have HM := Lib.hid (fun W b (r : Row W b2 4 n (cellT d)) cb => ref6_mark_ok (b1 := b) (n1 := 4096 * n) (c1 := cb) (c2 := c2) (q := wrap64 (q + 1)) r hn hn2 a k hk1 hs)
  unfold refC at *
  obtain ⟨k0, k1, hb0⟩ := two_new w (.cells #[.slice (some ⟨b1, 0, none⟩) (4096 * n) c1, .slice (some ⟨b2, 0, none⟩) n c2, .int .i64 q] 30) (.cells #[.slice none 0 0, .slice none 0 0, .int .i64 0] 30)
  have HR2 := Lib.hid (r2.below hb0)
  have K0 := Lib.hid k0
  have K1 := Lib.hid k1
  have HB0 := Lib.hid hb0
  have HW := Lib.hid (ref1_With_ok (c := c1) (r1.below hb0) a k v hv hk hs hr (by omega))
  clear r1 r2 k0 k1 hb0 hk hr hs hk1
  go_enter Tryd.func51, Tryd.ntmps51
  go_upto_region 1 with fail
  generalize ((w.alloc (.cells #[.slice (some ⟨b1, 0, none⟩) (4096 * n) c1, .slice (some ⟨b2, 0, none⟩) n c2, .int .i64 q] 30)).alloc (.cells #[.slice none 0 0, .slice none 0 0, .int .i64 0] 30)) = w1 at HR2 K0 K1 HB0 HW ⊢
  have cc := (cell_of_row _ _ 0 _ _ _ K0.out).trans (rfl : _ = some (.slice (some ⟨b1, 0, none⟩) (4096 * n) c1 : Value))
  have HSZ : Hid (w.heap.size + 1 < w1.heap.size) := Lib.hid (lt_heap K1.out)
  have han : (a : Int) < 4294967296 := by omega
  go_wp2_with fail
  refine (HW.out).mono ?_
  rintro e w2 ⟨b3, c3, rfl, hrow, hb3, hbl, hc3⟩
  have HC3 := Lib.hid hc3
  clear hc3
  have K2 := Lib.hid (keepB K0.out hbl)
  have K3 := Lib.hid (keepB K1.out hbl)
  have R2 := Lib.hid (HR2.out.below hbl)
  have R3 := Lib.hid hrow
  have HB3 : Hid (w.heap.size + 1 < b3) := Lib.hid (Nat.lt_of_lt_of_le HSZ.out hb3)
  have HB4 := Lib.hid (HB0.out.trans (hbl.mono HB0.out.size))
  clear cc HW hrow hb3 hbl K0 K1 HB0 HR2
  have c11 := (cell_of_row _ _ 0 _ _ _ K2.out).trans (rfl : _ = some (.slice (some ⟨b1, 0, none⟩) (4096 * n) c1 : Value))
  have c12 := (cell_of_row _ _ 2 _ _ _ K2.out).trans (rfl : _ = some (.int .i64 q : Value))
  have f13 := fun j => frozen_of_row _ _ j _ _ K2.out
  have hkk : ((w2.setCell ⟨w.heap.size, 0, none⟩ (.slice (some ⟨b3, 0, none⟩) (4096 * n) c3)).setCell ⟨w.heap.size, 2, none⟩ (.int .i64 (wrap64 (q + 1)))).heap[w.heap.size]? = some (.cells #[.slice (some ⟨b3, 0, none⟩) (4096 * n) c3, .slice (some ⟨b2, 0, none⟩) n c2, .int .i64 (wrap64 (q + 1))] 30 (0, 0)) := (set_cells (set_cells K2.out)).trans rfl
  have hx15 := Lib.hid (show KX (fun k => k = w.heap.size) w2 ((w2.setCell ⟨w.heap.size, 0, none⟩ (.slice (some ⟨b3, 0, none⟩) (4096 * n) c3)).setCell ⟨w.heap.size, 2, none⟩ (.int .i64 (wrap64 (q + 1)))) from ((KX.refl (fun k => k = w.heap.size) w2).setCell (p := ⟨w.heap.size, 0, none⟩) (.inl rfl) _).setCell (p := ⟨w.heap.size, 2, none⟩) (.inl rfl) _)
  go_upto_region 6 with fail
  generalize ((w2.setCell ⟨w.heap.size, 0, none⟩ (.slice (some ⟨b3, 0, none⟩) (4096 * n) c3)).setCell ⟨w.heap.size, 2, none⟩ (.int .i64 (wrap64 (q + 1)))) = w3 at hkk hx15 ⊢
  clear c11 c12 f13
  have K5 := Lib.hid (hx15.out.heap K3.out (by omega))
  have K6 := Lib.hid hkk
  have R4 := Lib.hid (R3.out.kx hx15.out (by have := HB3.out; omega))
  have HB5 := Lib.hid (HB4.out.trans (hx15.out.below (B := w.heap.size) (fun k hk e => by omega) HB4.out.size))
  have HMM := Lib.hid (HM.out w3 b3 (R2.out.kx hx15.out (by have := HB2.out; omega)) c3)
  clear hkk hx15 K2 K3 R2 R3 HB4 HM
  go_wp2_with (refine wpList_load_row rfl 30 _ rfl (w.heap.size) rfl 30 #[.slice (some ⟨b3, 0, none⟩) (4096 * n) c3, .slice (some ⟨b2, 0, none⟩) n c2, .int .i64 (wrap64 (q + 1))] (0, 0) _ K6.out Tryd.underlying30 rfl (by kernel_rfl) ?_)
  refine (HMM.out).mono ?_
  rintro e w4 ⟨b4, c4, rfl, hrow, hb4, hbl⟩
  have R5 := Lib.hid (R4.out.below hbl)
  have R6 := Lib.hid hrow
  have K7 := Lib.hid (keepB K5.out hbl)
  have HBX : Hid (w.heap.size + 1 < b4) := Lib.hid (Nat.lt_of_lt_of_le (lt_heap K5.out) hb4)
  have HB6 := Lib.hid (HB5.out.trans (hbl.mono HB5.out.size))
  clear HMM hrow hb4 hbl R4 K5 K6 HB5
  have HO19 := Lib.hid (refC_one b3 (4096 * n) c3 b4 n c4 (wrap64 (q + 1)))
  unfold refC at HO19
  go_wp2_with (refine wpList_store_to rfl 30 _ _ rfl (w.heap.size + 1) #[.slice (some ⟨b3, 0, none⟩) (4096 * n) c3, .slice (some ⟨b4, 0, none⟩) n c4, .int .i64 (wrap64 (q + 1))] rfl rfl 30 #[.slice none 0 0, .slice none 0 0, .int .i64 0] K7.out (by kernel_rfl) rfl HO19.out ?_)
  intro w5 hx21 hkk
  have K23 := Lib.hid hkk
  have R7 := Lib.hid (R5.out.kx hx21.out (by have := HB3.out; omega))
  have R8 := Lib.hid (R6.out.kx hx21.out (by have := HBX.out; omega))
  have HB24 := Lib.hid (HB6.out.trans (hx21.out.below (B := w.heap.size) (fun k hk e => by omega) HB6.out.size))
  clear hkk K7 HB6 hx21 R5 R6
  go_wp2_with fail
  exact bodyPost_ret (v := .tuple #[.agg #[.slice (some ⟨b3, 0, none⟩) (4096 * n) c3, .slice (some ⟨b4, 0, none⟩) n c4, .int .i64 (wrap64 (q + 1))], .int .i64 0]) (results_cell_tmp Tryd.results51 _ _ (w.heap.size + 1) 30 #[.slice (some ⟨b3, 0, none⟩) (4096 * n) c3, .slice (some ⟨b4, 0, none⟩) n c4, .int .i64 (wrap64 (q + 1))] (0, 0) _ rfl K23.out Tryd.underlying30 rfl (by kernel_rfl)) rfl ⟨b3, c3, b4, c4, rfl, R7.out, R8.out, by have := HB3.out; omega, by have := HBX.out; omega, HB24.out, HC3.out⟩
theorem ref6_Store_ok {w : World} {B : Nat} {v : Value} {m : Mm} (h : RefAt w B v m) (a k x : Nat) (hx : x < 4294967296) (hk : okN k) (hs : a + k ≤ 4096 * m.n) (hr : a % k = 0) :
    Calls Tryd.prog 51 #[v, .int .u32 a, .int .i64 k, .int .u32 x] w fun e w' => ∃ v', e = .returned (.tuple #[v', .int .i64 0]) ∧ RefAt w' w.heap.size v' (m.store a k x) ∧ Below w.heap.size w w' := by
  obtain ⟨n1, n2, b1, c1, b2, c2, ⟨rfl, hcc⟩, hb1, hb2, r1, r2⟩ := h
  refine (ref6_Store_row r1 r2 (by omega) n2 a k x hx hk hs hr).mono ?_
  rintro e w' ⟨b3, c3, b4, c4, rfl, h3, h4, h5, h6, h7, h8⟩
  refine ⟨_, rfl, ⟨n1, n2, b3, c3, b4, c4, ⟨rfl, h8⟩, h5, h6, h3, ?_⟩, h7⟩
  rw [markL_one _ _ _ (by rcases hk with rfl | rfl | rfl <;> omega) (by rcases hk with rfl | rfl | rfl <;> omega)] at h4
  exact h4
end Go.Proofs.YtcakcfeipfjmpaaDoor

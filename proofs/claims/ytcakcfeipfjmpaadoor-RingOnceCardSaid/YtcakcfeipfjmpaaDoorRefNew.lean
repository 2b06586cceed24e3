/-
pinnaceref06.New, walked where it does not fail.
No condition.
-/
import Derived.Test.YtcakcfeipfjmpaaDoorRefStore
namespace Go.Proofs.YtcakcfeipfjmpaaDoor
open Go.RowKit

theorem make_bytes (n : Nat) (h : n ≤ 67108864) (w : World) : (Instr.makeSlice 27 (.int .i64 n) (.int .i64 n)).run Tryd.prog w = .ok (.slice (some ⟨w.heap.size, 0, none⟩) n n) (w.alloc (.cells (madeCells #[.int .u8 0] n) 5)) := by
  obtain ⟨i, hi, hz, hs, hb⟩ := info_of info_u8
  have h := run_make (P := Tryd.prog) w 27 5 i _ Tryd.underlying27 hi hz .i64 .i64 n n (by omega) (by omega) (by rw [hb]; omega) (by omega)
  rw [hs, Int.toNat_natCast, Nat.mul_one] at h
  exact h
theorem make_bools (n : Nat) (h : n ≤ 16384) (w : World) : (Instr.makeSlice 28 (.int .i64 n) (.int .i64 n)).run Tryd.prog w = .ok (.slice (some ⟨w.heap.size, 0, none⟩) n n) (w.alloc (.cells (madeCells #[.bool false] n) 4)) := by
  obtain ⟨i, hi, hz, hs, hb⟩ := info_of info_bool
  have h := run_make (P := Tryd.prog) w 28 4 i _ Tryd.underlying28 hi hz .i64 .i64 n n (by omega) (by omega) (by rw [hb]; omega) (by omega)
  rw [hs, Int.toNat_natCast, Nat.mul_one] at h
  exact h
theorem madeCells_get (v : Value) {n j : Nat} (hj : j < n) : (madeCells #[v] n)[j]? = some v := by
  unfold madeCells
  simp [hj, Nat.mod_one]
set_option maxRecDepth 100000 in
set_option maxHeartbeats 1600000 in
theorem ref6_New_ok (n : Nat) (w : World) (n1 : 1 ≤ n) (n2 : n ≤ 16384) :
    Calls Tryd.prog 50 #[.int .i64 n] w fun e w' => ∃ v, e = .returned (.tuple #[v, .int .i64 0]) ∧ RefAt w' w.heap.size v (Mm.new n) ∧ Below w.heap.size w w' := by
  have hm1 := fun W => make_bytes (4096 * n) (by omega) W
  have hm2 := fun W => make_bools n n2 W
  have hn1 : (1 : Int) ≤ n := by omega
  have hn2 : (n : Int) ≤ 16384 := by omega
  rw [show ((4096 * n : Nat) : Int) = 4096 * (n : Int) by omega] at hm1
  go_enter Tryd.func50, Tryd.ntmps50
  go_wp2_with fail
  go_region
  · obtain ⟨k0, k1, k2, ks, hb⟩ := three_new w (.cells (refC (w.heap.size + 1) (4096 * n) (4096 * n) (w.heap.size + 1 + 1) n n 0) 30) (.cells (madeCells #[.int .u8 0] (4096 * n)) 5) (.cells (madeCells #[.bool false] n) 4)
    unfold refC at k0 k1 k2 hb
    generalize ((((w.alloc _).alloc _).alloc _).drew) = w1 at k0 k1 k2 hb ⊢
    have K0 := Lib.hid k0
    have HF : Hid (RefAt w1 w.heap.size (.agg (refC (w.heap.size + 1) (4096 * n) (4096 * n) (w.heap.size + 1 + 1) n n 0)) (Mm.new n) ∧ Below w.heap.size w w1) := Lib.hid ⟨⟨n1, n2, _, _, _, _, ⟨rfl, Nat.le_refl _⟩, by omega, by omega, ⟨_, k1, by rw [size_madeCells]; exact Nat.le_refl _, fun i hi => madeCells_get _ hi⟩, ⟨_, k2, by rw [size_madeCells]; exact Nat.le_refl _, fun i hi => madeCells_get _ hi⟩⟩, hb⟩
    clear k0 k1 k2 ks hb
    go_wp2_with fail
    exact bodyPost_ret (v := .tuple #[.agg (refC (w.heap.size + 1) (4096 * n) (4096 * n) (w.heap.size + 1 + 1) n n 0), .int .i64 0]) (results_cell_tmp Tryd.results50 _ _ (w.heap.size) 30 (refC (w.heap.size + 1) (4096 * n) (4096 * n) (w.heap.size + 1 + 1) n n 0) (0, 0) _ rfl K0.out Tryd.underlying30 rfl (by kernel_rfl)) rfl ⟨_, rfl, HF.out.1, HF.out.2⟩
  · obtain ⟨k0, k1, k2, ks, hb⟩ := three_new w (.cells (refC (w.heap.size + 1 + 1) (4096 * n) (4096 * n) (w.heap.size + 1) n n 0) 30) (.cells (madeCells #[.bool false] n) 4) (.cells (madeCells #[.int .u8 0] (4096 * n)) 5)
    unfold refC at k0 k1 k2 hb
    generalize ((((w.alloc _).alloc _).alloc _).drew) = w1 at k0 k1 k2 hb ⊢
    have K0 := Lib.hid k0
    have HF : Hid (RefAt w1 w.heap.size (.agg (refC (w.heap.size + 1 + 1) (4096 * n) (4096 * n) (w.heap.size + 1) n n 0)) (Mm.new n) ∧ Below w.heap.size w w1) := Lib.hid ⟨⟨n1, n2, _, _, _, _, ⟨rfl, Nat.le_refl _⟩, by omega, by omega, ⟨_, k2, by rw [size_madeCells]; exact Nat.le_refl _, fun i hi => madeCells_get _ hi⟩, ⟨_, k1, by rw [size_madeCells]; exact Nat.le_refl _, fun i hi => madeCells_get _ hi⟩⟩, hb⟩
    clear k0 k1 k2 ks hb
    go_wp2_with fail
    exact bodyPost_ret (v := .tuple #[.agg (refC (w.heap.size + 1 + 1) (4096 * n) (4096 * n) (w.heap.size + 1) n n 0), .int .i64 0]) (results_cell_tmp Tryd.results50 _ _ (w.heap.size) 30 (refC (w.heap.size + 1 + 1) (4096 * n) (4096 * n) (w.heap.size + 1) n n 0) (0, 0) _ rfl K0.out Tryd.underlying30 rfl (by kernel_rfl)) rfl ⟨_, rfl, HF.out.1, HF.out.2⟩
end Go.Proofs.YtcakcfeipfjmpaaDoor

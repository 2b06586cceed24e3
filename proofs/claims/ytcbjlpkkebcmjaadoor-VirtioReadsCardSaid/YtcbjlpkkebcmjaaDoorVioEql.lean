/-
Two states of virtio that are the same are equal by ==.
No condition.
-/
import Derived.Test.YtcbjlpkkebcmjaaDoorVioUsed
namespace Go.Proofs.YtcbjlpkkebcmjaaDoor
open Go.RowKit
theorem vio_info_q : (Tryd.prog.info? 60).isSome = true := by kernel_rfl
theorem vio_cells_q : Tryd.prog.cellsOf 60 = 7 := by kernel_rfl
def VQ.vs (a b : VQ) : Array Value := #[.bool a.rdy, .int .i64 a.size, .int .u32 a.de, .int .u32 a.av, .int .u32 a.us, .int .u16 a.la, .int .u16 a.pu, .bool b.rdy, .int .i64 b.size, .int .u32 b.de, .int .u32 b.av, .int .u32 b.us, .int .u16 b.la, .int .u16 b.pu]
set_option maxRecDepth 100000 in
theorem arr_q_refl (a b : VQ) (w : World) : (Op.equalIn 9999 61 (.agg (VQ.vs a b)) (.agg (VQ.vs a b))).run Tryd.prog w = .ok true w := by
  obtain ⟨i, hi⟩ := Option.isSome_iff_exists.1 vio_info_q
  rw [run_equalIn_array (P := Tryd.prog) w 9998 _ _ Tryd.underlying61 hi, vio_cells_q]
  have r2 : List.range 2 = [0, 1] := rfl
  rw [r2]
  have h1 := Tryd.underlying60
  have h2 := Tryd.underlying58
  have h3 := Tryd.underlying25
  have h4 := Tryd.underlying50
  have h5 := Tryd.underlying4
  have h6 := Tryd.underlying3
  unfold VQ.vs
  simp [Op.eqItems, part, go_sem, h1, h2, h3, h4, h5, h6]
set_option maxRecDepth 100000 in
set_option maxHeartbeats 1000000 in
theorem vs_equalIn (s : VS) (w : World) : (Op.equalIn (9999 + 1) 63 (.agg s.c) (.agg s.c)).run Tryd.prog w = .ok true w := by
  have h1 : (Op.equalIn 9999 49 (.agg #[.int .u32 s.d0, .int .u32 s.d1]) (.agg #[.int .u32 s.d0, .int .u32 s.d1])).run Tryd.prog w = .ok true w := (arr2_eq 9997 s.d0 s.d1 s.d0 s.d1 w).trans (by simp)
  have h2 := arr_q_refl s.a s.b w
  unfold VQ.vs at h2
  have h3 : ∀ x : Nat, (Op.equalIn 9999 25 (.int .u32 x) (.int .u32 x)).run Tryd.prog w = .ok true w := fun x => by
    show (Op.equalIn (9998 + 1) 25 (.int .u32 x) (.int .u32 x)).run Tryd.prog w = .ok true w
    generalize 9998 = d
    simp [Op.equalIn, go_sem]
  unfold VS.c
  generalize 9999 = d at h1 h2 h3 ⊢
  simp [Op.equalIn, part, go_sem, h1, h2, h3]
set_option maxRecDepth 100000 in
set_option maxHeartbeats 1000000 in
theorem vs_eql (s : VS) (w : World) : (binOp BinOp.eql 63 (.agg s.c) (.agg s.c)).run Tryd.prog w = .ok (.bool true) w := by
  have h2 : (Op.equalIn Op.maxDepth 63 (.agg s.c) (.agg s.c)).run Tryd.prog w = .ok true w := vs_equalIn s w
  simp [binOp, Op.equal, go_sem, h2]
end Go.Proofs.YtcbjlpkkebcmjaaDoor

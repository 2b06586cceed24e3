/-
Two states of package dma compared.
No condition.
-/
import Derived.Test.YtcakcfeipfjmpaaDoorDma
namespace Go.Proofs.YtcakcfeipfjmpaaDoor
open Go.RowKit
theorem ite_step {p : Prop} [Decidable p] {α : Type} {a b c : α} (h1 : p → a = c) (h2 : ¬ p → b = c) : (if p then a else b) = c := by
  by_cases h : p
  · rw [if_pos h]; exact h1 h
  · rw [if_neg h]; exact h2 h
set_option maxRecDepth 100000 in
set_option maxHeartbeats 4000000 in
theorem dst_eqIn (s t : Dst) (d : Nat) (w : World) : (Op.equalIn (d + 2) 33 (.agg s.c) (.agg t.c)).run Tryd.prog w = .ok (decide (s = t)) w := by
  obtain ⟨a0, a1, a2, a3, a4, a5, a6, a7, a8, a9, a10⟩ := s
  obtain ⟨b0, b1, b2, b3, b4, b5, b6, b7, b8, b9, b10⟩ := t
  simp only [Dst.mk.injEq]
  simp [Dst.c, Op.equalIn, go_sem]
  simp only [Int.natCast_inj]
  repeat (refine ite_step (fun h => ?_) (fun h => by simp [h]); simp only [h])
  simp
theorem dst_equal (s t : Dst) (w : World) : (Op.equal 33 (.agg s.c) (.agg t.c)).run Tryd.prog w = .ok (decide (s = t)) w := by
  have h := dst_eqIn s t 9998 w
  have h2 : (Op.equalIn Op.maxDepth 33 (.agg s.c) (.agg t.c)).run Tryd.prog w = .ok (decide (s = t)) w := h
  unfold Op.equal
  simp [h2]
theorem dst_neq (s t : Dst) (w : World) : (binOp BinOp.neq 33 (.agg s.c) (.agg t.c)).run Tryd.prog w = .ok (.bool (!decide (s = t))) w := by
  simp only [binOp]
  simp [dst_equal s t w]
theorem dst_eql (s t : Dst) (w : World) : (binOp BinOp.eql 33 (.agg s.c) (.agg t.c)).run Tryd.prog w = .ok (.bool (decide (s = t))) w := by
  simp only [binOp]
  simp [dst_equal s t w]
end Go.Proofs.YtcakcfeipfjmpaaDoor

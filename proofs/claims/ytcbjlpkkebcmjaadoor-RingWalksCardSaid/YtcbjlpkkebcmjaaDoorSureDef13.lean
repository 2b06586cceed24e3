/-
What sure of package pinnacelaw13 asks of: its memory, its parts; parts compared; the ring that is laid.
Condition: the table of regions of package bus reads as its text lays it.
-/
import Derived.Test.YtcbjlpkkebcmjaaDoorG6
import Derived.Test.YtcbjlpkkebcmjaaDoorRingWalkOk
import Derived.Test.YtcbjlpkkebcmjaaDoorBoth13
import Derived.Test.YtcbjlpkkebcmjaaDoorG2
namespace Go.Proofs.YtcbjlpkkebcmjaaDoor
open Go.RowKit
set_option linter.unusedVariables false

theorem seg_ite_step {p : Prop} [Decidable p] {α : Type} {a b c : α} (h1 : p → a = c) (h2 : ¬ p → b = c) : (if p then a else b) = c := by
  by_cases h : p
  · rw [if_pos h]; exact h1 h
  · rw [if_neg h]; exact h2 h
set_option maxRecDepth 100000 in
theorem seg_eqIn (s t : Sg) (d : Nat) (w : World) : (Op.equalIn (d + 2) 121 (.agg s.c) (.agg t.c)).run Tryd.prog w = .ok (decide (s = t)) w := by
  obtain ⟨a0, a1, a2⟩ := s
  obtain ⟨b0, b1, b2⟩ := t
  simp only [Sg.mk.injEq]
  simp [Sg.c, Op.equalIn, go_sem]
  simp only [Int.natCast_inj]
  repeat (refine seg_ite_step (fun h => ?_) (fun h => by simp [h]); simp only [h])
  simp
theorem seg_equal (s t : Sg) (w : World) : (Op.equal 121 (.agg s.c) (.agg t.c)).run Tryd.prog w = .ok (decide (s = t)) w := by
  have h := seg_eqIn s t 9998 w
  have h2 : (Op.equalIn Op.maxDepth 121 (.agg s.c) (.agg t.c)).run Tryd.prog w = .ok (decide (s = t)) w := h
  unfold Op.equal
  simp [h2]
theorem seg_eql (s t : Sg) (w : World) : (binOp BinOp.eql 121 (.agg s.c) (.agg t.c)).run Tryd.prog w = .ok (.bool (decide (s = t))) w := by
  simp only [binOp]
  simp [seg_equal s t w]
theorem seg_neq (s t : Sg) (w : World) : (binOp BinOp.neq 121 (.agg s.c) (.agg t.c)).run Tryd.prog w = .ok (.bool (!decide (s = t))) w := by
  simp only [binOp]
  simp [seg_equal s t w]
set_option maxRecDepth 100000 in
theorem laid13 (w : World) : Calls Tryd.prog 96 #[] w fun e w' => e = .returned (.agg (lrow 0 0)) ∧ Below w.heap.size w w' := by
  have K0 := Lib.hid (heap_alloc_new w (.cells #[.int .i64 0, .int .u32 0, .int .u32 0, .int .u32 0, .int .u16 0, .int .u16 0] 58))
  have HB := Lib.hid ((Below.refl w.heap.size w).alloc (Nat.le_refl _) (.cells #[.int .i64 0, .int .u32 0, .int .u32 0, .int .u32 0, .int .u16 0, .int .u16 0] 58))
  have HO := Lib.hid (lrow_one 0 0)
  unfold lrow at *
  go_enter Tryd.func96, Tryd.ntmps96
  go_wp2_with (refine wpList_store_to rfl 58 _ _ rfl w.heap.size #[.int .i64 4, .int .u32 2147483648, .int .u32 2147483904, .int .u32 2147484160, .int .u16 0, .int .u16 0] rfl rfl 58 #[.int .i64 0, .int .u32 0, .int .u32 0, .int .u32 0, .int .u16 0, .int .u16 0] K0.out (by kernel_rfl) rfl HO.out ?_)
  intro w2 hx hk
  go_wp2_with fail
  exact bodyPost_ret (v := .agg #[.int .i64 4, .int .u32 2147483648, .int .u32 2147483904, .int .u32 2147484160, .int .u16 0, .int .u16 0]) (results_cell_row Tryd.results96 _ _ w.heap.size 58 _ (0, 0) _ rfl hk Tryd.underlying58 rfl (by kernel_rfl)) rfl ⟨rfl, HB.out.trans (hx.out.below (fun k hk e => by omega) (by simp))⟩
def sureL13 : List (Nat × Nat) := [(0, 2147484416), (8, 5), (256, 65536), (768, 1684234849)]
def sureM13 : Mm := layL (sureL13.take 80)
theorem sureM13_n : sureM13.n = 2 := layL_n _
theorem sureM13_c : gp sureM13.f 258 2 = 1 := by decide +kernel
theorem sureM13_h : gp sureM13.f (260 + 2 * (0 % 4)) 2 = 0 := by decide +kernel
theorem sureM13_w : rwalk 2147483648 4 sureM13 ((0 : Nat) : Int) = some [⟨2147484416, 5, false⟩] := by decide +kernel
theorem sureM13_g : gath sureM13 [⟨2147484416, 5, false⟩] = [97, 98, 99, 100, 0] := by decide +kernel
theorem sureM13_ok : PartsOk sureM13 [⟨2147484416, 5, false⟩] := by
  intro s hs
  obtain rfl := List.mem_singleton.1 hs
  exact ⟨by decide, .inr ⟨by decide, by rw [sureM13_n]; decide⟩⟩
theorem walk_laid {g : Nat} {m : Mm} {F : Nat → Prop} {w : World} (la pu : Nat) (head : Int) (h : RamIs w g m F) (hr : RegAt w) (hrf : ¬ F 0) :
    Calls Tryd.prog 42 #[.agg (lrow la pu), .pointer (some ⟨g, 0, none⟩), .int .i64 head] w (WalkPost w g m F (rwalk 2147483648 4 m head)) :=
  ring_Walk_ok 4 2147483648 2147483904 2147484160 la pu head h hr hrf (by omega) (by omega) (by omega) (by omega) (Lib.hid (laid_bad la pu g))
end Go.Proofs.YtcbjlpkkebcmjaaDoor

/-
nic.Check, walked.
No condition.
-/
import Derived.Test.YtcbjlpkkebcmjaaDoorNic
namespace Go.Proofs.YtcbjlpkkebcmjaaDoor
open Go.RowKit
set_option linter.unusedVariables false

set_option maxRecDepth 100000 in
set_option maxHeartbeats 2000000 in
theorem nic_check_row (c : Array Value) (l : List Value) (ev : Value) (w : World) (hll : l.length = 21) (hl : ∀ (j : Nat) v, l[j]? = some v → c[0 + j]? = some v)
    (HL : Hid (∀ W, Calls Tryd.prog 26 #[.agg l.toArray] W fun e w' => e = .returned ev ∧ Below W.heap.size W w')) :
    Calls Tryd.prog 54 #[.agg c] w fun e w' => e = .returned ev ∧ Below w.heap.size w w' := by
  have hr0 := Lib.hid (show (w.alloc (.cells c 87)).heap[w.heap.size]? = some (.cells c 87 (0, 0)) from heap_alloc_new _ _)
  have HB0 := Lib.hid (show Below w.heap.size w (w.alloc (.cells c 87)) from (Below.refl _ _).alloc (Nat.le_refl _) _)
  have HRG := Lib.hid (range_of_row hr0.out 0 l hl)
  have HI := Lib.hid (show (Tryd.prog.info? 63).map (·.size) = some l.length by rw [hll]; kernel_rfl)
  clear hl hll
  go_enter Tryd.func54, Tryd.ntmps54
  go_wp2_with (first | go_skip | (refine load_midW rfl 63 _ rfl w.heap.size 0 rfl l _ HRG.out Tryd.underlying63 rfl HI.out ?_))
  refine (HL.out _).mono ?_
  rintro e w1 ⟨rfl, hb⟩
  have HB1 := Lib.hid (HB0.out.trans (hb.mono HB0.out.size))
  clear hb hr0 HB0 HRG
  go_wp2_with fail
  go_ret
  exact ⟨rfl, HB1.out⟩
theorem nic_Check (s : NS) (hs : s.p.st < 4294967296) (w : World) :
    Calls Tryd.prog 54 #[.agg s.c] w fun e w' => e = .returned (errV (if s.p.ok then 0 else 1)) ∧ Below w.heap.size w w' :=
  nic_check_row s.c s.p.c.toList _ w rfl (fun j v hj => by
    have hlt : j < 21 := (List.getElem?_eq_some_iff.1 hj).1
    rw [Nat.zero_add, ← hj]
    match j, hlt with
    | 0, _ => rfl
    | 1, _ => rfl
    | 2, _ => rfl
    | 3, _ => rfl
    | 4, _ => rfl
    | 5, _ => rfl
    | 6, _ => rfl
    | 7, _ => rfl
    | 8, _ => rfl
    | 9, _ => rfl
    | 10, _ => rfl
    | 11, _ => rfl
    | 12, _ => rfl
    | 13, _ => rfl
    | 14, _ => rfl
    | 15, _ => rfl
    | 16, _ => rfl
    | 17, _ => rfl
    | 18, _ => rfl
    | 19, _ => rfl
    | 20, _ => rfl
    | j + 21, h => omega) (Lib.hid (fun W => by rw [Array.toArray_toList]; exact vs_Check s.p hs W))
end Go.Proofs.YtcbjlpkkebcmjaaDoor

/-
fetch of package dma, walked where it fails.
No condition.
-/
import Derived.Test.YtcakcfeipfjmpaaDoorDmaFetch
namespace Go.Proofs.YtcakcfeipfjmpaaDoor
open Go.RowKit

set_option maxRecDepth 100000 in
set_option maxHeartbeats 4000000 in
theorem dma_fetch_s64 (head at_ steps moved : Nat) (have_ : Bool) (from_ to_ left next code : Nat) (asks is : Bool) {g : Nat} {m : Mm} {F : Nat → Prop} {w : World} (HF0 : Hid (∀ k, F k → k < w.heap.size)) (_ha : at_ < 4294967296) (hq : steps = 64)
    (HRD : Hid (∀ W, Below w.heap.size w W → Calls Tryd.prog 87 #[.pointer (some ⟨g, 0, none⟩), .int .u32 (at_ : Nat), .int .u32 16] W fun e w' => ∃ v F1, e = .returned (.tuple #[v, .bool is]) ∧ RamIs w' g m F1 ∧ MemStep F F1 W w')) :
    Calls Tryd.prog 53 #[.agg #[.int .u32 code, .int .u32 head, .int .u32 at_, .int .u32 steps, .int .u32 moved, .bool have_, .int .u32 from_, .int .u32 to_, .int .u32 left, .int .u32 next, .bool asks], .pointer (some ⟨g, 0, none⟩)] w fun e w' => e = .returned (.agg #[.int .u32 3, .int .u32 head, .int .u32 at_, .int .u32 steps, .int .u32 moved, .bool false, .int .u32 0, .int .u32 0, .int .u32 0, .int .u32 0, .bool true]) ∧ ∃ F', RamIs w' g m F' ∧ MemStep F F' w w' := by
  subst hq
  rw [show ((64 : Nat) : Int) = 64 from rfl]
  obtain ⟨k0, k1, hb0⟩ := two_new w (.cells #[.int .u32 code, .int .u32 head, .int .u32 at_, .int .u32 64, .int .u32 moved, .bool have_, .int .u32 from_, .int .u32 to_, .int .u32 left, .int .u32 next, .bool asks] 33) (.cells #[.int .u32 0, .int .u32 0, .int .u32 0, .int .u32 0, .int .u32 0, .bool false, .int .u32 0, .int .u32 0, .int .u32 0, .int .u32 0, .bool false] 33)
  have K0 := Lib.hid k0
  have K1 := Lib.hid k1
  have HB0 := Lib.hid hb0
  clear k0 k1 hb0
  go_enter Tryd.func53, Tryd.ntmps53
  go_wp2_with fail
  refine (HRD.out _ HB0.out).mono ?_
  rintro e w1 ⟨v, F1, rfl, h1, h2⟩
  have HNA : Hid (¬ F1 w.heap.size) := Lib.hid (fun hf => (h2.gr _ hf).elim (fun hf => absurd (HF0.out _ hf) (Nat.lt_irrefl _)) (fun hl => by simp at hl; omega))
  have HNB : Hid (¬ F1 (w.heap.size + 1)) := Lib.hid (fun hf => (h2.gr _ hf).elim (fun hf => absurd (HF0.out _ hf) (by omega)) (fun hl => by simp at hl; omega))
  have KA := Lib.hid (h2.heap K0.out (fun hf => by have := HF0.out _ hf; omega))
  clear K0
  have KB := Lib.hid (h2.heap K1.out (fun hf => by have := HF0.out _ hf; omega))
  clear K1
  have HB := Lib.hid (And.intro h1 ((MemStep.of_below HB0.out).trans h2))
  clear HB0 h1 h2
  have HE := Lib.hid (fun W => dma_ended ⟨code, head, at_, 64, moved, have_, from_, to_, left, next, asks⟩ 3 W)
  simp only [Dst.c, Dst.without, Dst.ended] at HE
  rw [show ((64 : Nat) : Int) = 64 from rfl] at HE
  have c1 := (cell_of_row _ _ 2 _ _ _ KA.out).trans (rfl : _ = some (.int .u32 at_ : Value))
  have c2 := (cell_of_row _ _ 3 _ _ _ KA.out).trans (rfl : _ = some (.int .u32 64 : Value))
  have f3 := fun j => frozen_of_row _ _ j _ _ KA.out
  go_wp2_with (first | go_skip | (refine wpList_load_row rfl 33 _ rfl (w.heap.size) rfl 33 #[.int .u32 code, .int .u32 head, .int .u32 at_, .int .u32 64, .int .u32 moved, .bool have_, .int .u32 from_, .int .u32 to_, .int .u32 left, .int .u32 next, .bool asks] (0, 0) _ KA.out Tryd.underlying33 rfl (by kernel_rfl) ?_))
  refine (HE.out _).mono ?_
  rintro e w9 ⟨rfl, hb⟩
  clear c1 c2 f3
  have K4 := Lib.hid (keepB KA.out hb)
  clear KA
  have K5 := Lib.hid (keepB KB.out hb)
  clear KB
  have HB6 := Lib.hid (And.intro (HB.out.1.below hb) (HB.out.2.below hb))
  clear HB
  clear hb
  have HO7 := Lib.hid (show (#[.int .u32 3, .int .u32 head, .int .u32 at_, .int .u32 64, .int .u32 moved, .bool false, .int .u32 0, .int .u32 0, .int .u32 0, .int .u32 0, .bool true] : Array Value).all (·.oneCell') = true by simp [Value.oneCell'])
  go_wp2_with (refine wpList_store_to rfl 33 _ _ rfl (w.heap.size + 1) #[.int .u32 3, .int .u32 head, .int .u32 at_, .int .u32 64, .int .u32 moved, .bool false, .int .u32 0, .int .u32 0, .int .u32 0, .int .u32 0, .bool true] rfl rfl 33 #[.int .u32 0, .int .u32 0, .int .u32 0, .int .u32 0, .int .u32 0, .bool false, .int .u32 0, .int .u32 0, .int .u32 0, .int .u32 0, .bool false] K5.out (by kernel_rfl) rfl HO7.out ?_)
  intro w8 hx9 hkk
  have K10 := Lib.hid (hx9.out.heap K4.out (by omega))
  clear K4
  have K11 := Lib.hid hkk
  clear hkk K5
  have HB12 := Lib.hid (And.intro (HB6.out.1.kx hx9.out (fun k _ hf e => by subst e; exact HNB.out hf)) (HB6.out.2.own hx9.out (by omega)))
  clear HB6 hx9
  go_wp2_with fail
  exact bodyPost_ret (v := .agg #[.int .u32 3, .int .u32 head, .int .u32 at_, .int .u32 64, .int .u32 moved, .bool false, .int .u32 0, .int .u32 0, .int .u32 0, .int .u32 0, .bool true]) (results_cell_row Tryd.results53 _ _ (w.heap.size + 1) 33 #[.int .u32 3, .int .u32 head, .int .u32 at_, .int .u32 64, .int .u32 moved, .bool false, .int .u32 0, .int .u32 0, .int .u32 0, .int .u32 0, .bool true] (0, 0) _ rfl K11.out Tryd.underlying33 rfl (by kernel_rfl)) rfl ⟨rfl, F1, HB12.out.1, HB12.out.2⟩

set_option maxRecDepth 100000 in
set_option maxHeartbeats 4000000 in
theorem dma_fetch_odd (head at_ steps moved : Nat) (have_ : Bool) (from_ to_ left next code : Nat) (asks is : Bool) {g : Nat} {m : Mm} {F : Nat → Prop} {w : World} (HF0 : Hid (∀ k, F k → k < w.heap.size)) (ha : at_ < 4294967296) (hq : steps ≠ 64) (hm : at_ % 4 ≠ 0)
    (HRD : Hid (∀ W, Below w.heap.size w W → Calls Tryd.prog 87 #[.pointer (some ⟨g, 0, none⟩), .int .u32 (at_ : Nat), .int .u32 16] W fun e w' => ∃ v F1, e = .returned (.tuple #[v, .bool is]) ∧ RamIs w' g m F1 ∧ MemStep F F1 W w')) :
    Calls Tryd.prog 53 #[.agg #[.int .u32 code, .int .u32 head, .int .u32 at_, .int .u32 steps, .int .u32 moved, .bool have_, .int .u32 from_, .int .u32 to_, .int .u32 left, .int .u32 next, .bool asks], .pointer (some ⟨g, 0, none⟩)] w fun e w' => e = .returned (.agg #[.int .u32 3, .int .u32 head, .int .u32 at_, .int .u32 steps, .int .u32 moved, .bool false, .int .u32 0, .int .u32 0, .int .u32 0, .int .u32 0, .bool true]) ∧ ∃ F', RamIs w' g m F' ∧ MemStep F F' w w' := by
  have b1 : ((steps : Int) == 64) = false := by simp; omega
  have b2 : ((at_ : Int) % 4 != 0) = true := by simp; omega
  clear hq hm
  obtain ⟨k0, k1, hb0⟩ := two_new w (.cells #[.int .u32 code, .int .u32 head, .int .u32 at_, .int .u32 steps, .int .u32 moved, .bool have_, .int .u32 from_, .int .u32 to_, .int .u32 left, .int .u32 next, .bool asks] 33) (.cells #[.int .u32 0, .int .u32 0, .int .u32 0, .int .u32 0, .int .u32 0, .bool false, .int .u32 0, .int .u32 0, .int .u32 0, .int .u32 0, .bool false] 33)
  have K0 := Lib.hid k0
  have K1 := Lib.hid k1
  have HB0 := Lib.hid hb0
  clear k0 k1 hb0
  go_enter Tryd.func53, Tryd.ntmps53
  go_wp2_with fail
  refine (HRD.out _ HB0.out).mono ?_
  rintro e w1 ⟨v, F1, rfl, h1, h2⟩
  have HNA : Hid (¬ F1 w.heap.size) := Lib.hid (fun hf => (h2.gr _ hf).elim (fun hf => absurd (HF0.out _ hf) (Nat.lt_irrefl _)) (fun hl => by simp at hl; omega))
  have HNB : Hid (¬ F1 (w.heap.size + 1)) := Lib.hid (fun hf => (h2.gr _ hf).elim (fun hf => absurd (HF0.out _ hf) (by omega)) (fun hl => by simp at hl; omega))
  have KA := Lib.hid (h2.heap K0.out (fun hf => by have := HF0.out _ hf; omega))
  clear K0
  have KB := Lib.hid (h2.heap K1.out (fun hf => by have := HF0.out _ hf; omega))
  clear K1
  have HB := Lib.hid (And.intro h1 ((MemStep.of_below HB0.out).trans h2))
  clear HB0 h1 h2
  have HE := Lib.hid (fun W => dma_ended ⟨code, head, at_, steps, moved, have_, from_, to_, left, next, asks⟩ 3 W)
  simp only [Dst.c, Dst.without, Dst.ended] at HE
  have c1 := (cell_of_row _ _ 2 _ _ _ KA.out).trans (rfl : _ = some (.int .u32 at_ : Value))
  have c2 := (cell_of_row _ _ 3 _ _ _ KA.out).trans (rfl : _ = some (.int .u32 steps : Value))
  have f3 := fun j => frozen_of_row _ _ j _ _ KA.out
  go_wp2_with (first | go_skip | (refine wpList_load_row rfl 33 _ rfl (w.heap.size) rfl 33 #[.int .u32 code, .int .u32 head, .int .u32 at_, .int .u32 steps, .int .u32 moved, .bool have_, .int .u32 from_, .int .u32 to_, .int .u32 left, .int .u32 next, .bool asks] (0, 0) _ KA.out Tryd.underlying33 rfl (by kernel_rfl) ?_))
  refine (HE.out _).mono ?_
  rintro e w9 ⟨rfl, hb⟩
  clear c1 c2 f3
  have K4 := Lib.hid (keepB KA.out hb)
  clear KA
  have K5 := Lib.hid (keepB KB.out hb)
  clear KB
  have HB6 := Lib.hid (And.intro (HB.out.1.below hb) (HB.out.2.below hb))
  clear HB
  clear hb
  have HO7 := Lib.hid (show (#[.int .u32 3, .int .u32 head, .int .u32 at_, .int .u32 steps, .int .u32 moved, .bool false, .int .u32 0, .int .u32 0, .int .u32 0, .int .u32 0, .bool true] : Array Value).all (·.oneCell') = true by simp [Value.oneCell'])
  go_wp2_with (refine wpList_store_to rfl 33 _ _ rfl (w.heap.size + 1) #[.int .u32 3, .int .u32 head, .int .u32 at_, .int .u32 steps, .int .u32 moved, .bool false, .int .u32 0, .int .u32 0, .int .u32 0, .int .u32 0, .bool true] rfl rfl 33 #[.int .u32 0, .int .u32 0, .int .u32 0, .int .u32 0, .int .u32 0, .bool false, .int .u32 0, .int .u32 0, .int .u32 0, .int .u32 0, .bool false] K5.out (by kernel_rfl) rfl HO7.out ?_)
  intro w8 hx9 hkk
  have K10 := Lib.hid (hx9.out.heap K4.out (by omega))
  clear K4
  have K11 := Lib.hid hkk
  clear hkk K5
  have HB12 := Lib.hid (And.intro (HB6.out.1.kx hx9.out (fun k _ hf e => by subst e; exact HNB.out hf)) (HB6.out.2.own hx9.out (by omega)))
  clear HB6 hx9
  go_wp2_with fail
  exact bodyPost_ret (v := .agg #[.int .u32 3, .int .u32 head, .int .u32 at_, .int .u32 steps, .int .u32 moved, .bool false, .int .u32 0, .int .u32 0, .int .u32 0, .int .u32 0, .bool true]) (results_cell_row Tryd.results53 _ _ (w.heap.size + 1) 33 #[.int .u32 3, .int .u32 head, .int .u32 at_, .int .u32 steps, .int .u32 moved, .bool false, .int .u32 0, .int .u32 0, .int .u32 0, .int .u32 0, .bool true] (0, 0) _ rfl K11.out Tryd.underlying33 rfl (by kernel_rfl)) rfl ⟨rfl, F1, HB12.out.1, HB12.out.2⟩

set_option maxRecDepth 100000 in
set_option maxHeartbeats 4000000 in
theorem dma_fetch_no (head at_ steps moved : Nat) (have_ : Bool) (from_ to_ left next code : Nat) (asks : Bool) {g : Nat} {m : Mm} {F : Nat → Prop} {w : World} (HF0 : Hid (∀ k, F k → k < w.heap.size)) (ha : at_ < 4294967296) (hq : steps ≠ 64) (hm : at_ % 4 = 0)
    (HRD : Hid (∀ W, Below w.heap.size w W → Calls Tryd.prog 87 #[.pointer (some ⟨g, 0, none⟩), .int .u32 (at_ : Nat), .int .u32 16] W fun e w' => ∃ v F1, e = .returned (.tuple #[v, .bool false]) ∧ RamIs w' g m F1 ∧ MemStep F F1 W w')) :
    Calls Tryd.prog 53 #[.agg #[.int .u32 code, .int .u32 head, .int .u32 at_, .int .u32 steps, .int .u32 moved, .bool have_, .int .u32 from_, .int .u32 to_, .int .u32 left, .int .u32 next, .bool asks], .pointer (some ⟨g, 0, none⟩)] w fun e w' => e = .returned (.agg #[.int .u32 3, .int .u32 head, .int .u32 at_, .int .u32 steps, .int .u32 moved, .bool false, .int .u32 0, .int .u32 0, .int .u32 0, .int .u32 0, .bool true]) ∧ ∃ F', RamIs w' g m F' ∧ MemStep F F' w w' := by
  have b1 : ((steps : Int) == 64) = false := by simp; omega
  have b2 : ((at_ : Int) % 4 != 0) = false := by simp; omega
  clear hq hm
  obtain ⟨k0, k1, hb0⟩ := two_new w (.cells #[.int .u32 code, .int .u32 head, .int .u32 at_, .int .u32 steps, .int .u32 moved, .bool have_, .int .u32 from_, .int .u32 to_, .int .u32 left, .int .u32 next, .bool asks] 33) (.cells #[.int .u32 0, .int .u32 0, .int .u32 0, .int .u32 0, .int .u32 0, .bool false, .int .u32 0, .int .u32 0, .int .u32 0, .int .u32 0, .bool false] 33)
  have K0 := Lib.hid k0
  have K1 := Lib.hid k1
  have HB0 := Lib.hid hb0
  clear k0 k1 hb0
  go_enter Tryd.func53, Tryd.ntmps53
  go_wp2_with fail
  refine (HRD.out _ HB0.out).mono ?_
  rintro e w1 ⟨v, F1, rfl, h1, h2⟩
  have HNA : Hid (¬ F1 w.heap.size) := Lib.hid (fun hf => (h2.gr _ hf).elim (fun hf => absurd (HF0.out _ hf) (Nat.lt_irrefl _)) (fun hl => by simp at hl; omega))
  have HNB : Hid (¬ F1 (w.heap.size + 1)) := Lib.hid (fun hf => (h2.gr _ hf).elim (fun hf => absurd (HF0.out _ hf) (by omega)) (fun hl => by simp at hl; omega))
  have KA := Lib.hid (h2.heap K0.out (fun hf => by have := HF0.out _ hf; omega))
  clear K0
  have KB := Lib.hid (h2.heap K1.out (fun hf => by have := HF0.out _ hf; omega))
  clear K1
  have HB := Lib.hid (And.intro h1 ((MemStep.of_below HB0.out).trans h2))
  clear HB0 h1 h2
  have HE := Lib.hid (fun W => dma_ended ⟨code, head, at_, steps, moved, have_, from_, to_, left, next, asks⟩ 3 W)
  simp only [Dst.c, Dst.without, Dst.ended] at HE
  have c1 := (cell_of_row _ _ 2 _ _ _ KA.out).trans (rfl : _ = some (.int .u32 at_ : Value))
  have c2 := (cell_of_row _ _ 3 _ _ _ KA.out).trans (rfl : _ = some (.int .u32 steps : Value))
  have f3 := fun j => frozen_of_row _ _ j _ _ KA.out
  go_wp2_with (first | go_skip | (refine wpList_load_row rfl 33 _ rfl (w.heap.size) rfl 33 #[.int .u32 code, .int .u32 head, .int .u32 at_, .int .u32 steps, .int .u32 moved, .bool have_, .int .u32 from_, .int .u32 to_, .int .u32 left, .int .u32 next, .bool asks] (0, 0) _ KA.out Tryd.underlying33 rfl (by kernel_rfl) ?_))
  refine (HE.out _).mono ?_
  rintro e w9 ⟨rfl, hb⟩
  clear c1 c2 f3
  have K4 := Lib.hid (keepB KA.out hb)
  clear KA
  have K5 := Lib.hid (keepB KB.out hb)
  clear KB
  have HB6 := Lib.hid (And.intro (HB.out.1.below hb) (HB.out.2.below hb))
  clear HB
  clear hb
  have HO7 := Lib.hid (show (#[.int .u32 3, .int .u32 head, .int .u32 at_, .int .u32 steps, .int .u32 moved, .bool false, .int .u32 0, .int .u32 0, .int .u32 0, .int .u32 0, .bool true] : Array Value).all (·.oneCell') = true by simp [Value.oneCell'])
  go_wp2_with (refine wpList_store_to rfl 33 _ _ rfl (w.heap.size + 1) #[.int .u32 3, .int .u32 head, .int .u32 at_, .int .u32 steps, .int .u32 moved, .bool false, .int .u32 0, .int .u32 0, .int .u32 0, .int .u32 0, .bool true] rfl rfl 33 #[.int .u32 0, .int .u32 0, .int .u32 0, .int .u32 0, .int .u32 0, .bool false, .int .u32 0, .int .u32 0, .int .u32 0, .int .u32 0, .bool false] K5.out (by kernel_rfl) rfl HO7.out ?_)
  intro w8 hx9 hkk
  have K10 := Lib.hid (hx9.out.heap K4.out (by omega))
  clear K4
  have K11 := Lib.hid hkk
  clear hkk K5
  have HB12 := Lib.hid (And.intro (HB6.out.1.kx hx9.out (fun k _ hf e => by subst e; exact HNB.out hf)) (HB6.out.2.own hx9.out (by omega)))
  clear HB6 hx9
  go_wp2_with fail
  exact bodyPost_ret (v := .agg #[.int .u32 3, .int .u32 head, .int .u32 at_, .int .u32 steps, .int .u32 moved, .bool false, .int .u32 0, .int .u32 0, .int .u32 0, .int .u32 0, .bool true]) (results_cell_row Tryd.results53 _ _ (w.heap.size + 1) 33 #[.int .u32 3, .int .u32 head, .int .u32 at_, .int .u32 steps, .int .u32 moved, .bool false, .int .u32 0, .int .u32 0, .int .u32 0, .int .u32 0, .bool true] (0, 0) _ rfl K11.out Tryd.underlying33 rfl (by kernel_rfl)) rfl ⟨rfl, F1, HB12.out.1, HB12.out.2⟩
end Go.Proofs.YtcakcfeipfjmpaaDoor

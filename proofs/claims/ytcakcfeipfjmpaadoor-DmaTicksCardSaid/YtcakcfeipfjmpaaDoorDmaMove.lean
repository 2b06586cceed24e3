/-
move of package dma, walked.
Condition: the table of regions of package bus reads as its text lays it.
-/
import Derived.Test.YtcakcfeipfjmpaaDoorDmaFetch2
namespace Go.Proofs.YtcakcfeipfjmpaaDoor
open Go.RowKit
set_option linter.unusedVariables false

theorem BytesAt.of_owns {w : World} {base n : Nat} {v : Value} {l : List UInt8} {F : Nat → Prop} (h : w.ownsRow base 5 1 v n (l.map B8)) (hf : ∀ b, v.ownBlock = some b → ¬ F b) : ∃ ao c, v = .slice ao n c ∧ n ≤ c ∧ l.length = n ∧ BytesAt w ao l F := by
  have hl : l.length = n := by have := h.1; rw [List.length_map, Nat.mul_one] at this; exact this
  rcases h.2 with ⟨rfl, rfl⟩ | ⟨g, cap, cur, rfl, hg, hh, hc, _⟩
  · exact ⟨none, 0, rfl, Nat.le_refl _, hl, fun hne => absurd (List.eq_nil_of_length_eq_zero hl) hne⟩
  · refine ⟨some ⟨g, 0, none⟩, cap, rfl, hc, hl, fun _ => ⟨g, 0, rfl, lt_heap hh, hf g rfl, fun j x hj => ?_⟩⟩
    have hj' : j < n := by rw [← hl]; exact (List.getElem?_eq_some_iff.1 hj).1
    rw [Nat.zero_add, h.cellAt j (by omega), List.getElem?_map, hj]
    rfl


set_option maxRecDepth 100000 in
set_option maxHeartbeats 4000000 in
theorem dma_move_norange_b (head at_ steps moved : Nat) (have_ : Bool) (from_ to_ left next code : Nat) (asks : Bool) {g : Nat} {m : Mm} {F : Nat → Prop} {w : World} (HF0 : Hid (∀ k, F k → k < w.heap.size)) (hl : 64 < left) (hf : from_ < 4294967296) (ht : to_ < 4294967296) (hm : moved < 4294967296) (hll : left < 4294967296)
    (HRD : Hid (∀ W, Below w.heap.size w W → Calls Tryd.prog 87 #[.pointer (some ⟨g, 0, none⟩), .int .u32 (from_ : Nat), .int .u32 64] W fun e w' => ∃ v F1, e = .returned (.tuple #[v, .bool false]) ∧ RamIs w' g m F1 ∧ MemStep F F1 W w'))
    (hr : RegAt w) (hrf : ¬ F 1)
    (b : Bool) (HPL : Hid (∀ W, RegAt W → Calls Tryd.prog 88 #[.int .u32 (to_ : Nat)] W fun e w' => (∃ x : Nat, x < 4294967296 ∧ e = .returned (.tuple #[.int .u32 x, .bool b])) ∧ Below W.heap.size W w')) :
    Calls Tryd.prog 52 #[.agg #[.int .u32 code, .int .u32 head, .int .u32 at_, .int .u32 steps, .int .u32 moved, .bool have_, .int .u32 from_, .int .u32 to_, .int .u32 left, .int .u32 next, .bool asks], .pointer (some ⟨g, 0, none⟩)] w fun e w' => e = .returned (.agg #[.int .u32 3, .int .u32 head, .int .u32 at_, .int .u32 steps, .int .u32 moved, .bool false, .int .u32 0, .int .u32 0, .int .u32 0, .int .u32 0, .bool true]) ∧ ∃ F', RamIs w' g m F' ∧ MemStep F F' w w' := by
  have hli : (64 : Int) < (left : Int) := by omega
  obtain ⟨k0, k1, hb0⟩ := two_new w (.cells #[.int .u32 code, .int .u32 head, .int .u32 at_, .int .u32 steps, .int .u32 moved, .bool have_, .int .u32 from_, .int .u32 to_, .int .u32 left, .int .u32 next, .bool asks] 33) (.cells #[.int .u32 0, .int .u32 0, .int .u32 0, .int .u32 0, .int .u32 0, .bool false, .int .u32 0, .int .u32 0, .int .u32 0, .int .u32 0, .bool false] 33)
  have K0 := Lib.hid k0
  have K1 := Lib.hid k1
  have HB0 := Lib.hid hb0
  clear k0 k1 hb0
  have HRG0 := Lib.hid (hr.below HB0.out)
  clear hr
  go_enter Tryd.func52, Tryd.ntmps52
  go_wp2_with fail
  refine (HRD.out _ HB0.out).mono ?_
  rintro e w1 ⟨v, F1, rfl, h1, h2⟩
  have HNA : Hid (¬ F1 w.heap.size) := Lib.hid (fun hf => (h2.gr _ hf).elim (fun hf => absurd (HF0.out _ hf) (Nat.lt_irrefl _)) (fun hl => by simp at hl; omega))
  have HNB : Hid (¬ F1 (w.heap.size + 1)) := Lib.hid (fun hf => (h2.gr _ hf).elim (fun hf => absurd (HF0.out _ hf) (by omega)) (fun hl => by simp at hl; omega))
  have HRG1 := Lib.hid (HRG0.out.step h2 hrf)
  have KA := Lib.hid (h2.heap K0.out (fun hf => by have := HF0.out _ hf; omega))
  clear K0
  have KB := Lib.hid (h2.heap K1.out (fun hf => by have := HF0.out _ hf; omega))
  clear K1
  have HB := Lib.hid (And.intro h1 ((MemStep.of_below HB0.out).trans h2))
  clear HRG0
  clear HB0 h1 h2
  have c1 := (cell_of_row _ _ 7 _ _ _ KA.out).trans (rfl : _ = some (.int .u32 to_ : Value))
  have f2 := fun j => frozen_of_row _ _ j _ _ KA.out
  go_wp2_with fail
  refine (HPL.out _ HRG1.out).mono ?_
  rintro e w2 ⟨⟨x, _, rfl⟩, hb⟩
  clear c1 f2
  have K3 := Lib.hid (keepB KA.out hb)
  clear KA
  have K4 := Lib.hid (keepB KB.out hb)
  clear KB
  have HB5 := Lib.hid (And.intro (HB.out.1.below hb) (HB.out.2.below hb))
  clear HB
  clear hb HRG1
  have HE := Lib.hid (fun W => dma_ended ⟨code, head, at_, steps, moved, have_, from_, to_, left, next, asks⟩ 3 W)
  simp only [Dst.c, Dst.without, Dst.ended] at HE
  go_wp2_with (first | go_skip | (refine wpList_load_row rfl 33 _ rfl (w.heap.size) rfl 33 #[.int .u32 code, .int .u32 head, .int .u32 at_, .int .u32 steps, .int .u32 moved, .bool have_, .int .u32 from_, .int .u32 to_, .int .u32 left, .int .u32 next, .bool asks] (0, 0) _ K3.out Tryd.underlying33 rfl (by kernel_rfl) ?_))
  refine (HE.out _).mono ?_
  rintro e w9 ⟨rfl, hb⟩
  have K6 := Lib.hid (keepB K3.out hb)
  clear K3
  have K7 := Lib.hid (keepB K4.out hb)
  clear K4
  have HB8 := Lib.hid (And.intro (HB5.out.1.below hb) (HB5.out.2.below hb))
  clear HB5
  clear hb
  have HO9 := Lib.hid (show (#[.int .u32 3, .int .u32 head, .int .u32 at_, .int .u32 steps, .int .u32 moved, .bool false, .int .u32 0, .int .u32 0, .int .u32 0, .int .u32 0, .bool true] : Array Value).all (·.oneCell') = true by simp [Value.oneCell'])
  go_wp2_with (refine wpList_store_to rfl 33 _ _ rfl (w.heap.size + 1) #[.int .u32 3, .int .u32 head, .int .u32 at_, .int .u32 steps, .int .u32 moved, .bool false, .int .u32 0, .int .u32 0, .int .u32 0, .int .u32 0, .bool true] rfl rfl 33 #[.int .u32 0, .int .u32 0, .int .u32 0, .int .u32 0, .int .u32 0, .bool false, .int .u32 0, .int .u32 0, .int .u32 0, .int .u32 0, .bool false] K7.out (by kernel_rfl) rfl HO9.out ?_)
  intro w10 hx11 hkk
  have K12 := Lib.hid (hx11.out.heap K6.out (by omega))
  clear K6
  have K13 := Lib.hid hkk
  clear hkk K7
  have HB14 := Lib.hid (And.intro (HB8.out.1.kx hx11.out (fun k _ hf e => by subst e; exact HNB.out hf)) (HB8.out.2.own hx11.out (by omega)))
  clear HB8 hx11
  go_wp2_with fail
  exact bodyPost_ret (v := .agg #[.int .u32 3, .int .u32 head, .int .u32 at_, .int .u32 steps, .int .u32 moved, .bool false, .int .u32 0, .int .u32 0, .int .u32 0, .int .u32 0, .bool true]) (results_cell_row Tryd.results52 _ _ (w.heap.size + 1) 33 #[.int .u32 3, .int .u32 head, .int .u32 at_, .int .u32 steps, .int .u32 moved, .bool false, .int .u32 0, .int .u32 0, .int .u32 0, .int .u32 0, .bool true] (0, 0) _ rfl K13.out Tryd.underlying33 rfl (by kernel_rfl)) rfl ⟨rfl, F1, HB14.out.1, HB14.out.2⟩

set_option maxRecDepth 100000 in
set_option maxHeartbeats 4000000 in
theorem dma_move_norange_s (head at_ steps moved : Nat) (have_ : Bool) (from_ to_ left next code : Nat) (asks : Bool) {g : Nat} {m : Mm} {F : Nat → Prop} {w : World} (HF0 : Hid (∀ k, F k → k < w.heap.size)) (hl : left ≤ 64) (hf : from_ < 4294967296) (ht : to_ < 4294967296) (hm : moved < 4294967296) (hll : left < 4294967296)
    (HRD : Hid (∀ W, Below w.heap.size w W → Calls Tryd.prog 87 #[.pointer (some ⟨g, 0, none⟩), .int .u32 (from_ : Nat), .int .u32 left] W fun e w' => ∃ v F1, e = .returned (.tuple #[v, .bool false]) ∧ RamIs w' g m F1 ∧ MemStep F F1 W w'))
    (hr : RegAt w) (hrf : ¬ F 1)
    (b : Bool) (HPL : Hid (∀ W, RegAt W → Calls Tryd.prog 88 #[.int .u32 (to_ : Nat)] W fun e w' => (∃ x : Nat, x < 4294967296 ∧ e = .returned (.tuple #[.int .u32 x, .bool b])) ∧ Below W.heap.size W w')) :
    Calls Tryd.prog 52 #[.agg #[.int .u32 code, .int .u32 head, .int .u32 at_, .int .u32 steps, .int .u32 moved, .bool have_, .int .u32 from_, .int .u32 to_, .int .u32 left, .int .u32 next, .bool asks], .pointer (some ⟨g, 0, none⟩)] w fun e w' => e = .returned (.agg #[.int .u32 3, .int .u32 head, .int .u32 at_, .int .u32 steps, .int .u32 moved, .bool false, .int .u32 0, .int .u32 0, .int .u32 0, .int .u32 0, .bool true]) ∧ ∃ F', RamIs w' g m F' ∧ MemStep F F' w w' := by
  have hli : ¬ (64 : Int) < (left : Int) := by omega
  obtain ⟨k0, k1, hb0⟩ := two_new w (.cells #[.int .u32 code, .int .u32 head, .int .u32 at_, .int .u32 steps, .int .u32 moved, .bool have_, .int .u32 from_, .int .u32 to_, .int .u32 left, .int .u32 next, .bool asks] 33) (.cells #[.int .u32 0, .int .u32 0, .int .u32 0, .int .u32 0, .int .u32 0, .bool false, .int .u32 0, .int .u32 0, .int .u32 0, .int .u32 0, .bool false] 33)
  have K0 := Lib.hid k0
  have K1 := Lib.hid k1
  have HB0 := Lib.hid hb0
  clear k0 k1 hb0
  have HRG0 := Lib.hid (hr.below HB0.out)
  clear hr
  go_enter Tryd.func52, Tryd.ntmps52
  go_wp2_with fail
  refine (HRD.out _ HB0.out).mono ?_
  rintro e w1 ⟨v, F1, rfl, h1, h2⟩
  have HNA : Hid (¬ F1 w.heap.size) := Lib.hid (fun hf => (h2.gr _ hf).elim (fun hf => absurd (HF0.out _ hf) (Nat.lt_irrefl _)) (fun hl => by simp at hl; omega))
  have HNB : Hid (¬ F1 (w.heap.size + 1)) := Lib.hid (fun hf => (h2.gr _ hf).elim (fun hf => absurd (HF0.out _ hf) (by omega)) (fun hl => by simp at hl; omega))
  have HRG1 := Lib.hid (HRG0.out.step h2 hrf)
  have KA := Lib.hid (h2.heap K0.out (fun hf => by have := HF0.out _ hf; omega))
  clear K0
  have KB := Lib.hid (h2.heap K1.out (fun hf => by have := HF0.out _ hf; omega))
  clear K1
  have HB := Lib.hid (And.intro h1 ((MemStep.of_below HB0.out).trans h2))
  clear HRG0
  clear HB0 h1 h2
  have c1 := (cell_of_row _ _ 7 _ _ _ KA.out).trans (rfl : _ = some (.int .u32 to_ : Value))
  have f2 := fun j => frozen_of_row _ _ j _ _ KA.out
  go_wp2_with fail
  refine (HPL.out _ HRG1.out).mono ?_
  rintro e w2 ⟨⟨x, _, rfl⟩, hb⟩
  clear c1 f2
  have K3 := Lib.hid (keepB KA.out hb)
  clear KA
  have K4 := Lib.hid (keepB KB.out hb)
  clear KB
  have HB5 := Lib.hid (And.intro (HB.out.1.below hb) (HB.out.2.below hb))
  clear HB
  clear hb HRG1
  have HE := Lib.hid (fun W => dma_ended ⟨code, head, at_, steps, moved, have_, from_, to_, left, next, asks⟩ 3 W)
  simp only [Dst.c, Dst.without, Dst.ended] at HE
  go_wp2_with (first | go_skip | (refine wpList_load_row rfl 33 _ rfl (w.heap.size) rfl 33 #[.int .u32 code, .int .u32 head, .int .u32 at_, .int .u32 steps, .int .u32 moved, .bool have_, .int .u32 from_, .int .u32 to_, .int .u32 left, .int .u32 next, .bool asks] (0, 0) _ K3.out Tryd.underlying33 rfl (by kernel_rfl) ?_))
  refine (HE.out _).mono ?_
  rintro e w9 ⟨rfl, hb⟩
  have K6 := Lib.hid (keepB K3.out hb)
  clear K3
  have K7 := Lib.hid (keepB K4.out hb)
  clear K4
  have HB8 := Lib.hid (And.intro (HB5.out.1.below hb) (HB5.out.2.below hb))
  clear HB5
  clear hb
  have HO9 := Lib.hid (show (#[.int .u32 3, .int .u32 head, .int .u32 at_, .int .u32 steps, .int .u32 moved, .bool false, .int .u32 0, .int .u32 0, .int .u32 0, .int .u32 0, .bool true] : Array Value).all (·.oneCell') = true by simp [Value.oneCell'])
  go_wp2_with (refine wpList_store_to rfl 33 _ _ rfl (w.heap.size + 1) #[.int .u32 3, .int .u32 head, .int .u32 at_, .int .u32 steps, .int .u32 moved, .bool false, .int .u32 0, .int .u32 0, .int .u32 0, .int .u32 0, .bool true] rfl rfl 33 #[.int .u32 0, .int .u32 0, .int .u32 0, .int .u32 0, .int .u32 0, .bool false, .int .u32 0, .int .u32 0, .int .u32 0, .int .u32 0, .bool false] K7.out (by kernel_rfl) rfl HO9.out ?_)
  intro w10 hx11 hkk
  have K12 := Lib.hid (hx11.out.heap K6.out (by omega))
  clear K6
  have K13 := Lib.hid hkk
  clear hkk K7
  have HB14 := Lib.hid (And.intro (HB8.out.1.kx hx11.out (fun k _ hf e => by subst e; exact HNB.out hf)) (HB8.out.2.own hx11.out (by omega)))
  clear HB8 hx11
  go_wp2_with fail
  exact bodyPost_ret (v := .agg #[.int .u32 3, .int .u32 head, .int .u32 at_, .int .u32 steps, .int .u32 moved, .bool false, .int .u32 0, .int .u32 0, .int .u32 0, .int .u32 0, .bool true]) (results_cell_row Tryd.results52 _ _ (w.heap.size + 1) 33 #[.int .u32 3, .int .u32 head, .int .u32 at_, .int .u32 steps, .int .u32 moved, .bool false, .int .u32 0, .int .u32 0, .int .u32 0, .int .u32 0, .bool true] (0, 0) _ rfl K13.out Tryd.underlying33 rfl (by kernel_rfl)) rfl ⟨rfl, F1, HB14.out.1, HB14.out.2⟩

set_option maxRecDepth 100000 in
set_option maxHeartbeats 4000000 in
theorem dma_move_noplace_b (head at_ steps moved : Nat) (have_ : Bool) (from_ to_ left next code : Nat) (asks : Bool) {g : Nat} {m : Mm} {F : Nat → Prop} {w : World} (HF0 : Hid (∀ k, F k → k < w.heap.size)) (hl : 64 < left) (hf : from_ < 4294967296) (ht : to_ < 4294967296) (hm : moved < 4294967296) (hll : left < 4294967296) (l : List UInt8)
    (HRD : Hid (∀ W, Below w.heap.size w W → Calls Tryd.prog 87 #[.pointer (some ⟨g, 0, none⟩), .int .u32 (from_ : Nat), .int .u32 64] W fun e w' => ∃ v F1, e = .returned (.tuple #[v, .bool true]) ∧ RamIs w' g m F1 ∧ MemStep F F1 W w' ∧ w'.ownsRow W.heap.size 5 1 v 64 (l.map B8) ∧ (∀ b, v.ownBlock = some b → ¬ F1 b)))
    (hr : RegAt w) (hrf : ¬ F 1)
    (HPL : Hid (∀ W, RegAt W → Calls Tryd.prog 88 #[.int .u32 (to_ : Nat)] W fun e w' => (∃ x : Nat, x < 4294967296 ∧ e = .returned (.tuple #[.int .u32 x, .bool false])) ∧ Below W.heap.size W w')) :
    Calls Tryd.prog 52 #[.agg #[.int .u32 code, .int .u32 head, .int .u32 at_, .int .u32 steps, .int .u32 moved, .bool have_, .int .u32 from_, .int .u32 to_, .int .u32 left, .int .u32 next, .bool asks], .pointer (some ⟨g, 0, none⟩)] w fun e w' => e = .returned (.agg #[.int .u32 3, .int .u32 head, .int .u32 at_, .int .u32 steps, .int .u32 moved, .bool false, .int .u32 0, .int .u32 0, .int .u32 0, .int .u32 0, .bool true]) ∧ ∃ F', RamIs w' g m F' ∧ MemStep F F' w w' := by
  have hli : (64 : Int) < (left : Int) := by omega
  obtain ⟨k0, k1, hb0⟩ := two_new w (.cells #[.int .u32 code, .int .u32 head, .int .u32 at_, .int .u32 steps, .int .u32 moved, .bool have_, .int .u32 from_, .int .u32 to_, .int .u32 left, .int .u32 next, .bool asks] 33) (.cells #[.int .u32 0, .int .u32 0, .int .u32 0, .int .u32 0, .int .u32 0, .bool false, .int .u32 0, .int .u32 0, .int .u32 0, .int .u32 0, .bool false] 33)
  have K0 := Lib.hid k0
  have K1 := Lib.hid k1
  have HB0 := Lib.hid hb0
  clear k0 k1 hb0
  have HRG0 := Lib.hid (hr.below HB0.out)
  clear hr
  go_enter Tryd.func52, Tryd.ntmps52
  go_wp2_with fail
  refine (HRD.out _ HB0.out).mono ?_
  rintro e w1 ⟨v, F1, rfl, h1, h2, h3, h4⟩
  have HNA : Hid (¬ F1 w.heap.size) := Lib.hid (fun hf => (h2.gr _ hf).elim (fun hf => absurd (HF0.out _ hf) (Nat.lt_irrefl _)) (fun hl => by simp at hl; omega))
  have HNB : Hid (¬ F1 (w.heap.size + 1)) := Lib.hid (fun hf => (h2.gr _ hf).elim (fun hf => absurd (HF0.out _ hf) (by omega)) (fun hl => by simp at hl; omega))
  have HRG1 := Lib.hid (HRG0.out.step h2 hrf)
  have KA := Lib.hid (h2.heap K0.out (fun hf => by have := HF0.out _ hf; omega))
  clear K0
  have KB := Lib.hid (h2.heap K1.out (fun hf => by have := HF0.out _ hf; omega))
  clear K1
  have HB := Lib.hid (And.intro h1 ((MemStep.of_below HB0.out).trans h2))
  clear HRG0
  have HOV := Lib.hid h3
  have HVF := Lib.hid h4
  clear h3 h4
  clear HB0 h1 h2
  have c1 := (cell_of_row _ _ 7 _ _ _ KA.out).trans (rfl : _ = some (.int .u32 to_ : Value))
  have f2 := fun j => frozen_of_row _ _ j _ _ KA.out
  go_wp2_with fail
  refine (HPL.out _ HRG1.out).mono ?_
  rintro e w2 ⟨⟨x, _, rfl⟩, hb⟩
  clear c1 f2
  have HOV2 := Lib.hid (ownsRow_keep HOV.out (fun b h => hb.block b (ownsRow_lt HOV.out h).2))
  clear HOV
  have K3 := Lib.hid (keepB KA.out hb)
  clear KA
  have K4 := Lib.hid (keepB KB.out hb)
  clear KB
  have HB5 := Lib.hid (And.intro (HB.out.1.below hb) (HB.out.2.below hb))
  clear HB
  clear hb HRG1
  have HE := Lib.hid (fun W => dma_ended ⟨code, head, at_, steps, moved, have_, from_, to_, left, next, asks⟩ 3 W)
  simp only [Dst.c, Dst.without, Dst.ended] at HE
  go_wp2_with (first | go_skip | (refine wpList_load_row rfl 33 _ rfl (w.heap.size) rfl 33 #[.int .u32 code, .int .u32 head, .int .u32 at_, .int .u32 steps, .int .u32 moved, .bool have_, .int .u32 from_, .int .u32 to_, .int .u32 left, .int .u32 next, .bool asks] (0, 0) _ K3.out Tryd.underlying33 rfl (by kernel_rfl) ?_))
  refine (HE.out _).mono ?_
  rintro e w9 ⟨rfl, hb⟩
  have K6 := Lib.hid (keepB K3.out hb)
  clear K3
  have K7 := Lib.hid (keepB K4.out hb)
  clear K4
  have HB8 := Lib.hid (And.intro (HB5.out.1.below hb) (HB5.out.2.below hb))
  clear HB5
  clear hb
  have HO9 := Lib.hid (show (#[.int .u32 3, .int .u32 head, .int .u32 at_, .int .u32 steps, .int .u32 moved, .bool false, .int .u32 0, .int .u32 0, .int .u32 0, .int .u32 0, .bool true] : Array Value).all (·.oneCell') = true by simp [Value.oneCell'])
  go_wp2_with (refine wpList_store_to rfl 33 _ _ rfl (w.heap.size + 1) #[.int .u32 3, .int .u32 head, .int .u32 at_, .int .u32 steps, .int .u32 moved, .bool false, .int .u32 0, .int .u32 0, .int .u32 0, .int .u32 0, .bool true] rfl rfl 33 #[.int .u32 0, .int .u32 0, .int .u32 0, .int .u32 0, .int .u32 0, .bool false, .int .u32 0, .int .u32 0, .int .u32 0, .int .u32 0, .bool false] K7.out (by kernel_rfl) rfl HO9.out ?_)
  intro w10 hx11 hkk
  have K12 := Lib.hid (hx11.out.heap K6.out (by omega))
  clear K6
  have K13 := Lib.hid hkk
  clear hkk K7
  have HB14 := Lib.hid (And.intro (HB8.out.1.kx hx11.out (fun k _ hf e => by subst e; exact HNB.out hf)) (HB8.out.2.own hx11.out (by omega)))
  clear HB8 hx11
  go_wp2_with fail
  exact bodyPost_ret (v := .agg #[.int .u32 3, .int .u32 head, .int .u32 at_, .int .u32 steps, .int .u32 moved, .bool false, .int .u32 0, .int .u32 0, .int .u32 0, .int .u32 0, .bool true]) (results_cell_row Tryd.results52 _ _ (w.heap.size + 1) 33 #[.int .u32 3, .int .u32 head, .int .u32 at_, .int .u32 steps, .int .u32 moved, .bool false, .int .u32 0, .int .u32 0, .int .u32 0, .int .u32 0, .bool true] (0, 0) _ rfl K13.out Tryd.underlying33 rfl (by kernel_rfl)) rfl ⟨rfl, F1, HB14.out.1, HB14.out.2⟩

set_option maxRecDepth 100000 in
set_option maxHeartbeats 4000000 in
theorem dma_move_noplace_s (head at_ steps moved : Nat) (have_ : Bool) (from_ to_ left next code : Nat) (asks : Bool) {g : Nat} {m : Mm} {F : Nat → Prop} {w : World} (HF0 : Hid (∀ k, F k → k < w.heap.size)) (hl : left ≤ 64) (hf : from_ < 4294967296) (ht : to_ < 4294967296) (hm : moved < 4294967296) (hll : left < 4294967296) (l : List UInt8)
    (HRD : Hid (∀ W, Below w.heap.size w W → Calls Tryd.prog 87 #[.pointer (some ⟨g, 0, none⟩), .int .u32 (from_ : Nat), .int .u32 left] W fun e w' => ∃ v F1, e = .returned (.tuple #[v, .bool true]) ∧ RamIs w' g m F1 ∧ MemStep F F1 W w' ∧ w'.ownsRow W.heap.size 5 1 v left (l.map B8) ∧ (∀ b, v.ownBlock = some b → ¬ F1 b)))
    (hr : RegAt w) (hrf : ¬ F 1)
    (HPL : Hid (∀ W, RegAt W → Calls Tryd.prog 88 #[.int .u32 (to_ : Nat)] W fun e w' => (∃ x : Nat, x < 4294967296 ∧ e = .returned (.tuple #[.int .u32 x, .bool false])) ∧ Below W.heap.size W w')) :
    Calls Tryd.prog 52 #[.agg #[.int .u32 code, .int .u32 head, .int .u32 at_, .int .u32 steps, .int .u32 moved, .bool have_, .int .u32 from_, .int .u32 to_, .int .u32 left, .int .u32 next, .bool asks], .pointer (some ⟨g, 0, none⟩)] w fun e w' => e = .returned (.agg #[.int .u32 3, .int .u32 head, .int .u32 at_, .int .u32 steps, .int .u32 moved, .bool false, .int .u32 0, .int .u32 0, .int .u32 0, .int .u32 0, .bool true]) ∧ ∃ F', RamIs w' g m F' ∧ MemStep F F' w w' := by
  have hli : ¬ (64 : Int) < (left : Int) := by omega
  obtain ⟨k0, k1, hb0⟩ := two_new w (.cells #[.int .u32 code, .int .u32 head, .int .u32 at_, .int .u32 steps, .int .u32 moved, .bool have_, .int .u32 from_, .int .u32 to_, .int .u32 left, .int .u32 next, .bool asks] 33) (.cells #[.int .u32 0, .int .u32 0, .int .u32 0, .int .u32 0, .int .u32 0, .bool false, .int .u32 0, .int .u32 0, .int .u32 0, .int .u32 0, .bool false] 33)
  have K0 := Lib.hid k0
  have K1 := Lib.hid k1
  have HB0 := Lib.hid hb0
  clear k0 k1 hb0
  have HRG0 := Lib.hid (hr.below HB0.out)
  clear hr
  go_enter Tryd.func52, Tryd.ntmps52
  go_wp2_with fail
  refine (HRD.out _ HB0.out).mono ?_
  rintro e w1 ⟨v, F1, rfl, h1, h2, h3, h4⟩
  have HNA : Hid (¬ F1 w.heap.size) := Lib.hid (fun hf => (h2.gr _ hf).elim (fun hf => absurd (HF0.out _ hf) (Nat.lt_irrefl _)) (fun hl => by simp at hl; omega))
  have HNB : Hid (¬ F1 (w.heap.size + 1)) := Lib.hid (fun hf => (h2.gr _ hf).elim (fun hf => absurd (HF0.out _ hf) (by omega)) (fun hl => by simp at hl; omega))
  have HRG1 := Lib.hid (HRG0.out.step h2 hrf)
  have KA := Lib.hid (h2.heap K0.out (fun hf => by have := HF0.out _ hf; omega))
  clear K0
  have KB := Lib.hid (h2.heap K1.out (fun hf => by have := HF0.out _ hf; omega))
  clear K1
  have HB := Lib.hid (And.intro h1 ((MemStep.of_below HB0.out).trans h2))
  clear HRG0
  have HOV := Lib.hid h3
  have HVF := Lib.hid h4
  clear h3 h4
  clear HB0 h1 h2
  have c1 := (cell_of_row _ _ 7 _ _ _ KA.out).trans (rfl : _ = some (.int .u32 to_ : Value))
  have f2 := fun j => frozen_of_row _ _ j _ _ KA.out
  go_wp2_with fail
  refine (HPL.out _ HRG1.out).mono ?_
  rintro e w2 ⟨⟨x, _, rfl⟩, hb⟩
  clear c1 f2
  have HOV2 := Lib.hid (ownsRow_keep HOV.out (fun b h => hb.block b (ownsRow_lt HOV.out h).2))
  clear HOV
  have K3 := Lib.hid (keepB KA.out hb)
  clear KA
  have K4 := Lib.hid (keepB KB.out hb)
  clear KB
  have HB5 := Lib.hid (And.intro (HB.out.1.below hb) (HB.out.2.below hb))
  clear HB
  clear hb HRG1
  have HE := Lib.hid (fun W => dma_ended ⟨code, head, at_, steps, moved, have_, from_, to_, left, next, asks⟩ 3 W)
  simp only [Dst.c, Dst.without, Dst.ended] at HE
  go_wp2_with (first | go_skip | (refine wpList_load_row rfl 33 _ rfl (w.heap.size) rfl 33 #[.int .u32 code, .int .u32 head, .int .u32 at_, .int .u32 steps, .int .u32 moved, .bool have_, .int .u32 from_, .int .u32 to_, .int .u32 left, .int .u32 next, .bool asks] (0, 0) _ K3.out Tryd.underlying33 rfl (by kernel_rfl) ?_))
  refine (HE.out _).mono ?_
  rintro e w9 ⟨rfl, hb⟩
  have K6 := Lib.hid (keepB K3.out hb)
  clear K3
  have K7 := Lib.hid (keepB K4.out hb)
  clear K4
  have HB8 := Lib.hid (And.intro (HB5.out.1.below hb) (HB5.out.2.below hb))
  clear HB5
  clear hb
  have HO9 := Lib.hid (show (#[.int .u32 3, .int .u32 head, .int .u32 at_, .int .u32 steps, .int .u32 moved, .bool false, .int .u32 0, .int .u32 0, .int .u32 0, .int .u32 0, .bool true] : Array Value).all (·.oneCell') = true by simp [Value.oneCell'])
  go_wp2_with (refine wpList_store_to rfl 33 _ _ rfl (w.heap.size + 1) #[.int .u32 3, .int .u32 head, .int .u32 at_, .int .u32 steps, .int .u32 moved, .bool false, .int .u32 0, .int .u32 0, .int .u32 0, .int .u32 0, .bool true] rfl rfl 33 #[.int .u32 0, .int .u32 0, .int .u32 0, .int .u32 0, .int .u32 0, .bool false, .int .u32 0, .int .u32 0, .int .u32 0, .int .u32 0, .bool false] K7.out (by kernel_rfl) rfl HO9.out ?_)
  intro w10 hx11 hkk
  have K12 := Lib.hid (hx11.out.heap K6.out (by omega))
  clear K6
  have K13 := Lib.hid hkk
  clear hkk K7
  have HB14 := Lib.hid (And.intro (HB8.out.1.kx hx11.out (fun k _ hf e => by subst e; exact HNB.out hf)) (HB8.out.2.own hx11.out (by omega)))
  clear HB8 hx11
  go_wp2_with fail
  exact bodyPost_ret (v := .agg #[.int .u32 3, .int .u32 head, .int .u32 at_, .int .u32 steps, .int .u32 moved, .bool false, .int .u32 0, .int .u32 0, .int .u32 0, .int .u32 0, .bool true]) (results_cell_row Tryd.results52 _ _ (w.heap.size + 1) 33 #[.int .u32 3, .int .u32 head, .int .u32 at_, .int .u32 steps, .int .u32 moved, .bool false, .int .u32 0, .int .u32 0, .int .u32 0, .int .u32 0, .bool true] (0, 0) _ rfl K13.out Tryd.underlying33 rfl (by kernel_rfl)) rfl ⟨rfl, F1, HB14.out.1, HB14.out.2⟩

set_option maxRecDepth 100000 in
set_option maxHeartbeats 4000000 in
theorem dma_move_nowrite_b (head at_ steps moved : Nat) (have_ : Bool) (from_ to_ left next code : Nat) (asks : Bool) {g : Nat} {m : Mm} {F : Nat → Prop} {w : World} (HF0 : Hid (∀ k, F k → k < w.heap.size)) (hl : 64 < left) (hf : from_ < 4294967296) (ht : to_ < 4294967296) (hm : moved < 4294967296) (hll : left < 4294967296) (l : List UInt8)
    (HRD : Hid (∀ W, Below w.heap.size w W → Calls Tryd.prog 87 #[.pointer (some ⟨g, 0, none⟩), .int .u32 (from_ : Nat), .int .u32 64] W fun e w' => ∃ v F1, e = .returned (.tuple #[v, .bool true]) ∧ RamIs w' g m F1 ∧ MemStep F F1 W w' ∧ w'.ownsRow W.heap.size 5 1 v 64 (l.map B8) ∧ (∀ b, v.ownBlock = some b → ¬ F1 b)))
    (hr : RegAt w) (hrf : ¬ F 1)
    (x : Nat) (hx : x < 4294967296) (HPL : Hid (∀ W, RegAt W → Calls Tryd.prog 88 #[.int .u32 (to_ : Nat)] W fun e w' => e = .returned (.tuple #[.int .u32 (x : Nat), .bool true]) ∧ Below W.heap.size W w')) (hw : 4096 * m.n < x + 64) :
    Calls Tryd.prog 52 #[.agg #[.int .u32 code, .int .u32 head, .int .u32 at_, .int .u32 steps, .int .u32 moved, .bool have_, .int .u32 from_, .int .u32 to_, .int .u32 left, .int .u32 next, .bool asks], .pointer (some ⟨g, 0, none⟩)] w fun e w' => e = .returned (.agg #[.int .u32 3, .int .u32 head, .int .u32 at_, .int .u32 steps, .int .u32 moved, .bool false, .int .u32 0, .int .u32 0, .int .u32 0, .int .u32 0, .bool true]) ∧ ∃ F', RamIs w' g m F' ∧ MemStep F F' w w' := by
  have hli : (64 : Int) < (left : Int) := by omega
  obtain ⟨k0, k1, hb0⟩ := two_new w (.cells #[.int .u32 code, .int .u32 head, .int .u32 at_, .int .u32 steps, .int .u32 moved, .bool have_, .int .u32 from_, .int .u32 to_, .int .u32 left, .int .u32 next, .bool asks] 33) (.cells #[.int .u32 0, .int .u32 0, .int .u32 0, .int .u32 0, .int .u32 0, .bool false, .int .u32 0, .int .u32 0, .int .u32 0, .int .u32 0, .bool false] 33)
  have K0 := Lib.hid k0
  have K1 := Lib.hid k1
  have HB0 := Lib.hid hb0
  clear k0 k1 hb0
  have HRG0 := Lib.hid (hr.below HB0.out)
  clear hr
  go_enter Tryd.func52, Tryd.ntmps52
  go_wp2_with fail
  refine (HRD.out _ HB0.out).mono ?_
  rintro e w1 ⟨v, F1, rfl, h1, h2, h3, h4⟩
  have HNA : Hid (¬ F1 w.heap.size) := Lib.hid (fun hf => (h2.gr _ hf).elim (fun hf => absurd (HF0.out _ hf) (Nat.lt_irrefl _)) (fun hl => by simp at hl; omega))
  have HNB : Hid (¬ F1 (w.heap.size + 1)) := Lib.hid (fun hf => (h2.gr _ hf).elim (fun hf => absurd (HF0.out _ hf) (by omega)) (fun hl => by simp at hl; omega))
  have HRG1 := Lib.hid (HRG0.out.step h2 hrf)
  have KA := Lib.hid (h2.heap K0.out (fun hf => by have := HF0.out _ hf; omega))
  clear K0
  have KB := Lib.hid (h2.heap K1.out (fun hf => by have := HF0.out _ hf; omega))
  clear K1
  have HB := Lib.hid (And.intro h1 ((MemStep.of_below HB0.out).trans h2))
  clear HRG0
  have HOV := Lib.hid h3
  have HVF := Lib.hid h4
  clear h3 h4
  clear HB0 h1 h2
  have c1 := (cell_of_row _ _ 7 _ _ _ KA.out).trans (rfl : _ = some (.int .u32 to_ : Value))
  have f2 := fun j => frozen_of_row _ _ j _ _ KA.out
  go_wp2_with fail
  refine (HPL.out _ HRG1.out).mono ?_
  rintro e w2 ⟨rfl, hb⟩
  clear c1 f2
  have HOV2 := Lib.hid (ownsRow_keep HOV.out (fun b h => hb.block b (ownsRow_lt HOV.out h).2))
  clear HOV
  have K3 := Lib.hid (keepB KA.out hb)
  clear KA
  have K4 := Lib.hid (keepB KB.out hb)
  clear KB
  have HB5 := Lib.hid (And.intro (HB.out.1.below hb) (HB.out.2.below hb))
  clear HB
  clear hb HRG1
  obtain ⟨ao, cv, rfl, hcv, hln, hba⟩ := BytesAt.of_owns HOV2.out HVF.out
  have HBA := Lib.hid hba
  have HLN := Lib.hid hln
  clear hba hln HOV2 HVF
  have HW := Lib.hid (mem_Write_range HB5.out.1 x 64 cv ao hx (by omega) hw)
  rw [errV_4] at HW
  clear hw
  go_wp2_with fail
  refine (HW.out).mono ?_
  rintro e w3 ⟨rfl, rfl⟩
  have HE := Lib.hid (fun W => dma_ended ⟨code, head, at_, steps, moved, have_, from_, to_, left, next, asks⟩ 3 W)
  simp only [Dst.c, Dst.without, Dst.ended] at HE
  go_wp2_with (first | go_skip | (refine wpList_load_row rfl 33 _ rfl (w.heap.size) rfl 33 #[.int .u32 code, .int .u32 head, .int .u32 at_, .int .u32 steps, .int .u32 moved, .bool have_, .int .u32 from_, .int .u32 to_, .int .u32 left, .int .u32 next, .bool asks] (0, 0) _ K3.out Tryd.underlying33 rfl (by kernel_rfl) ?_))
  refine (HE.out _).mono ?_
  rintro e w9 ⟨rfl, hb⟩
  have K6 := Lib.hid (keepB K3.out hb)
  clear K3
  have K7 := Lib.hid (keepB K4.out hb)
  clear K4
  have HB8 := Lib.hid (And.intro (HB5.out.1.below hb) (HB5.out.2.below hb))
  clear HB5
  clear hb
  have HO9 := Lib.hid (show (#[.int .u32 3, .int .u32 head, .int .u32 at_, .int .u32 steps, .int .u32 moved, .bool false, .int .u32 0, .int .u32 0, .int .u32 0, .int .u32 0, .bool true] : Array Value).all (·.oneCell') = true by simp [Value.oneCell'])
  go_wp2_with (refine wpList_store_to rfl 33 _ _ rfl (w.heap.size + 1) #[.int .u32 3, .int .u32 head, .int .u32 at_, .int .u32 steps, .int .u32 moved, .bool false, .int .u32 0, .int .u32 0, .int .u32 0, .int .u32 0, .bool true] rfl rfl 33 #[.int .u32 0, .int .u32 0, .int .u32 0, .int .u32 0, .int .u32 0, .bool false, .int .u32 0, .int .u32 0, .int .u32 0, .int .u32 0, .bool false] K7.out (by kernel_rfl) rfl HO9.out ?_)
  intro w10 hx11 hkk
  have K12 := Lib.hid (hx11.out.heap K6.out (by omega))
  clear K6
  have K13 := Lib.hid hkk
  clear hkk K7
  have HB14 := Lib.hid (And.intro (HB8.out.1.kx hx11.out (fun k _ hf e => by subst e; exact HNB.out hf)) (HB8.out.2.own hx11.out (by omega)))
  clear HB8 hx11
  go_wp2_with fail
  exact bodyPost_ret (v := .agg #[.int .u32 3, .int .u32 head, .int .u32 at_, .int .u32 steps, .int .u32 moved, .bool false, .int .u32 0, .int .u32 0, .int .u32 0, .int .u32 0, .bool true]) (results_cell_row Tryd.results52 _ _ (w.heap.size + 1) 33 #[.int .u32 3, .int .u32 head, .int .u32 at_, .int .u32 steps, .int .u32 moved, .bool false, .int .u32 0, .int .u32 0, .int .u32 0, .int .u32 0, .bool true] (0, 0) _ rfl K13.out Tryd.underlying33 rfl (by kernel_rfl)) rfl ⟨rfl, F1, HB14.out.1, HB14.out.2⟩

set_option maxRecDepth 100000 in
set_option maxHeartbeats 4000000 in
theorem dma_move_nowrite_s (head at_ steps moved : Nat) (have_ : Bool) (from_ to_ left next code : Nat) (asks : Bool) {g : Nat} {m : Mm} {F : Nat → Prop} {w : World} (HF0 : Hid (∀ k, F k → k < w.heap.size)) (hl : left ≤ 64) (hf : from_ < 4294967296) (ht : to_ < 4294967296) (hm : moved < 4294967296) (hll : left < 4294967296) (l : List UInt8)
    (HRD : Hid (∀ W, Below w.heap.size w W → Calls Tryd.prog 87 #[.pointer (some ⟨g, 0, none⟩), .int .u32 (from_ : Nat), .int .u32 left] W fun e w' => ∃ v F1, e = .returned (.tuple #[v, .bool true]) ∧ RamIs w' g m F1 ∧ MemStep F F1 W w' ∧ w'.ownsRow W.heap.size 5 1 v left (l.map B8) ∧ (∀ b, v.ownBlock = some b → ¬ F1 b)))
    (hr : RegAt w) (hrf : ¬ F 1)
    (x : Nat) (hx : x < 4294967296) (HPL : Hid (∀ W, RegAt W → Calls Tryd.prog 88 #[.int .u32 (to_ : Nat)] W fun e w' => e = .returned (.tuple #[.int .u32 (x : Nat), .bool true]) ∧ Below W.heap.size W w')) (hw : 4096 * m.n < x + left) :
    Calls Tryd.prog 52 #[.agg #[.int .u32 code, .int .u32 head, .int .u32 at_, .int .u32 steps, .int .u32 moved, .bool have_, .int .u32 from_, .int .u32 to_, .int .u32 left, .int .u32 next, .bool asks], .pointer (some ⟨g, 0, none⟩)] w fun e w' => e = .returned (.agg #[.int .u32 3, .int .u32 head, .int .u32 at_, .int .u32 steps, .int .u32 moved, .bool false, .int .u32 0, .int .u32 0, .int .u32 0, .int .u32 0, .bool true]) ∧ ∃ F', RamIs w' g m F' ∧ MemStep F F' w w' := by
  have hli : ¬ (64 : Int) < (left : Int) := by omega
  obtain ⟨k0, k1, hb0⟩ := two_new w (.cells #[.int .u32 code, .int .u32 head, .int .u32 at_, .int .u32 steps, .int .u32 moved, .bool have_, .int .u32 from_, .int .u32 to_, .int .u32 left, .int .u32 next, .bool asks] 33) (.cells #[.int .u32 0, .int .u32 0, .int .u32 0, .int .u32 0, .int .u32 0, .bool false, .int .u32 0, .int .u32 0, .int .u32 0, .int .u32 0, .bool false] 33)
  have K0 := Lib.hid k0
  have K1 := Lib.hid k1
  have HB0 := Lib.hid hb0
  clear k0 k1 hb0
  have HRG0 := Lib.hid (hr.below HB0.out)
  clear hr
  go_enter Tryd.func52, Tryd.ntmps52
  go_wp2_with fail
  refine (HRD.out _ HB0.out).mono ?_
  rintro e w1 ⟨v, F1, rfl, h1, h2, h3, h4⟩
  have HNA : Hid (¬ F1 w.heap.size) := Lib.hid (fun hf => (h2.gr _ hf).elim (fun hf => absurd (HF0.out _ hf) (Nat.lt_irrefl _)) (fun hl => by simp at hl; omega))
  have HNB : Hid (¬ F1 (w.heap.size + 1)) := Lib.hid (fun hf => (h2.gr _ hf).elim (fun hf => absurd (HF0.out _ hf) (by omega)) (fun hl => by simp at hl; omega))
  have HRG1 := Lib.hid (HRG0.out.step h2 hrf)
  have KA := Lib.hid (h2.heap K0.out (fun hf => by have := HF0.out _ hf; omega))
  clear K0
  have KB := Lib.hid (h2.heap K1.out (fun hf => by have := HF0.out _ hf; omega))
  clear K1
  have HB := Lib.hid (And.intro h1 ((MemStep.of_below HB0.out).trans h2))
  clear HRG0
  have HOV := Lib.hid h3
  have HVF := Lib.hid h4
  clear h3 h4
  clear HB0 h1 h2
  have c1 := (cell_of_row _ _ 7 _ _ _ KA.out).trans (rfl : _ = some (.int .u32 to_ : Value))
  have f2 := fun j => frozen_of_row _ _ j _ _ KA.out
  go_wp2_with fail
  refine (HPL.out _ HRG1.out).mono ?_
  rintro e w2 ⟨rfl, hb⟩
  clear c1 f2
  have HOV2 := Lib.hid (ownsRow_keep HOV.out (fun b h => hb.block b (ownsRow_lt HOV.out h).2))
  clear HOV
  have K3 := Lib.hid (keepB KA.out hb)
  clear KA
  have K4 := Lib.hid (keepB KB.out hb)
  clear KB
  have HB5 := Lib.hid (And.intro (HB.out.1.below hb) (HB.out.2.below hb))
  clear HB
  clear hb HRG1
  obtain ⟨ao, cv, rfl, hcv, hln, hba⟩ := BytesAt.of_owns HOV2.out HVF.out
  have HBA := Lib.hid hba
  have HLN := Lib.hid hln
  clear hba hln HOV2 HVF
  have HW := Lib.hid (mem_Write_range HB5.out.1 x left cv ao hx (by omega) hw)
  rw [errV_4] at HW
  clear hw
  go_wp2_with fail
  refine (HW.out).mono ?_
  rintro e w3 ⟨rfl, rfl⟩
  have HE := Lib.hid (fun W => dma_ended ⟨code, head, at_, steps, moved, have_, from_, to_, left, next, asks⟩ 3 W)
  simp only [Dst.c, Dst.without, Dst.ended] at HE
  go_wp2_with (first | go_skip | (refine wpList_load_row rfl 33 _ rfl (w.heap.size) rfl 33 #[.int .u32 code, .int .u32 head, .int .u32 at_, .int .u32 steps, .int .u32 moved, .bool have_, .int .u32 from_, .int .u32 to_, .int .u32 left, .int .u32 next, .bool asks] (0, 0) _ K3.out Tryd.underlying33 rfl (by kernel_rfl) ?_))
  refine (HE.out _).mono ?_
  rintro e w9 ⟨rfl, hb⟩
  have K6 := Lib.hid (keepB K3.out hb)
  clear K3
  have K7 := Lib.hid (keepB K4.out hb)
  clear K4
  have HB8 := Lib.hid (And.intro (HB5.out.1.below hb) (HB5.out.2.below hb))
  clear HB5
  clear hb
  have HO9 := Lib.hid (show (#[.int .u32 3, .int .u32 head, .int .u32 at_, .int .u32 steps, .int .u32 moved, .bool false, .int .u32 0, .int .u32 0, .int .u32 0, .int .u32 0, .bool true] : Array Value).all (·.oneCell') = true by simp [Value.oneCell'])
  go_wp2_with (refine wpList_store_to rfl 33 _ _ rfl (w.heap.size + 1) #[.int .u32 3, .int .u32 head, .int .u32 at_, .int .u32 steps, .int .u32 moved, .bool false, .int .u32 0, .int .u32 0, .int .u32 0, .int .u32 0, .bool true] rfl rfl 33 #[.int .u32 0, .int .u32 0, .int .u32 0, .int .u32 0, .int .u32 0, .bool false, .int .u32 0, .int .u32 0, .int .u32 0, .int .u32 0, .bool false] K7.out (by kernel_rfl) rfl HO9.out ?_)
  intro w10 hx11 hkk
  have K12 := Lib.hid (hx11.out.heap K6.out (by omega))
  clear K6
  have K13 := Lib.hid hkk
  clear hkk K7
  have HB14 := Lib.hid (And.intro (HB8.out.1.kx hx11.out (fun k _ hf e => by subst e; exact HNB.out hf)) (HB8.out.2.own hx11.out (by omega)))
  clear HB8 hx11
  go_wp2_with fail
  exact bodyPost_ret (v := .agg #[.int .u32 3, .int .u32 head, .int .u32 at_, .int .u32 steps, .int .u32 moved, .bool false, .int .u32 0, .int .u32 0, .int .u32 0, .int .u32 0, .bool true]) (results_cell_row Tryd.results52 _ _ (w.heap.size + 1) 33 #[.int .u32 3, .int .u32 head, .int .u32 at_, .int .u32 steps, .int .u32 moved, .bool false, .int .u32 0, .int .u32 0, .int .u32 0, .int .u32 0, .bool true] (0, 0) _ rfl K13.out Tryd.underlying33 rfl (by kernel_rfl)) rfl ⟨rfl, F1, HB14.out.1, HB14.out.2⟩

set_option maxRecDepth 100000 in
set_option maxHeartbeats 4000000 in
theorem dma_move_more_b (head at_ steps moved : Nat) (have_ : Bool) (from_ to_ left next code : Nat) (asks : Bool) {g : Nat} {m : Mm} {F : Nat → Prop} {w : World} (HF0 : Hid (∀ k, F k → k < w.heap.size)) (hl : 64 < left) (hf : from_ < 4294967296) (ht : to_ < 4294967296) (hm : moved < 4294967296) (hll : left < 4294967296) (l : List UInt8)
    (HRD : Hid (∀ W, Below w.heap.size w W → Calls Tryd.prog 87 #[.pointer (some ⟨g, 0, none⟩), .int .u32 (from_ : Nat), .int .u32 64] W fun e w' => ∃ v F1, e = .returned (.tuple #[v, .bool true]) ∧ RamIs w' g m F1 ∧ MemStep F F1 W w' ∧ w'.ownsRow W.heap.size 5 1 v 64 (l.map B8) ∧ (∀ b, v.ownBlock = some b → ¬ F1 b)))
    (hr : RegAt w) (hrf : ¬ F 1)
    (x : Nat) (hx : x < 4294967296) (HPL : Hid (∀ W, RegAt W → Calls Tryd.prog 88 #[.int .u32 (to_ : Nat)] W fun e w' => e = .returned (.tuple #[.int .u32 (x : Nat), .bool true]) ∧ Below W.heap.size W w')) (hw : x + 64 ≤ 4096 * m.n) :
    Calls Tryd.prog 52 #[.agg #[.int .u32 code, .int .u32 head, .int .u32 at_, .int .u32 steps, .int .u32 moved, .bool have_, .int .u32 from_, .int .u32 to_, .int .u32 left, .int .u32 next, .bool asks], .pointer (some ⟨g, 0, none⟩)] w fun e w' => e = .returned (.agg #[.int .u32 code, .int .u32 head, .int .u32 at_, .int .u32 steps, .int .u32 (((moved : Int) + 64) % 4294967296), .bool have_, .int .u32 (((from_ : Int) + 64) % 4294967296), .int .u32 (((to_ : Int) + 64) % 4294967296), .int .u32 ((left : Int) - 64), .int .u32 next, .bool asks]) ∧ ∃ F', RamIs w' g (m.write x l) F' ∧ MemStep F F' w w' := by
  have hli : (64 : Int) < (left : Int) := by omega
  obtain ⟨k0, k1, hb0⟩ := two_new w (.cells #[.int .u32 code, .int .u32 head, .int .u32 at_, .int .u32 steps, .int .u32 moved, .bool have_, .int .u32 from_, .int .u32 to_, .int .u32 left, .int .u32 next, .bool asks] 33) (.cells #[.int .u32 0, .int .u32 0, .int .u32 0, .int .u32 0, .int .u32 0, .bool false, .int .u32 0, .int .u32 0, .int .u32 0, .int .u32 0, .bool false] 33)
  have K0 := Lib.hid k0
  have K1 := Lib.hid k1
  have HB0 := Lib.hid hb0
  clear k0 k1 hb0
  have HRG0 := Lib.hid (hr.below HB0.out)
  clear hr
  go_enter Tryd.func52, Tryd.ntmps52
  go_wp2_with fail
  refine (HRD.out _ HB0.out).mono ?_
  rintro e w1 ⟨v, F1, rfl, h1, h2, h3, h4⟩
  have HNA : Hid (¬ F1 w.heap.size) := Lib.hid (fun hf => (h2.gr _ hf).elim (fun hf => absurd (HF0.out _ hf) (Nat.lt_irrefl _)) (fun hl => by simp at hl; omega))
  have HNB : Hid (¬ F1 (w.heap.size + 1)) := Lib.hid (fun hf => (h2.gr _ hf).elim (fun hf => absurd (HF0.out _ hf) (by omega)) (fun hl => by simp at hl; omega))
  have HRG1 := Lib.hid (HRG0.out.step h2 hrf)
  have KA := Lib.hid (h2.heap K0.out (fun hf => by have := HF0.out _ hf; omega))
  clear K0
  have KB := Lib.hid (h2.heap K1.out (fun hf => by have := HF0.out _ hf; omega))
  clear K1
  have HB := Lib.hid (And.intro h1 ((MemStep.of_below HB0.out).trans h2))
  clear HRG0
  have HOV := Lib.hid h3
  have HVF := Lib.hid h4
  clear h3 h4
  clear HB0 h1 h2
  have c1 := (cell_of_row _ _ 7 _ _ _ KA.out).trans (rfl : _ = some (.int .u32 to_ : Value))
  have f2 := fun j => frozen_of_row _ _ j _ _ KA.out
  go_wp2_with fail
  refine (HPL.out _ HRG1.out).mono ?_
  rintro e w2 ⟨rfl, hb⟩
  clear c1 f2
  have HOV2 := Lib.hid (ownsRow_keep HOV.out (fun b h => hb.block b (ownsRow_lt HOV.out h).2))
  clear HOV
  have K3 := Lib.hid (keepB KA.out hb)
  clear KA
  have K4 := Lib.hid (keepB KB.out hb)
  clear KB
  have HB5 := Lib.hid (And.intro (HB.out.1.below hb) (HB.out.2.below hb))
  clear HB
  clear hb HRG1
  obtain ⟨ao, cv, rfl, hcv, hln, hba⟩ := BytesAt.of_owns HOV2.out HVF.out
  have HBA := Lib.hid hba
  have HLN := Lib.hid hln
  clear hba hln HOV2 HVF
  have HW := Lib.hid (mem_Write_ok HB5.out.1 x ao l cv hx (by rw [HLN.out]; exact hw) HBA.out (by rw [HLN.out]; exact hcv))
  rw [HLN.out] at HW
  clear hw
  go_wp2_with fail
  refine (HW.out).mono ?_
  rintro e w3 ⟨F2, rfl, h1, h2⟩
  have HNA2 : Hid (¬ F2 w.heap.size) := Lib.hid (h2.off (lt_heap K3.out) HNA.out)
  have HNB2 : Hid (¬ F2 (w.heap.size + 1)) := Lib.hid (h2.off (lt_heap K4.out) HNB.out)
  have KA3 := Lib.hid (h2.heap K3.out HNA.out)
  clear K3
  have KB3 := Lib.hid (h2.heap K4.out HNB.out)
  clear K4
  have HB3 := Lib.hid (And.intro h1 (HB5.out.2.trans h2))
  clear HB5 h1 h2
  have c6 := (cell_of_row _ _ 4 _ _ _ KA3.out).trans (rfl : _ = some (.int .u32 moved : Value))
  have c7 := (cell_of_row _ _ 6 _ _ _ KA3.out).trans (rfl : _ = some (.int .u32 from_ : Value))
  have c8 := (cell_of_row _ _ 7 _ _ _ KA3.out).trans (rfl : _ = some (.int .u32 to_ : Value))
  have c9 := (cell_of_row _ _ 8 _ _ _ KA3.out).trans (rfl : _ = some (.int .u32 left : Value))
  have f10 := fun j => frozen_of_row _ _ j _ _ KA3.out
  have hkk : ((((((((w3).setCell ⟨w.heap.size, 6, none⟩ (.int .u32 (((from_ : Int) + 64) % 4294967296)))).setCell ⟨w.heap.size, 7, none⟩ (.int .u32 (((to_ : Int) + 64) % 4294967296)))).setCell ⟨w.heap.size, 8, none⟩ (.int .u32 ((left : Int) - 64)))).setCell ⟨w.heap.size, 4, none⟩ (.int .u32 (((moved : Int) + 64) % 4294967296))).heap[w.heap.size]? = some (.cells #[.int .u32 code, .int .u32 head, .int .u32 at_, .int .u32 steps, .int .u32 (((moved : Int) + 64) % 4294967296), .bool have_, .int .u32 (((from_ : Int) + 64) % 4294967296), .int .u32 (((to_ : Int) + 64) % 4294967296), .int .u32 ((left : Int) - 64), .int .u32 next, .bool asks] 33 (0, 0)) := (set_cells (set_cells (set_cells (set_cells (KA3.out))))).trans rfl
  have hx12 := Lib.hid (show KX (fun k => k = w.heap.size) w3 ((((((((w3).setCell ⟨w.heap.size, 6, none⟩ (.int .u32 (((from_ : Int) + 64) % 4294967296)))).setCell ⟨w.heap.size, 7, none⟩ (.int .u32 (((to_ : Int) + 64) % 4294967296)))).setCell ⟨w.heap.size, 8, none⟩ (.int .u32 ((left : Int) - 64)))).setCell ⟨w.heap.size, 4, none⟩ (.int .u32 (((moved : Int) + 64) % 4294967296))) from ((((KX.refl (fun k => k = w.heap.size) w3).setCell (p := ⟨w.heap.size, 6, none⟩) (.inl rfl) _).setCell (p := ⟨w.heap.size, 7, none⟩) (.inl rfl) _).setCell (p := ⟨w.heap.size, 8, none⟩) (.inl rfl) _).setCell (p := ⟨w.heap.size, 4, none⟩) (.inl rfl) _)
  go_upto_region 7 with fail
  generalize ((((((((w3).setCell ⟨w.heap.size, 6, none⟩ (.int .u32 (((from_ : Int) + 64) % 4294967296)))).setCell ⟨w.heap.size, 7, none⟩ (.int .u32 (((to_ : Int) + 64) % 4294967296)))).setCell ⟨w.heap.size, 8, none⟩ (.int .u32 ((left : Int) - 64)))).setCell ⟨w.heap.size, 4, none⟩ (.int .u32 (((moved : Int) + 64) % 4294967296))) = w11 at hkk hx12 ⊢
  clear c6 c7 c8 c9 f10
  have K13 := Lib.hid (hx12.out.heap KB3.out (by omega))
  clear KB3
  have K14 := Lib.hid hkk
  clear hkk KA3
  have HB15 := Lib.hid (And.intro (HB3.out.1.kx hx12.out (fun k _ hf e => by subst e; exact HNA2.out hf)) (HB3.out.2.own hx12.out (by omega)))
  clear HB3 hx12
  have c16 := (cell_of_row _ _ 2 _ _ _ K14.out).trans (rfl : _ = some (.int .u32 at_ : Value))
  have c17 := (cell_of_row _ _ 8 _ _ _ K14.out).trans (rfl : _ = some (.int .u32 ((left : Int) - 64) : Value))
  have c18 := (cell_of_row _ _ 9 _ _ _ K14.out).trans (rfl : _ = some (.int .u32 next : Value))
  have f19 := fun j => frozen_of_row _ _ j _ _ K14.out
  have hlg : (0 : Int) < (left : Int) - 64 := by omega
  have HO20 := Lib.hid (show (#[.int .u32 code, .int .u32 head, .int .u32 at_, .int .u32 steps, .int .u32 (((moved : Int) + 64) % 4294967296), .bool have_, .int .u32 (((from_ : Int) + 64) % 4294967296), .int .u32 (((to_ : Int) + 64) % 4294967296), .int .u32 ((left : Int) - 64), .int .u32 next, .bool asks] : Array Value).all (·.oneCell') = true by simp [Value.oneCell'])
  go_wp2_with (first | (refine wpList_load_row rfl 33 _ rfl (w.heap.size) rfl 33 #[.int .u32 code, .int .u32 head, .int .u32 at_, .int .u32 steps, .int .u32 (((moved : Int) + 64) % 4294967296), .bool have_, .int .u32 (((from_ : Int) + 64) % 4294967296), .int .u32 (((to_ : Int) + 64) % 4294967296), .int .u32 ((left : Int) - 64), .int .u32 next, .bool asks] (0, 0) _ K14.out Tryd.underlying33 rfl (by kernel_rfl) ?_) | (refine wpList_store_to rfl 33 _ _ rfl (w.heap.size + 1) #[.int .u32 code, .int .u32 head, .int .u32 at_, .int .u32 steps, .int .u32 (((moved : Int) + 64) % 4294967296), .bool have_, .int .u32 (((from_ : Int) + 64) % 4294967296), .int .u32 (((to_ : Int) + 64) % 4294967296), .int .u32 ((left : Int) - 64), .int .u32 next, .bool asks] rfl rfl 33 #[.int .u32 0, .int .u32 0, .int .u32 0, .int .u32 0, .int .u32 0, .bool false, .int .u32 0, .int .u32 0, .int .u32 0, .int .u32 0, .bool false] K13.out (by kernel_rfl) rfl HO20.out ?_))
  intro w21 hx22 hkk
  clear c16 c17 c18 f19
  have K23 := Lib.hid (hx22.out.heap K14.out (by omega))
  clear K14
  have K24 := Lib.hid hkk
  clear hkk K13
  have HB25 := Lib.hid (And.intro (HB15.out.1.kx hx22.out (fun k _ hf e => by subst e; exact HNB2.out hf)) (HB15.out.2.own hx22.out (by omega)))
  clear HB15 hx22
  go_wp2_with fail
  exact bodyPost_ret (v := .agg #[.int .u32 code, .int .u32 head, .int .u32 at_, .int .u32 steps, .int .u32 (((moved : Int) + 64) % 4294967296), .bool have_, .int .u32 (((from_ : Int) + 64) % 4294967296), .int .u32 (((to_ : Int) + 64) % 4294967296), .int .u32 ((left : Int) - 64), .int .u32 next, .bool asks]) (results_cell_row Tryd.results52 _ _ (w.heap.size + 1) 33 #[.int .u32 code, .int .u32 head, .int .u32 at_, .int .u32 steps, .int .u32 (((moved : Int) + 64) % 4294967296), .bool have_, .int .u32 (((from_ : Int) + 64) % 4294967296), .int .u32 (((to_ : Int) + 64) % 4294967296), .int .u32 ((left : Int) - 64), .int .u32 next, .bool asks] (0, 0) _ rfl K24.out Tryd.underlying33 rfl (by kernel_rfl)) rfl ⟨rfl, F2, HB25.out.1, HB25.out.2⟩

set_option maxRecDepth 100000 in
set_option maxHeartbeats 4000000 in
theorem dma_move_done_s (head at_ steps moved : Nat) (have_ : Bool) (from_ to_ left next code : Nat) (asks : Bool) {g : Nat} {m : Mm} {F : Nat → Prop} {w : World} (HF0 : Hid (∀ k, F k → k < w.heap.size)) (hl : left ≤ 64) (hf : from_ < 4294967296) (ht : to_ < 4294967296) (hm : moved < 4294967296) (hll : left < 4294967296) (l : List UInt8)
    (HRD : Hid (∀ W, Below w.heap.size w W → Calls Tryd.prog 87 #[.pointer (some ⟨g, 0, none⟩), .int .u32 (from_ : Nat), .int .u32 left] W fun e w' => ∃ v F1, e = .returned (.tuple #[v, .bool true]) ∧ RamIs w' g m F1 ∧ MemStep F F1 W w' ∧ w'.ownsRow W.heap.size 5 1 v left (l.map B8) ∧ (∀ b, v.ownBlock = some b → ¬ F1 b)))
    (hr : RegAt w) (hrf : ¬ F 1)
    (x : Nat) (hx : x < 4294967296) (HPL : Hid (∀ W, RegAt W → Calls Tryd.prog 88 #[.int .u32 (to_ : Nat)] W fun e w' => e = .returned (.tuple #[.int .u32 (x : Nat), .bool true]) ∧ Below W.heap.size W w')) (hw : x + left ≤ 4096 * m.n) (hnx : next = 0) :
    Calls Tryd.prog 52 #[.agg #[.int .u32 code, .int .u32 head, .int .u32 at_, .int .u32 steps, .int .u32 moved, .bool have_, .int .u32 from_, .int .u32 to_, .int .u32 left, .int .u32 next, .bool asks], .pointer (some ⟨g, 0, none⟩)] w fun e w' => e = .returned (.agg #[.int .u32 2, .int .u32 head, .int .u32 at_, .int .u32 steps, .int .u32 (((moved : Int) + left) % 4294967296), .bool false, .int .u32 0, .int .u32 0, .int .u32 0, .int .u32 0, .bool true]) ∧ ∃ F', RamIs w' g (m.write x l) F' ∧ MemStep F F' w w' := by
  have hli : ¬ (64 : Int) < (left : Int) := by omega
  have HNX := Lib.hid hnx
  clear hnx
  obtain ⟨k0, k1, hb0⟩ := two_new w (.cells #[.int .u32 code, .int .u32 head, .int .u32 at_, .int .u32 steps, .int .u32 moved, .bool have_, .int .u32 from_, .int .u32 to_, .int .u32 left, .int .u32 next, .bool asks] 33) (.cells #[.int .u32 0, .int .u32 0, .int .u32 0, .int .u32 0, .int .u32 0, .bool false, .int .u32 0, .int .u32 0, .int .u32 0, .int .u32 0, .bool false] 33)
  have K0 := Lib.hid k0
  have K1 := Lib.hid k1
  have HB0 := Lib.hid hb0
  clear k0 k1 hb0
  have HRG0 := Lib.hid (hr.below HB0.out)
  clear hr
  go_enter Tryd.func52, Tryd.ntmps52
  go_wp2_with fail
  refine (HRD.out _ HB0.out).mono ?_
  rintro e w1 ⟨v, F1, rfl, h1, h2, h3, h4⟩
  have HNA : Hid (¬ F1 w.heap.size) := Lib.hid (fun hf => (h2.gr _ hf).elim (fun hf => absurd (HF0.out _ hf) (Nat.lt_irrefl _)) (fun hl => by simp at hl; omega))
  have HNB : Hid (¬ F1 (w.heap.size + 1)) := Lib.hid (fun hf => (h2.gr _ hf).elim (fun hf => absurd (HF0.out _ hf) (by omega)) (fun hl => by simp at hl; omega))
  have HRG1 := Lib.hid (HRG0.out.step h2 hrf)
  have KA := Lib.hid (h2.heap K0.out (fun hf => by have := HF0.out _ hf; omega))
  clear K0
  have KB := Lib.hid (h2.heap K1.out (fun hf => by have := HF0.out _ hf; omega))
  clear K1
  have HB := Lib.hid (And.intro h1 ((MemStep.of_below HB0.out).trans h2))
  clear HRG0
  have HOV := Lib.hid h3
  have HVF := Lib.hid h4
  clear h3 h4
  clear HB0 h1 h2
  have c1 := (cell_of_row _ _ 7 _ _ _ KA.out).trans (rfl : _ = some (.int .u32 to_ : Value))
  have f2 := fun j => frozen_of_row _ _ j _ _ KA.out
  go_wp2_with fail
  refine (HPL.out _ HRG1.out).mono ?_
  rintro e w2 ⟨rfl, hb⟩
  clear c1 f2
  have HOV2 := Lib.hid (ownsRow_keep HOV.out (fun b h => hb.block b (ownsRow_lt HOV.out h).2))
  clear HOV
  have K3 := Lib.hid (keepB KA.out hb)
  clear KA
  have K4 := Lib.hid (keepB KB.out hb)
  clear KB
  have HB5 := Lib.hid (And.intro (HB.out.1.below hb) (HB.out.2.below hb))
  clear HB
  clear hb HRG1
  obtain ⟨ao, cv, rfl, hcv, hln, hba⟩ := BytesAt.of_owns HOV2.out HVF.out
  have HBA := Lib.hid hba
  have HLN := Lib.hid hln
  clear hba hln HOV2 HVF
  have HW := Lib.hid (mem_Write_ok HB5.out.1 x ao l cv hx (by rw [HLN.out]; exact hw) HBA.out (by rw [HLN.out]; exact hcv))
  rw [HLN.out] at HW
  clear hw
  go_wp2_with fail
  refine (HW.out).mono ?_
  rintro e w3 ⟨F2, rfl, h1, h2⟩
  have HNA2 : Hid (¬ F2 w.heap.size) := Lib.hid (h2.off (lt_heap K3.out) HNA.out)
  have HNB2 : Hid (¬ F2 (w.heap.size + 1)) := Lib.hid (h2.off (lt_heap K4.out) HNB.out)
  have KA3 := Lib.hid (h2.heap K3.out HNA.out)
  clear K3
  have KB3 := Lib.hid (h2.heap K4.out HNB.out)
  clear K4
  have HB3 := Lib.hid (And.intro h1 (HB5.out.2.trans h2))
  clear HB5 h1 h2
  have c6 := (cell_of_row _ _ 4 _ _ _ KA3.out).trans (rfl : _ = some (.int .u32 moved : Value))
  have c7 := (cell_of_row _ _ 6 _ _ _ KA3.out).trans (rfl : _ = some (.int .u32 from_ : Value))
  have c8 := (cell_of_row _ _ 7 _ _ _ KA3.out).trans (rfl : _ = some (.int .u32 to_ : Value))
  have c9 := (cell_of_row _ _ 8 _ _ _ KA3.out).trans (rfl : _ = some (.int .u32 left : Value))
  have f10 := fun j => frozen_of_row _ _ j _ _ KA3.out
  have hkk : ((((((((w3).setCell ⟨w.heap.size, 6, none⟩ (.int .u32 (((from_ : Int) + left) % 4294967296)))).setCell ⟨w.heap.size, 7, none⟩ (.int .u32 (((to_ : Int) + left) % 4294967296)))).setCell ⟨w.heap.size, 8, none⟩ (.int .u32 0))).setCell ⟨w.heap.size, 4, none⟩ (.int .u32 (((moved : Int) + left) % 4294967296))).heap[w.heap.size]? = some (.cells #[.int .u32 code, .int .u32 head, .int .u32 at_, .int .u32 steps, .int .u32 (((moved : Int) + left) % 4294967296), .bool have_, .int .u32 (((from_ : Int) + left) % 4294967296), .int .u32 (((to_ : Int) + left) % 4294967296), .int .u32 0, .int .u32 next, .bool asks] 33 (0, 0)) := (set_cells (set_cells (set_cells (set_cells (KA3.out))))).trans rfl
  have hx12 := Lib.hid (show KX (fun k => k = w.heap.size) w3 ((((((((w3).setCell ⟨w.heap.size, 6, none⟩ (.int .u32 (((from_ : Int) + left) % 4294967296)))).setCell ⟨w.heap.size, 7, none⟩ (.int .u32 (((to_ : Int) + left) % 4294967296)))).setCell ⟨w.heap.size, 8, none⟩ (.int .u32 0))).setCell ⟨w.heap.size, 4, none⟩ (.int .u32 (((moved : Int) + left) % 4294967296))) from ((((KX.refl (fun k => k = w.heap.size) w3).setCell (p := ⟨w.heap.size, 6, none⟩) (.inl rfl) _).setCell (p := ⟨w.heap.size, 7, none⟩) (.inl rfl) _).setCell (p := ⟨w.heap.size, 8, none⟩) (.inl rfl) _).setCell (p := ⟨w.heap.size, 4, none⟩) (.inl rfl) _)
  go_upto_region 7 with fail
  generalize ((((((((w3).setCell ⟨w.heap.size, 6, none⟩ (.int .u32 (((from_ : Int) + left) % 4294967296)))).setCell ⟨w.heap.size, 7, none⟩ (.int .u32 (((to_ : Int) + left) % 4294967296)))).setCell ⟨w.heap.size, 8, none⟩ (.int .u32 0))).setCell ⟨w.heap.size, 4, none⟩ (.int .u32 (((moved : Int) + left) % 4294967296))) = w11 at hkk hx12 ⊢
  clear c6 c7 c8 c9 f10
  have K13 := Lib.hid (hx12.out.heap KB3.out (by omega))
  clear KB3
  have K14 := Lib.hid hkk
  clear hkk KA3
  have HB15 := Lib.hid (And.intro (HB3.out.1.kx hx12.out (fun k _ hf e => by subst e; exact HNA2.out hf)) (HB3.out.2.own hx12.out (by omega)))
  clear HB3 hx12
  have c16 := (cell_of_row _ _ 2 _ _ _ K14.out).trans (rfl : _ = some (.int .u32 at_ : Value))
  have c17 := (cell_of_row _ _ 8 _ _ _ K14.out).trans (rfl : _ = some (.int .u32 0 : Value))
  have c18 := (cell_of_row _ _ 9 _ _ _ K14.out).trans (rfl : _ = some (.int .u32 next : Value))
  have f19 := fun j => frozen_of_row _ _ j _ _ K14.out
  have hnx2 : ((next : Int) == 0) = true := by have := HNX.out; simp; omega
  have HE := Lib.hid (fun W => dma_ended ⟨code, head, at_, steps, (moved + left) % 4294967296, have_, (from_ + left) % 4294967296, (to_ + left) % 4294967296, 0, next, asks⟩ 2 W)
  simp only [Dst.c, Dst.without, Dst.ended] at HE
  rw [show (((moved + left) % 4294967296 : Nat) : Int) = ((moved : Int) + (left : Int)) % 4294967296 by omega, show (((from_ + left) % 4294967296 : Nat) : Int) = ((from_ : Int) + (left : Int)) % 4294967296 by omega, show (((to_ + left) % 4294967296 : Nat) : Int) = ((to_ : Int) + (left : Int)) % 4294967296 by omega] at HE
  go_wp2_with (first | go_skip | (refine wpList_load_row rfl 33 _ rfl (w.heap.size) rfl 33 #[.int .u32 code, .int .u32 head, .int .u32 at_, .int .u32 steps, .int .u32 (((moved : Int) + left) % 4294967296), .bool have_, .int .u32 (((from_ : Int) + left) % 4294967296), .int .u32 (((to_ : Int) + left) % 4294967296), .int .u32 0, .int .u32 next, .bool asks] (0, 0) _ K14.out Tryd.underlying33 rfl (by kernel_rfl) ?_))
  refine (HE.out _).mono ?_
  rintro e w9 ⟨rfl, hb⟩
  clear c16 c17 c18 f19
  have K20 := Lib.hid (keepB K14.out hb)
  clear K14
  have K21 := Lib.hid (keepB K13.out hb)
  clear K13
  have HB22 := Lib.hid (And.intro (HB15.out.1.below hb) (HB15.out.2.below hb))
  clear HB15
  clear hb
  have HO23 := Lib.hid (show (#[.int .u32 2, .int .u32 head, .int .u32 at_, .int .u32 steps, .int .u32 (((moved : Int) + left) % 4294967296), .bool false, .int .u32 0, .int .u32 0, .int .u32 0, .int .u32 0, .bool true] : Array Value).all (·.oneCell') = true by simp [Value.oneCell'])
  go_wp2_with (refine wpList_store_to rfl 33 _ _ rfl (w.heap.size + 1) #[.int .u32 2, .int .u32 head, .int .u32 at_, .int .u32 steps, .int .u32 (((moved : Int) + left) % 4294967296), .bool false, .int .u32 0, .int .u32 0, .int .u32 0, .int .u32 0, .bool true] rfl rfl 33 #[.int .u32 0, .int .u32 0, .int .u32 0, .int .u32 0, .int .u32 0, .bool false, .int .u32 0, .int .u32 0, .int .u32 0, .int .u32 0, .bool false] K21.out (by kernel_rfl) rfl HO23.out ?_)
  intro w24 hx25 hkk
  have K26 := Lib.hid (hx25.out.heap K20.out (by omega))
  clear K20
  have K27 := Lib.hid hkk
  clear hkk K21
  have HB28 := Lib.hid (And.intro (HB22.out.1.kx hx25.out (fun k _ hf e => by subst e; exact HNB2.out hf)) (HB22.out.2.own hx25.out (by omega)))
  clear HB22 hx25
  go_wp2_with fail
  exact bodyPost_ret (v := .agg #[.int .u32 2, .int .u32 head, .int .u32 at_, .int .u32 steps, .int .u32 (((moved : Int) + left) % 4294967296), .bool false, .int .u32 0, .int .u32 0, .int .u32 0, .int .u32 0, .bool true]) (results_cell_row Tryd.results52 _ _ (w.heap.size + 1) 33 #[.int .u32 2, .int .u32 head, .int .u32 at_, .int .u32 steps, .int .u32 (((moved : Int) + left) % 4294967296), .bool false, .int .u32 0, .int .u32 0, .int .u32 0, .int .u32 0, .bool true] (0, 0) _ rfl K27.out Tryd.underlying33 rfl (by kernel_rfl)) rfl ⟨rfl, F2, HB28.out.1, HB28.out.2⟩

set_option maxRecDepth 100000 in
set_option maxHeartbeats 4000000 in
theorem dma_move_chain_s (head at_ steps moved : Nat) (have_ : Bool) (from_ to_ left next code : Nat) (asks : Bool) {g : Nat} {m : Mm} {F : Nat → Prop} {w : World} (HF0 : Hid (∀ k, F k → k < w.heap.size)) (hl : left ≤ 64) (hf : from_ < 4294967296) (ht : to_ < 4294967296) (hm : moved < 4294967296) (hll : left < 4294967296) (l : List UInt8)
    (HRD : Hid (∀ W, Below w.heap.size w W → Calls Tryd.prog 87 #[.pointer (some ⟨g, 0, none⟩), .int .u32 (from_ : Nat), .int .u32 left] W fun e w' => ∃ v F1, e = .returned (.tuple #[v, .bool true]) ∧ RamIs w' g m F1 ∧ MemStep F F1 W w' ∧ w'.ownsRow W.heap.size 5 1 v left (l.map B8) ∧ (∀ b, v.ownBlock = some b → ¬ F1 b)))
    (hr : RegAt w) (hrf : ¬ F 1)
    (x : Nat) (hx : x < 4294967296) (HPL : Hid (∀ W, RegAt W → Calls Tryd.prog 88 #[.int .u32 (to_ : Nat)] W fun e w' => e = .returned (.tuple #[.int .u32 (x : Nat), .bool true]) ∧ Below W.heap.size W w')) (hw : x + left ≤ 4096 * m.n) (hnx : next ≠ 0) :
    Calls Tryd.prog 52 #[.agg #[.int .u32 code, .int .u32 head, .int .u32 at_, .int .u32 steps, .int .u32 moved, .bool have_, .int .u32 from_, .int .u32 to_, .int .u32 left, .int .u32 next, .bool asks], .pointer (some ⟨g, 0, none⟩)] w fun e w' => e = .returned (.agg #[.int .u32 code, .int .u32 head, .int .u32 next, .int .u32 steps, .int .u32 (((moved : Int) + left) % 4294967296), .bool false, .int .u32 0, .int .u32 0, .int .u32 0, .int .u32 0, .bool asks]) ∧ ∃ F', RamIs w' g (m.write x l) F' ∧ MemStep F F' w w' := by
  have hli : ¬ (64 : Int) < (left : Int) := by omega
  have HNX := Lib.hid hnx
  clear hnx
  obtain ⟨k0, k1, hb0⟩ := two_new w (.cells #[.int .u32 code, .int .u32 head, .int .u32 at_, .int .u32 steps, .int .u32 moved, .bool have_, .int .u32 from_, .int .u32 to_, .int .u32 left, .int .u32 next, .bool asks] 33) (.cells #[.int .u32 0, .int .u32 0, .int .u32 0, .int .u32 0, .int .u32 0, .bool false, .int .u32 0, .int .u32 0, .int .u32 0, .int .u32 0, .bool false] 33)
  have K0 := Lib.hid k0
  have K1 := Lib.hid k1
  have HB0 := Lib.hid hb0
  clear k0 k1 hb0
  have HRG0 := Lib.hid (hr.below HB0.out)
  clear hr
  go_enter Tryd.func52, Tryd.ntmps52
  go_wp2_with fail
  refine (HRD.out _ HB0.out).mono ?_
  rintro e w1 ⟨v, F1, rfl, h1, h2, h3, h4⟩
  have HNA : Hid (¬ F1 w.heap.size) := Lib.hid (fun hf => (h2.gr _ hf).elim (fun hf => absurd (HF0.out _ hf) (Nat.lt_irrefl _)) (fun hl => by simp at hl; omega))
  have HNB : Hid (¬ F1 (w.heap.size + 1)) := Lib.hid (fun hf => (h2.gr _ hf).elim (fun hf => absurd (HF0.out _ hf) (by omega)) (fun hl => by simp at hl; omega))
  have HRG1 := Lib.hid (HRG0.out.step h2 hrf)
  have KA := Lib.hid (h2.heap K0.out (fun hf => by have := HF0.out _ hf; omega))
  clear K0
  have KB := Lib.hid (h2.heap K1.out (fun hf => by have := HF0.out _ hf; omega))
  clear K1
  have HB := Lib.hid (And.intro h1 ((MemStep.of_below HB0.out).trans h2))
  clear HRG0
  have HOV := Lib.hid h3
  have HVF := Lib.hid h4
  clear h3 h4
  clear HB0 h1 h2
  have c1 := (cell_of_row _ _ 7 _ _ _ KA.out).trans (rfl : _ = some (.int .u32 to_ : Value))
  have f2 := fun j => frozen_of_row _ _ j _ _ KA.out
  go_wp2_with fail
  refine (HPL.out _ HRG1.out).mono ?_
  rintro e w2 ⟨rfl, hb⟩
  clear c1 f2
  have HOV2 := Lib.hid (ownsRow_keep HOV.out (fun b h => hb.block b (ownsRow_lt HOV.out h).2))
  clear HOV
  have K3 := Lib.hid (keepB KA.out hb)
  clear KA
  have K4 := Lib.hid (keepB KB.out hb)
  clear KB
  have HB5 := Lib.hid (And.intro (HB.out.1.below hb) (HB.out.2.below hb))
  clear HB
  clear hb HRG1
  obtain ⟨ao, cv, rfl, hcv, hln, hba⟩ := BytesAt.of_owns HOV2.out HVF.out
  have HBA := Lib.hid hba
  have HLN := Lib.hid hln
  clear hba hln HOV2 HVF
  have HW := Lib.hid (mem_Write_ok HB5.out.1 x ao l cv hx (by rw [HLN.out]; exact hw) HBA.out (by rw [HLN.out]; exact hcv))
  rw [HLN.out] at HW
  clear hw
  go_wp2_with fail
  refine (HW.out).mono ?_
  rintro e w3 ⟨F2, rfl, h1, h2⟩
  have HNA2 : Hid (¬ F2 w.heap.size) := Lib.hid (h2.off (lt_heap K3.out) HNA.out)
  have HNB2 : Hid (¬ F2 (w.heap.size + 1)) := Lib.hid (h2.off (lt_heap K4.out) HNB.out)
  have KA3 := Lib.hid (h2.heap K3.out HNA.out)
  clear K3
  have KB3 := Lib.hid (h2.heap K4.out HNB.out)
  clear K4
  have HB3 := Lib.hid (And.intro h1 (HB5.out.2.trans h2))
  clear HB5 h1 h2
  have c6 := (cell_of_row _ _ 4 _ _ _ KA3.out).trans (rfl : _ = some (.int .u32 moved : Value))
  have c7 := (cell_of_row _ _ 6 _ _ _ KA3.out).trans (rfl : _ = some (.int .u32 from_ : Value))
  have c8 := (cell_of_row _ _ 7 _ _ _ KA3.out).trans (rfl : _ = some (.int .u32 to_ : Value))
  have c9 := (cell_of_row _ _ 8 _ _ _ KA3.out).trans (rfl : _ = some (.int .u32 left : Value))
  have f10 := fun j => frozen_of_row _ _ j _ _ KA3.out
  have hkk : ((((((((w3).setCell ⟨w.heap.size, 6, none⟩ (.int .u32 (((from_ : Int) + left) % 4294967296)))).setCell ⟨w.heap.size, 7, none⟩ (.int .u32 (((to_ : Int) + left) % 4294967296)))).setCell ⟨w.heap.size, 8, none⟩ (.int .u32 0))).setCell ⟨w.heap.size, 4, none⟩ (.int .u32 (((moved : Int) + left) % 4294967296))).heap[w.heap.size]? = some (.cells #[.int .u32 code, .int .u32 head, .int .u32 at_, .int .u32 steps, .int .u32 (((moved : Int) + left) % 4294967296), .bool have_, .int .u32 (((from_ : Int) + left) % 4294967296), .int .u32 (((to_ : Int) + left) % 4294967296), .int .u32 0, .int .u32 next, .bool asks] 33 (0, 0)) := (set_cells (set_cells (set_cells (set_cells (KA3.out))))).trans rfl
  have hx12 := Lib.hid (show KX (fun k => k = w.heap.size) w3 ((((((((w3).setCell ⟨w.heap.size, 6, none⟩ (.int .u32 (((from_ : Int) + left) % 4294967296)))).setCell ⟨w.heap.size, 7, none⟩ (.int .u32 (((to_ : Int) + left) % 4294967296)))).setCell ⟨w.heap.size, 8, none⟩ (.int .u32 0))).setCell ⟨w.heap.size, 4, none⟩ (.int .u32 (((moved : Int) + left) % 4294967296))) from ((((KX.refl (fun k => k = w.heap.size) w3).setCell (p := ⟨w.heap.size, 6, none⟩) (.inl rfl) _).setCell (p := ⟨w.heap.size, 7, none⟩) (.inl rfl) _).setCell (p := ⟨w.heap.size, 8, none⟩) (.inl rfl) _).setCell (p := ⟨w.heap.size, 4, none⟩) (.inl rfl) _)
  go_upto_region 7 with fail
  generalize ((((((((w3).setCell ⟨w.heap.size, 6, none⟩ (.int .u32 (((from_ : Int) + left) % 4294967296)))).setCell ⟨w.heap.size, 7, none⟩ (.int .u32 (((to_ : Int) + left) % 4294967296)))).setCell ⟨w.heap.size, 8, none⟩ (.int .u32 0))).setCell ⟨w.heap.size, 4, none⟩ (.int .u32 (((moved : Int) + left) % 4294967296))) = w11 at hkk hx12 ⊢
  clear c6 c7 c8 c9 f10
  have K13 := Lib.hid (hx12.out.heap KB3.out (by omega))
  clear KB3
  have K14 := Lib.hid hkk
  clear hkk KA3
  have HB15 := Lib.hid (And.intro (HB3.out.1.kx hx12.out (fun k _ hf e => by subst e; exact HNA2.out hf)) (HB3.out.2.own hx12.out (by omega)))
  clear HB3 hx12
  have c16 := (cell_of_row _ _ 2 _ _ _ K14.out).trans (rfl : _ = some (.int .u32 at_ : Value))
  have c17 := (cell_of_row _ _ 8 _ _ _ K14.out).trans (rfl : _ = some (.int .u32 0 : Value))
  have c18 := (cell_of_row _ _ 9 _ _ _ K14.out).trans (rfl : _ = some (.int .u32 next : Value))
  have f19 := fun j => frozen_of_row _ _ j _ _ K14.out
  have hnx2 : ((next : Int) == 0) = false := by have := HNX.out; simp; omega
  have hkk : ((w11).setCell ⟨w.heap.size, 2, none⟩ (.int .u32 next)).heap[w.heap.size]? = some (.cells #[.int .u32 code, .int .u32 head, .int .u32 next, .int .u32 steps, .int .u32 (((moved : Int) + left) % 4294967296), .bool have_, .int .u32 (((from_ : Int) + left) % 4294967296), .int .u32 (((to_ : Int) + left) % 4294967296), .int .u32 0, .int .u32 next, .bool asks] 33 (0, 0)) := (set_cells (K14.out)).trans rfl
  have hx21 := Lib.hid (show KX (fun k => k = w.heap.size) w11 ((w11).setCell ⟨w.heap.size, 2, none⟩ (.int .u32 next)) from (KX.refl (fun k => k = w.heap.size) w11).setCell (p := ⟨w.heap.size, 2, none⟩) (.inl rfl) _)
  go_upto_region 12 with fail
  generalize ((w11).setCell ⟨w.heap.size, 2, none⟩ (.int .u32 next)) = w20 at hkk hx21 ⊢
  clear c16 c17 c18 f19
  have K22 := Lib.hid (hx21.out.heap K13.out (by omega))
  clear K13
  have K23 := Lib.hid hkk
  clear hkk K14
  have HB24 := Lib.hid (And.intro (HB15.out.1.kx hx21.out (fun k _ hf e => by subst e; exact HNA2.out hf)) (HB15.out.2.own hx21.out (by omega)))
  clear HB15 hx21
  have HE := Lib.hid (fun W => dma_without ⟨code, head, next, steps, (moved + left) % 4294967296, have_, (from_ + left) % 4294967296, (to_ + left) % 4294967296, 0, next, asks⟩ W)
  simp only [Dst.c, Dst.without] at HE
  rw [show (((moved + left) % 4294967296 : Nat) : Int) = ((moved : Int) + (left : Int)) % 4294967296 by omega, show (((from_ + left) % 4294967296 : Nat) : Int) = ((from_ : Int) + (left : Int)) % 4294967296 by omega, show (((to_ + left) % 4294967296 : Nat) : Int) = ((to_ : Int) + (left : Int)) % 4294967296 by omega] at HE
  go_wp2_with (first | go_skip | (refine wpList_load_row rfl 33 _ rfl (w.heap.size) rfl 33 #[.int .u32 code, .int .u32 head, .int .u32 next, .int .u32 steps, .int .u32 (((moved : Int) + left) % 4294967296), .bool have_, .int .u32 (((from_ : Int) + left) % 4294967296), .int .u32 (((to_ : Int) + left) % 4294967296), .int .u32 0, .int .u32 next, .bool asks] (0, 0) _ K23.out Tryd.underlying33 rfl (by kernel_rfl) ?_))
  refine (HE.out _).mono ?_
  rintro e w9 ⟨rfl, hb⟩
  have K25 := Lib.hid (keepB K23.out hb)
  clear K23
  have K26 := Lib.hid (keepB K22.out hb)
  clear K22
  have HB27 := Lib.hid (And.intro (HB24.out.1.below hb) (HB24.out.2.below hb))
  clear HB24
  clear hb
  have HO28 := Lib.hid (show (#[.int .u32 code, .int .u32 head, .int .u32 next, .int .u32 steps, .int .u32 (((moved : Int) + left) % 4294967296), .bool false, .int .u32 0, .int .u32 0, .int .u32 0, .int .u32 0, .bool asks] : Array Value).all (·.oneCell') = true by simp [Value.oneCell'])
  go_wp2_with (refine wpList_store_to rfl 33 _ _ rfl (w.heap.size + 1) #[.int .u32 code, .int .u32 head, .int .u32 next, .int .u32 steps, .int .u32 (((moved : Int) + left) % 4294967296), .bool false, .int .u32 0, .int .u32 0, .int .u32 0, .int .u32 0, .bool asks] rfl rfl 33 #[.int .u32 0, .int .u32 0, .int .u32 0, .int .u32 0, .int .u32 0, .bool false, .int .u32 0, .int .u32 0, .int .u32 0, .int .u32 0, .bool false] K26.out (by kernel_rfl) rfl HO28.out ?_)
  intro w29 hx30 hkk
  have K31 := Lib.hid (hx30.out.heap K25.out (by omega))
  clear K25
  have K32 := Lib.hid hkk
  clear hkk K26
  have HB33 := Lib.hid (And.intro (HB27.out.1.kx hx30.out (fun k _ hf e => by subst e; exact HNB2.out hf)) (HB27.out.2.own hx30.out (by omega)))
  clear HB27 hx30
  go_wp2_with fail
  exact bodyPost_ret (v := .agg #[.int .u32 code, .int .u32 head, .int .u32 next, .int .u32 steps, .int .u32 (((moved : Int) + left) % 4294967296), .bool false, .int .u32 0, .int .u32 0, .int .u32 0, .int .u32 0, .bool asks]) (results_cell_row Tryd.results52 _ _ (w.heap.size + 1) 33 #[.int .u32 code, .int .u32 head, .int .u32 next, .int .u32 steps, .int .u32 (((moved : Int) + left) % 4294967296), .bool false, .int .u32 0, .int .u32 0, .int .u32 0, .int .u32 0, .bool asks] (0, 0) _ rfl K32.out Tryd.underlying33 rfl (by kernel_rfl)) rfl ⟨rfl, F2, HB33.out.1, HB33.out.2⟩

end Go.Proofs.YtcakcfeipfjmpaaDoor

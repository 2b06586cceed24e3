/-
slices.Clone of a slice of int and of a page, walked.
No condition.
-/
import Derived.Test.YtcakcfeipfjmpaaDoorRowAt
import Derived.Test.YtcakcfeipfjmpaaDoorMemNew
import Derived.ArgAppend
namespace Go.Proofs.YtcakcfeipfjmpaaDoor
open Go.RowKit

set_option maxRecDepth 100000 in
theorem cloneI_not_nil (a : Addr) (n cap : Nat) (w : World) : (binOp BinOp.eql 50 (.slice (some a) n cap) (.slice none 0 0)).run Tryd.prog w = .ok (.bool false) w := by
  have h1 : (Op.equalIn (9999 + 1) 50 (.slice (some a) n cap) (.slice none 0 0)).run Tryd.prog w = .ok false w := by
    generalize 9999 = d
    simp [Op.equalIn, go_sem]
  have h2 : (Op.equalIn Op.maxDepth 50 (.slice (some a) n cap) (.slice none 0 0)).run Tryd.prog w = .ok false w := h1
  simp [binOp, Op.equal, go_sem, h2]
set_option maxRecDepth 100000 in
theorem cloneI_is_nil (w : World) : (binOp BinOp.eql 50 (.slice none 0 0) (.slice none 0 0)).run Tryd.prog w = .ok (.bool true) w := by
  have h1 : (Op.equalIn (9999 + 1) 50 (.slice none 0 0) (.slice none 0 0)).run Tryd.prog w = .ok true w := by
    generalize 9999 = d
    simp [Op.equalIn, go_sem]
  have h2 : (Op.equalIn Op.maxDepth 50 (.slice none 0 0) (.slice none 0 0)).run Tryd.prog w = .ok true w := h1
  simp [binOp, Op.equal, go_sem, h2]
set_option maxRecDepth 100000 in
set_option maxHeartbeats 1000000 in
theorem cloneI_none (w : World) : Calls Tryd.prog 62 #[.slice none 0 0] w fun e w' => e = .returned (.slice none 0 0) ∧ w = w' := by
  have hnil := cloneI_is_nil
  go_enter Tryd.func62, Tryd.ntmps62
  go_wp2_with fail
  go_ret
  exact ⟨rfl, rfl⟩
set_option maxRecDepth 100000 in
set_option maxHeartbeats 1000000 in
theorem cloneI_row {w : World} {b n cap : Nat} {h : Nat → Value} (r : Row w b 3 n h) (h0 : 0 < n) (hl : n ≤ 16384) (h1 : ∀ i, (h i).oneCell' = true) :
    Calls Tryd.prog 62 #[.slice (some ⟨b, 0, none⟩) n cap] w fun e w' => ∃ g cap', e = .returned (.slice (some ⟨g, 0, none⟩) n cap') ∧ n ≤ cap' ∧ w.heap.size ≤ g ∧ Row w' g 3 n h ∧ (∃ C, w'.heap[g]? = some (.cells C 3 (0, 0)) ∧ C.size = cap') ∧ Below w.heap.size w w' := by
  obtain ⟨i, hi1, hi2, hi3, hi4⟩ := info_of info_int
  have HB0 := Lib.hid ((Below.refl w.heap.size w).alloc (Nat.le_refl _) (.cells #[] 3))
  have HR := Lib.hid (r.below HB0.out)
  have HSZ : Hid ((w.alloc (.cells #[] 3)).heap.size = w.heap.size + 1) := Lib.hid (by simp)
  have HO : Hid (∀ u ∈ rowL h n, u.oneCell' = true) := Lib.hid (fun u hu => by
    obtain ⟨x, _, rfl⟩ := List.mem_map.1 hu
    exact h1 x)
  clear r h1
  have hnil := fun W => cloneI_not_nil ⟨b, 0, none⟩ n cap W
  go_enter Tryd.func62, Tryd.ntmps62
  go_upto_region 3 with fail
  clear hnil
  go_wp2_with (refine wpList_append_grows (w.alloc (.cells #[] 3)) rfl _ _ 50 rfl 3 i _ 1 8 Tryd.underlying50 hi1 hi2 hi3 hi4 rfl (by omega) (some ⟨w.heap.size, 0, none⟩) 0 0 [] rfl (fun h => by cases h) rfl (fun _ _ j u hj => by simp at hj) ⟨b, 0, none⟩ n cap (rowL h n) rfl (by rw [rowL_length, Nat.mul_one]) HR.out.news HO.out (by omega) (by simp only [maxLen]; omega) (by omega) ?hK)
  intro v' w' hown hgr
  obtain ⟨g, cap', hv, hcap', hg, hrow⟩ := Row.of_owns hown h0 (h := h) (fun i hi => by simpa using rowL_get h n i hi)
  have HCC : Hid (∃ C, w'.heap[g]? = some (.cells C 3 (0, 0)) ∧ C.size = cap') := Lib.hid (by
    rcases hown.2 with ⟨_, h0'⟩ | ⟨g', cap2, cur, h1, h2, h3, h4, h5, h6, _⟩
    · exact absurd h0' (by omega)
    · rw [hv] at h1
      obtain ⟨rfl, rfl⟩ : g = g' ∧ cap' = cap2 := by simpa using h1
      exact ⟨cur, h3, by omega⟩)
  subst hv
  have HG : Hid (w.heap.size ≤ g) := Lib.hid (by have := HSZ.out; omega)
  have HROW := Lib.hid hrow
  have HB4 := Lib.hid (Below.grown HB0.out hgr (by simp) (by simp))
  clear hown hgr hi1 hi2 hi3 hi4 hrow hg
  go_wp2_with fail
  go_ret
  exact ⟨g, cap', rfl, hcap', HG.out, HROW.out, HCC.out, HB4.out⟩

set_option maxRecDepth 100000 in
theorem cloneP_not_nil (a : Addr) (n cap : Nat) (w : World) : (binOp BinOp.eql 107 (.slice (some a) n cap) (.slice none 0 0)).run Tryd.prog w = .ok (.bool false) w := by
  have h1 : (Op.equalIn (9999 + 1) 107 (.slice (some a) n cap) (.slice none 0 0)).run Tryd.prog w = .ok false w := by
    generalize 9999 = d
    simp [Op.equalIn, go_sem]
  have h2 : (Op.equalIn Op.maxDepth 107 (.slice (some a) n cap) (.slice none 0 0)).run Tryd.prog w = .ok false w := h1
  simp [binOp, Op.equal, go_sem, h2]
set_option maxRecDepth 100000 in
theorem cloneP_is_nil (w : World) : (binOp BinOp.eql 107 (.slice none 0 0) (.slice none 0 0)).run Tryd.prog w = .ok (.bool true) w := by
  have h1 : (Op.equalIn (9999 + 1) 107 (.slice none 0 0) (.slice none 0 0)).run Tryd.prog w = .ok true w := by
    generalize 9999 = d
    simp [Op.equalIn, go_sem]
  have h2 : (Op.equalIn Op.maxDepth 107 (.slice none 0 0) (.slice none 0 0)).run Tryd.prog w = .ok true w := h1
  simp [binOp, Op.equal, go_sem, h2]
set_option maxRecDepth 100000 in
set_option maxHeartbeats 1000000 in
theorem cloneP_none (w : World) : Calls Tryd.prog 63 #[.slice none 0 0] w fun e w' => e = .returned (.slice none 0 0) ∧ w = w' := by
  have hnil := cloneP_is_nil
  go_enter Tryd.func63, Tryd.ntmps63
  go_wp2_with fail
  go_ret
  exact ⟨rfl, rfl⟩
set_option maxRecDepth 100000 in
set_option maxHeartbeats 1000000 in
theorem cloneP_row {w : World} {b n cap : Nat} {h : Nat → Value} (r : Row w b 5 n h) (h0 : 0 < n) (hl : n ≤ 16384) (h1 : ∀ i, (h i).oneCell' = true) :
    Calls Tryd.prog 63 #[.slice (some ⟨b, 0, none⟩) n cap] w fun e w' => ∃ g cap', e = .returned (.slice (some ⟨g, 0, none⟩) n cap') ∧ n ≤ cap' ∧ w.heap.size ≤ g ∧ Row w' g 5 n h ∧ (∃ C, w'.heap[g]? = some (.cells C 5 (0, 0)) ∧ C.size = cap') ∧ Below w.heap.size w w' := by
  obtain ⟨i, hi1, hi2, hi3, hi4⟩ := info_of info_u8
  have HB0 := Lib.hid ((Below.refl w.heap.size w).alloc (Nat.le_refl _) (.cells #[] 5))
  have HR := Lib.hid (r.below HB0.out)
  have HSZ : Hid ((w.alloc (.cells #[] 5)).heap.size = w.heap.size + 1) := Lib.hid (by simp)
  have HO : Hid (∀ u ∈ rowL h n, u.oneCell' = true) := Lib.hid (fun u hu => by
    obtain ⟨x, _, rfl⟩ := List.mem_map.1 hu
    exact h1 x)
  clear r h1
  have hnil := fun W => cloneP_not_nil ⟨b, 0, none⟩ n cap W
  go_enter Tryd.func63, Tryd.ntmps63
  go_upto_region 3 with fail
  clear hnil
  go_wp2_with (refine wpList_append_grows (w.alloc (.cells #[] 5)) rfl _ _ 107 rfl 5 i _ 1 1 Tryd.underlying107 hi1 hi2 hi3 hi4 rfl (by omega) (some ⟨w.heap.size, 0, none⟩) 0 0 [] rfl (fun h => by cases h) rfl (fun _ _ j u hj => by simp at hj) ⟨b, 0, none⟩ n cap (rowL h n) rfl (by rw [rowL_length, Nat.mul_one]) HR.out.news HO.out (by omega) (by simp only [maxLen]; omega) (by omega) ?hK)
  intro v' w' hown hgr
  obtain ⟨g, cap', hv, hcap', hg, hrow⟩ := Row.of_owns hown h0 (h := h) (fun i hi => by simpa using rowL_get h n i hi)
  have HCC : Hid (∃ C, w'.heap[g]? = some (.cells C 5 (0, 0)) ∧ C.size = cap') := Lib.hid (by
    rcases hown.2 with ⟨_, h0'⟩ | ⟨g', cap2, cur, h1, h2, h3, h4, h5, h6, _⟩
    · exact absurd h0' (by omega)
    · rw [hv] at h1
      obtain ⟨rfl, rfl⟩ : g = g' ∧ cap' = cap2 := by simpa using h1
      exact ⟨cur, h3, by omega⟩)
  subst hv
  have HG : Hid (w.heap.size ≤ g) := Lib.hid (by have := HSZ.out; omega)
  have HROW := Lib.hid hrow
  have HB4 := Lib.hid (Below.grown HB0.out hgr (by simp) (by simp))
  clear hown hgr hi1 hi2 hi3 hi4 hrow hg
  go_wp2_with fail
  go_ret
  exact ⟨g, cap', rfl, hcap', HG.out, HROW.out, HCC.out, HB4.out⟩
end Go.Proofs.YtcakcfeipfjmpaaDoor

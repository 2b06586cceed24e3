/-
slices.Clone of a slice of writes, walked.
No condition.
-/
import Derived.Test.YtcmbnkmbaghkdaaDoorBusPush2
namespace Go.Proofs.YtcmbnkmbaghkdaaDoor
open Go.RowKit

theorem posts_tail {w : World} {b o : Nat} {p : Pst} {l : List Pst} (h : PostsAt w (some ⟨b, o, none⟩) (p :: l)) : PostsAt w (some ⟨b, o + 4, none⟩) l := fun k q hk => by
  obtain ⟨b', o', h1, h2, c0, c1, c2, c3⟩ := h (k + 1) q (by simpa using hk)
  obtain ⟨rfl, rfl⟩ : b = b' ∧ o = o' := by simpa using h1
  have e : o + (k + 1) * 4 = o + 4 + k * 4 := by omega
  rw [e] at c0 c1 c2 c3
  exact ⟨b, o + 4, rfl, h2, c0, c1, c2, c3⟩
theorem posts_nil (w : World) (ao : Option Addr) : PostsAt w ao [] := fun k p h => by simp at h

set_option maxRecDepth 100000 in
theorem slice_not_nil (a : Addr) (n cap : Nat) (w : World) : (binOp BinOp.eql 29 (.slice (some a) n cap) (.slice none 0 0)).run Tryd.prog w = .ok (.bool false) w := by
  have h1 : (Op.equalIn (9999 + 1) 29 (.slice (some a) n cap) (.slice none 0 0)).run Tryd.prog w = .ok false w := by
    generalize 9999 = d
    simp [Op.equalIn, go_sem]
  have h2 : (Op.equalIn Op.maxDepth 29 (.slice (some a) n cap) (.slice none 0 0)).run Tryd.prog w = .ok false w := h1
  simp [binOp, Op.equal, go_sem, h2]

set_option maxRecDepth 100000 in
set_option maxHeartbeats 1000000 in
theorem clone_some (b o : Nat) (l : List Pst) (cap : Nat) (w : World) (hp : PostsAt w (some ⟨b, o, none⟩) l) (h0 : 0 < l.length) (hl : l.length ≤ 1000) :
    Calls Tryd.prog 34 #[.slice (some ⟨b, o, none⟩) l.length cap] w fun e w' => (∃ g cap', e = .returned (.slice (some ⟨g, 0, none⟩) l.length cap') ∧ w.heap.size ≤ g ∧ l.length ≤ cap' ∧ PostsAt w' (some ⟨g, 0, none⟩) l) ∧ Below w.heap.size w w' := by
  obtain ⟨i, hi1, hi2, hi3, hi4⟩ := info_post
  have hcl : (flat l).length = l.length * 4 := flat_length l
  have hcells := posts_cells (hp.below ((Below.refl w.heap.size w).alloc (Nat.le_refl _) (.cells #[] 37)))
  have hone : ∀ u ∈ flat l, u.oneCell' = true := fun u hu => by
    obtain ⟨p, _, hu⟩ := List.mem_flatMap.1 hu
    exact Array.all_eq_true_iff_forall_mem.1 p.c_one u (by simpa using hu)
  have HC := Lib.hid hcells
  have HO := Lib.hid hone
  have HCL := Lib.hid hcl
  have HPO := Lib.hid (fun (W : World) (g n cap : Nat) (h : W.ownsRow (w.heap.size + 1) 37 4 (.slice (some ⟨g, 0, none⟩) n cap) n (flat l)) (hn : n = l.length) => posts_of_owns (l := l) h hn)
  clear hp hcl hcells hone
  obtain ⟨n, hn⟩ : ∃ n, n = l.length := ⟨_, rfl⟩
  have HN := Lib.hid hn
  rw [← hn] at HCL h0 hl ⊢
  clear hn
  go_enter Tryd.func34, Tryd.ntmps34
  have hnil := fun W => slice_not_nil ⟨b, o, none⟩ n cap W
  have HB0 := Lib.hid ((Below.refl w.heap.size w).alloc (Nat.le_refl _) (.cells #[] 37))
  have hsz : (w.alloc (.cells #[] 37)).heap.size = w.heap.size + 1 := by simp
  have HSZ := Lib.hid hsz
  clear hsz
  go_upto_region 3 with fail
  clear hnil
  go_wp2_with (refine wpList_append_grows (w.alloc (.cells #[] 37)) rfl _ _ 29 rfl 37 i _ 4 32 Tryd.underlying29 hi1 hi2 hi3 hi4 rfl (by omega) (some ⟨w.heap.size, 0, none⟩) 0 0 [] rfl (fun h => by cases h) rfl (fun _ _ j u hj => by simp at hj) ⟨b, o, none⟩ n cap (flat l) rfl HCL.out ?hc HO.out (by omega) (by simp only [maxLen]; omega) (by omega) ?hK)
  case hc => exact fun j u hj => by have := HC.out j u (by rw [← HN.out] at *; exact hj); exact this
  intro v' w' hown hgr
  obtain ⟨g, cap', hv, hg, hcap'⟩ : ∃ g cap', v' = .slice (some ⟨g, 0, none⟩) n cap' ∧ w.heap.size + 1 ≤ g ∧ n ≤ cap' := by
    rcases hown.2 with ⟨_, h0'⟩ | ⟨g, cap', cur, h1, h2, h3, h4, _⟩
    · exact absurd h0' (by omega)
    · exact ⟨g, cap', by simpa using h1, h2, by simpa using h4⟩
  subst hv
  have HP4 := Lib.hid (HPO.out w' g n cap' (by simpa using hown) HN.out)
  have HB4 := Lib.hid (Below.grown HB0.out hgr (by simp) (by simp))
  clear hown hgr hi1 hi2 hi3 hi4
  go_wp2_with fail
  go_ret
  exact ⟨⟨g, cap', rfl, by omega, hcap', HP4.out⟩, HB4.out⟩

set_option maxRecDepth 100000 in
set_option maxHeartbeats 1000000 in
theorem clone_none (a : Addr) (cap : Nat) (w : World) :
    Calls Tryd.prog 34 #[.slice (some a) 0 cap] w fun e w' => e = .returned (.slice (some ⟨w.heap.size, 0, none⟩) 0 0) ∧ Below w.heap.size w w' := by
  have hnil := fun W => slice_not_nil a 0 cap W
  go_enter Tryd.func34, Tryd.ntmps34
  go_upto_region 3 with fail
  clear hnil
  go_wp2_with fail
  go_ret
  exact ⟨rfl, (Below.refl _ _).alloc (Nat.le_refl _) _⟩
end Go.Proofs.YtcmbnkmbaghkdaaDoor

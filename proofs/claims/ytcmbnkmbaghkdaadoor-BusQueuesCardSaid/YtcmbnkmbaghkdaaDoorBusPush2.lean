/-
bus.Push, walked: a write more.
Condition: the package's table of regions reads as its text lays it.
-/
import Derived.Test.YtcmbnkmbaghkdaaDoorBusPush
import Derived.Deep.Cut
namespace Go.Proofs.YtcmbnkmbaghkdaaDoor
open Go.RowKit

theorem posts_setCell {w : World} {g : Nat} {l : List Pst} (h : PostsAt w (some ⟨g, 0, none⟩) l) {b : Nat} (i : Nat) (v : Value) (hne : b ≠ g) : PostsAt (w.setCell ⟨b, i, none⟩ v) (some ⟨g, 0, none⟩) l := fun k p hk => by
  obtain ⟨b', o, h1, h2, c0, c1, c2, c3⟩ := h k p hk
  obtain ⟨rfl, rfl⟩ : g = b' ∧ 0 = o := by simpa using h1
  have ne : ∀ j, (⟨b, i, none⟩ : Addr) ≠ ⟨g, j, none⟩ := fun j e => hne (by simpa using congrArg Addr.block e)
  exact ⟨g, 0, rfl, by simpa [World.setCell] using h2, (World.cell?_setCell_other _ _ _ _ (ne _)).trans c0, (World.cell?_setCell_other _ _ _ _ (ne _)).trans c1, (World.cell?_setCell_other _ _ _ _ (ne _)).trans c2, (World.cell?_setCell_other _ _ _ _ (ne _)).trans c3⟩

set_option maxRecDepth 100000 in
set_option maxHeartbeats 4000000 in
theorem push_ok (ao : Option Addr) (l : List Pst) (cap : Nat) (p : Pst) (w : World) (hp : PostsAt w ao l) (hl : l.length < 4611686018427387904) (hr : RegAt w) (hq : queueOk l) (hm : p.may) (h8 : l.length < 8) (hno : ao = none → l.length = 0 ∧ cap = 0) (hcap : l.length ≤ cap) :
    Calls Tryd.prog 9 #[.agg #[.slice ao l.length cap], p.v] w fun e w' => (∃ g cap', e = .returned (.tuple #[.agg #[.slice (some ⟨g, 0, none⟩) (l.length + 1) cap'], .nilIface]) ∧ w.heap.size ≤ g ∧ l.length + 1 ≤ cap' ∧ PostsAt w' (some ⟨g, 0, none⟩) (l ++ [p])) ∧ Below w.heap.size w w' := by
  have HW0 := three_blocks w (.cells #[.slice ao l.length cap] 31) (.cells #[.int .i64 p.dev, .int .u32 p.at_, .int .i64 p.n, .int .u32 p.val] 37) (.cells #[.slice none 0 0] 31)
  obtain ⟨k0, k1, k2, hb0⟩ := HW0
  have HC := Lib.hid (bus_Check ao l cap _ (hp.below hb0) hl (hr.below hb0))
  rw [if_pos hq] at HC
  simp only [errV, if_pos] at HC
  have HM := Lib.hid (fun W hW => post_may p W hW)
  rw [decide_eq_true hm] at HM
  unfold Pst.v Pst.c at HM
  have HR := Lib.hid (hr.below hb0)
  have HB := Lib.hid hb0
  have HK0 := Lib.hid k0
  have HK1 := Lib.hid k1
  have HK2 := Lib.hid k2
  clear hb0 k0 k1 k2 hr hl
  unfold Pst.v Pst.c
  have HP := Lib.hid hp
  have HNO := Lib.hid hno
  clear hp hq hm hno
  obtain ⟨n, hn⟩ : ∃ n, n = l.length := ⟨_, rfl⟩
  have HN := Lib.hid hn
  rw [← hn] at HC HB HK0 HK1 HK2 HR HNO h8 hcap ⊢
  clear hn
  have h8i : ((n : Int) == 8) = false := by simp; omega
  have hn0 : (0 : Int) ≤ (n : Int) := by omega
  have hnc : (n : Int) ≤ (cap : Int) := by omega
  go_enter Tryd.func9, Tryd.ntmps9
  go_wp2_with fail
  refine (HC.out).mono ?_
  rintro e w1 ⟨rfl, hb⟩
  have K0 := Lib.hid (keepB HK0.out hb)
  have K1 := Lib.hid (keepB HK1.out hb)
  have K2 := Lib.hid (keepB HK2.out hb)
  have R1 := Lib.hid (HR.out.below hb)
  have RB1 := Lib.hid (HB.out.trans (hb.mono HB.out.size))
  clear hb
  have e0 : w1.cell? ⟨w.heap.size + 1, 0, none⟩ = some (.int .i64 p.dev) := (cell_of_row _ _ 0 _ _ _ K1.out).trans rfl
  have e1 : w1.cell? ⟨w.heap.size + 1, 1, none⟩ = some (.int .u32 p.at_) := (cell_of_row _ _ 1 _ _ _ K1.out).trans rfl
  have e2 : w1.cell? ⟨w.heap.size + 1, 2, none⟩ = some (.int .i64 p.n) := (cell_of_row _ _ 2 _ _ _ K1.out).trans rfl
  have e3 : w1.cell? ⟨w.heap.size + 1, 3, none⟩ = some (.int .u32 p.val) := (cell_of_row _ _ 3 _ _ _ K1.out).trans rfl
  go_wp2_with fail
  refine (HM.out _ R1.out).mono ?_
  rintro e w2 ⟨rfl, hb⟩
  have K02 := Lib.hid (keepB K0.out hb)
  have K12 := Lib.hid (keepB K1.out hb)
  have K22 := Lib.hid (keepB K2.out hb)
  have RB2 := Lib.hid (RB1.out.trans (hb.mono RB1.out.size))
  clear hb e0 e1 e2 e3
  have c0 := (cell_of_row _ _ 0 _ _ _ K02.out).trans (rfl : _ = some (Value.slice ao n cap))
  go_upto_region 5 with fail
  have HMK : Hid (∀ W : World, W.heap[w.heap.size]? = some (.cells #[.slice ao n cap] 31 (0, 0)) → W.heap[w.heap.size + 1]? = some (.cells #[.int .i64 p.dev, .int .u32 p.at_, .int .i64 p.n, .int .u32 p.val] 37 (0, 0)) → (∃ cz, W.heap[w.heap.size + 1 + 1]? = some (.cells #[cz] 31 (0, 0))) → Below w.heap.size w W → (W.cell? ⟨w.heap.size, 0, none⟩ = some (.slice ao n cap) ∧ W.cell? ⟨w.heap.size + 1, 0, none⟩ = some (.int .i64 p.dev) ∧ W.cell? ⟨w.heap.size + 1, 1, none⟩ = some (.int .u32 p.at_) ∧ W.cell? ⟨w.heap.size + 1, 2, none⟩ = some (.int .i64 p.n) ∧ W.cell? ⟨w.heap.size + 1, 3, none⟩ = some (.int .u32 p.val) ∧ W.heap[w.heap.size]? = some (.cells #[.slice ao n cap] 31 (0, 0)) ∧ W.heap[w.heap.size + 1]? = some (.cells #[.int .i64 p.dev, .int .u32 p.at_, .int .i64 p.n, .int .u32 p.val] 37 (0, 0)) ∧ (∃ cz, W.heap[w.heap.size + 1 + 1]? = some (.cells #[cz] 31 (0, 0))) ∧ Below w.heap.size w W)) :=
    Lib.hid (fun W h1 h2 h3 h4 => ⟨(cell_of_row _ _ 0 _ _ _ h1).trans rfl, (cell_of_row _ _ 0 _ _ _ h2).trans rfl, (cell_of_row _ _ 1 _ _ _ h2).trans rfl, (cell_of_row _ _ 2 _ _ _ h2).trans rfl, (cell_of_row _ _ 3 _ _ _ h2).trans rfl, h1, h2, h3, h4⟩)
  clear c0
  refine wp_region_held_drew (S := fun W => W.cell? ⟨w.heap.size, 0, none⟩ = some (.slice ao n cap) ∧ W.cell? ⟨w.heap.size + 1, 0, none⟩ = some (.int .i64 p.dev) ∧ W.cell? ⟨w.heap.size + 1, 1, none⟩ = some (.int .u32 p.at_) ∧ W.cell? ⟨w.heap.size + 1, 2, none⟩ = some (.int .i64 p.n) ∧ W.cell? ⟨w.heap.size + 1, 3, none⟩ = some (.int .u32 p.val) ∧ W.heap[w.heap.size]? = some (.cells #[.slice ao n cap] 31 (0, 0)) ∧ W.heap[w.heap.size + 1]? = some (.cells #[.int .i64 p.dev, .int .u32 p.at_, .int .i64 p.n, .int .u32 p.val] 37 (0, 0)) ∧ (∃ cz, W.heap[w.heap.size + 1 + 1]? = some (.cells #[cz] 31 (0, 0))) ∧ Below w.heap.size w W) (by kernel_rfl) (HMK.out _ K02.out K12.out ⟨_, K22.out⟩ RB2.out.drew) (fun hHeld => ?_)
  refine wpAnyH_take (i := 0) (v := ?v0) rfl (by kernel_rfl) (by kernel_rfl) (by kernel_rfl) (fun _ _ _ h => h) (Or.inl ⟨by rfl, ?hy0⟩) (by assumption) ?rest0
  case hy0 => (intro W hSw; (try dsimp only at hSw); go_split_ands; go_simp; first | done | with_reducible rfl)
  simp only [Act.put, List.getElem_toArray, List.getElem_cons_zero, List.setIfInBounds_toArray, List.set_cons_zero, List.set_cons_succ]
  refine wpAnyH_take (i := 1) (v := ?v1) rfl (by kernel_rfl) (by kernel_rfl) (by kernel_rfl) (fun _ _ _ h => h) (Or.inl ⟨by rfl, ?hy1⟩) (by assumption) ?rest1
  case hy1 => (intro W hSw; (try dsimp only at hSw); go_split_ands; go_simp; first | done | with_reducible rfl)
  simp only [Act.put, List.getElem_toArray, List.getElem_cons_zero, List.getElem_cons_succ, List.setIfInBounds_toArray, List.set_cons_zero, List.set_cons_succ]
  refine wpAnyH_take (i := 2) (v := ?v2) rfl (by kernel_rfl) (by kernel_rfl) (by kernel_rfl) (fun _ _ _ h => h) (Or.inl ⟨by rfl, ?hy2⟩) (by assumption) ?rest2
  case hy2 => (intro W hSw; (try dsimp only at hSw); go_split_ands; go_simp; first | done | with_reducible rfl)
  simp only [Act.put, List.getElem_toArray, List.getElem_cons_zero, List.getElem_cons_succ, List.setIfInBounds_toArray, List.set_cons_zero, List.set_cons_succ]
  refine wpAnyH_take (i := 3) (v := ?v3) rfl (by kernel_rfl) (by kernel_rfl) (by kernel_rfl) (fun _ _ _ h => h) (Or.inl ⟨by rfl, ?hy3⟩) (by assumption) ?rest3
  case hy3 => (intro W hSw; (try dsimp only at hSw); go_split_ands; go_simp; first | done | with_reducible rfl)
  simp only [Act.put, List.getElem_toArray, List.getElem_cons_zero, List.getElem_cons_succ, List.setIfInBounds_toArray, List.set_cons_zero, List.set_cons_succ]
  refine wpAnyH_take (i := 4) (v := ?v4) rfl (by kernel_rfl) (by kernel_rfl) (by kernel_rfl) (fun _ _ _ h => h) (Or.inl ⟨by rfl, ?hy4⟩) (by assumption) ?rest4
  case hy4 => (intro W hSw; (try dsimp only at hSw); go_split_ands; go_simp; first | done | with_reducible rfl)
  simp only [Act.put, List.getElem_toArray, List.getElem_cons_zero, List.getElem_cons_succ, List.setIfInBounds_toArray, List.set_cons_zero, List.set_cons_succ]
  refine wpAnyH_take (i := 5) (v := ?v5) rfl (by kernel_rfl) (by kernel_rfl) (by kernel_rfl) (fun _ _ _ h => h) (Or.inl ⟨by rfl, ?hy5⟩) (by assumption) ?rest5
  case hy5 => (intro W hSw; (try dsimp only at hSw); go_split_ands; go_simp; first | done | with_reducible rfl)
  simp only [Act.put, List.getElem_toArray, List.getElem_cons_zero, List.getElem_cons_succ, List.setIfInBounds_toArray, List.set_cons_zero, List.set_cons_succ]
  refine wpAnyH_take (i := 6) (v := ?v6) rfl (by kernel_rfl) (by kernel_rfl) (by kernel_rfl) (fun _ _ _ h => h) (Or.inl ⟨by rfl, ?hy6⟩) (by assumption) ?rest6
  case hy6 => (intro W hSw; (try dsimp only at hSw); go_split_ands; go_simp; first | done | with_reducible rfl)
  simp only [Act.put, List.getElem_toArray, List.getElem_cons_zero, List.getElem_cons_succ, List.setIfInBounds_toArray, List.set_cons_zero, List.set_cons_succ]
  refine wpAnyH_take (i := 7) (v := ?v7) rfl (by kernel_rfl) (by kernel_rfl) (by kernel_rfl) (fun _ _ _ h => h) (Or.inl ⟨by rfl, ?hy7⟩) (by assumption) ?rest7
  case hy7 => (intro W hSw; (try dsimp only at hSw); go_split_ands; go_simp; first | done | with_reducible rfl)
  simp only [Act.put, List.getElem_toArray, List.getElem_cons_zero, List.getElem_cons_succ, List.setIfInBounds_toArray, List.set_cons_zero, List.set_cons_succ]
  refine wpAnyH_take (i := 8) (v := ?v8) rfl (by kernel_rfl) (by kernel_rfl) (by kernel_rfl) (fun _ _ _ h => h) (Or.inl ⟨by rfl, ?hy8⟩) (by assumption) ?rest8
  case hy8 => (intro W hSw; (try dsimp only at hSw); go_split_ands; go_simp; first | done | with_reducible rfl)
  simp only [Act.put, List.getElem_toArray, List.getElem_cons_zero, List.getElem_cons_succ, List.setIfInBounds_toArray, List.set_cons_zero, List.set_cons_succ]
  refine wpAnyH_take (i := 9) (v := ?v9) rfl (by kernel_rfl) (by kernel_rfl) (by kernel_rfl) (fun _ _ _ h => h) (Or.inl ⟨by rfl, ?hy9⟩) (by assumption) ?rest9
  case hy9 => (intro W hSw; (try dsimp only at hSw); go_split_ands; go_simp; first | done | with_reducible rfl)
  simp only [Act.put, List.getElem_toArray, List.getElem_cons_zero, List.getElem_cons_succ, List.setIfInBounds_toArray, List.set_cons_zero, List.set_cons_succ]
  refine wpAnyH_ready (rs := [10]) (by kernel_rfl) (by simp) ?_
  refine AllReadyH.cons (o := _) rfl (fun K hK => ?_) (AllReadyH.nil)
  simp only [List.getElem_toArray, List.getElem_cons_zero, List.getElem_cons_succ]
  go_simp
  refine hK.out _ _ (HMK.out _ (keep1 hHeld.2.2.2.2.2.1) (keep1 hHeld.2.2.2.2.2.2.1) (by obtain ⟨cz, hz⟩ := hHeld.2.2.2.2.2.2.2.1; exact ⟨cz, keep1 hz⟩) (hHeld.2.2.2.2.2.2.2.2.alloc hHeld.2.2.2.2.2.2.2.2.size _)) (fun hHeld1 => ?_)
  clear hK K
  refine wpAnyH_ready (rs := [11]) (by kernel_rfl) (by simp) ?_
  refine AllReadyH.cons (o := _) rfl (fun K hK => ?_) (AllReadyH.nil)
  simp only [List.getElem_toArray, List.getElem_cons_zero, List.getElem_cons_succ]
  rw [if_pos (by rfl)]
  obtain ⟨i, hi1, hi2, hi3, hi4⟩ := info_post
  have hnew := heap_alloc_new w2.drew (.cells #[.int .i64 p.dev, .int .u32 p.at_, .int .i64 p.n, .int .u32 p.val] 37)
  refine wp_append_grows _ _ _ 29 rfl 37 i _ 4 32 Tryd.underlying29 hi1 hi2 hi3 hi4 rfl (by omega) ao n n (flat l) rfl (fun h => by have := (HNO.out h).1; omega) (by rw [flat_length, HN.out]) (fun b hb j u hj => ?_) ⟨w2.heap.size, 0, none⟩ 1 1 p.c.toList rfl rfl (fun j u hj => ?_) (fun u hu => ?_) (by omega) (by simp only [maxLen]; omega) (by omega) ?_
  · subst hb
    exact posts_cells ((HP.out.below RB2.out.drew).below ((Below.refl _ _).alloc (Nat.le_refl _) _)) j u hj
  · rw [Addr.add_lit, Nat.zero_add]
    exact (cell_of_row _ _ j _ _ _ hnew).trans (by rw [← hj]; show p.c[j]? = _; rw [← Array.getElem?_toList])
  · exact Array.all_eq_true_iff_forall_mem.1 p.c_one u (by simpa using hu)
  intro v' w3 hown hgr
  obtain ⟨g, cap', hv, hg, hcap'⟩ : ∃ g cap', v' = .slice (some ⟨g, 0, none⟩) (n + 1) cap' ∧ w2.heap.size + 1 ≤ g ∧ n + 1 ≤ cap' := by
    rcases hown.2 with ⟨_, h0⟩ | ⟨g, cap', cur, h1, h2, h3, h4, _⟩
    · exact absurd h0 (by omega)
    · exact ⟨g, cap', h1, by simpa using h2, h4⟩
  subst hv
  have HOWN := Lib.hid (posts_of_owns (l := l ++ [p]) (by have h := hown; rw [show flat l ++ p.c.toList = flat (l ++ [p]) by simp [flat]] at h; exact h) (by simp [HN.out]))
  have hblk : ∀ k x, (w2.drew.alloc (.cells #[.int .i64 p.dev, .int .u32 p.at_, .int .i64 p.n, .int .u32 p.val] 37)).heap[k]? = some x → w3.heap[k]? = some x := fun k x hk => (hgr.block k (Array.getElem?_eq_some_iff.1 hk).1 (by simp)).trans hk
  have hbel : Below w.heap.size w w3 := Below.grown hHeld1.2.2.2.2.2.2.2.2 hgr hHeld1.2.2.2.2.2.2.2.2.size (by simp)
  have hlt : w.heap.size + 1 + 1 < w2.heap.size := (Array.getElem?_eq_some_iff.1 K22.out).1
  refine hK.out _ _ (HMK.out _ (hblk _ _ hHeld1.2.2.2.2.2.1) (hblk _ _ hHeld1.2.2.2.2.2.2.1) (by obtain ⟨cz, hz⟩ := hHeld1.2.2.2.2.2.2.2.1; exact ⟨cz, hblk _ _ hz⟩) hbel) (fun hHeld2 => ?_)
  clear hK K hHeld hHeld1 hown hgr hblk hbel hnew hi1 hi2 hi3 hi4
  simp only [Act.put, List.setIfInBounds_toArray, List.set_cons_zero, List.set_cons_succ]
  refine wpAnyH_take (i := 12) (v := ?v12) rfl (by kernel_rfl) (by kernel_rfl) (by kernel_rfl) (fun _ _ _ h => h) (Or.inl ⟨by rfl, ?hy12⟩) (by assumption) ?rest12
  case hy12 => (intro W hSw; (try dsimp only at hSw); go_split_ands; go_simp; first | done | with_reducible rfl)
  simp only [Act.put, List.getElem_toArray, List.getElem_cons_zero, List.getElem_cons_succ, List.setIfInBounds_toArray, List.set_cons_zero, List.set_cons_succ]
  refine wpAnyH_ready (rs := [13]) (by kernel_rfl) (by simp) ?_
  refine AllReadyH.cons (o := _) rfl (fun K hK => ?_) (AllReadyH.nil)
  simp only [List.getElem_toArray, List.getElem_cons_zero, List.getElem_cons_succ]
  obtain ⟨cz, hz⟩ := hHeld2.2.2.2.2.2.2.2.1
  have cz0 := (cell_of_row _ _ 0 _ _ _ hz).trans (rfl : _ = some cz)
  have fz0 := frozen_of_row _ _ 0 _ _ hz
  go_simp
  refine hK.out _ _ (HMK.out _ ((heap_setCell_other _ _ _ _ (by simp; omega)).trans hHeld2.2.2.2.2.2.1) ((heap_setCell_other _ _ _ _ (by simp)).trans hHeld2.2.2.2.2.2.2.1) ⟨_, heap_setCell_same _ _ _ _ _ _ hz⟩ (hHeld2.2.2.2.2.2.2.2.2.setCell (p := ⟨w.heap.size + 1 + 1, 0, none⟩) (by show w.heap.size ≤ w.heap.size + 1 + 1; omega) _)) (fun hHeld3 => ?_)
  clear hK K
  refine wpAnyH_take (i := 14) (v := ?v14) rfl (by kernel_rfl) (by kernel_rfl) (by kernel_rfl) (fun _ _ _ h => h) (Or.inl ⟨by rfl, ?hy14⟩) (by assumption) ?rest14
  case hy14 => (intro W hSw; (try dsimp only at hSw); go_split_ands; go_simp; first | done | with_reducible rfl)
  simp only [Act.put, List.getElem_toArray, List.getElem_cons_zero, List.getElem_cons_succ, List.setIfInBounds_toArray, List.set_cons_zero, List.set_cons_succ]
  refine wpAnyH_done (by kernel_rfl) ?_ _
  have HZ := heap_setCell_same _ _ 0 _ _ (Value.slice (some ⟨g, 0, none⟩) (n + 1) cap') hz
  have HBZ := hHeld3.2.2.2.2.2.2.2.2
  have HPZ := posts_setCell HOWN.out (b := w.heap.size + 1 + 1) 0 (Value.slice (some ⟨g, 0, none⟩) (n + 1) cap') (by omega)
  clear HOWN hHeld3 hHeld2 cz0 fz0
  generalize w3.setCell ⟨w.heap.size + 1 + 1, 0, none⟩ (Value.slice (some ⟨g, 0, none⟩) (n + 1) cap') = w4 at HZ HBZ HPZ ⊢
  have HZ4 := Lib.hid HZ
  have HB4 := Lib.hid HBZ
  have HP4 := Lib.hid HPZ
  clear HZ HBZ HPZ
  go_wp2_with fail
  exact bodyPost_ret (v := .tuple #[.agg #[.slice (some ⟨g, 0, none⟩) (n + 1) cap'], .nilIface]) (results_cell_tmp Tryd.results9 _ _ (w.heap.size + 1 + 1) 31 #[.slice (some ⟨g, 0, none⟩) (n + 1) cap'] (0, 0) _ rfl HZ4.out Tryd.underlying31 rfl (by kernel_rfl)) rfl ⟨⟨g, cap', rfl, by omega, hcap', HP4.out⟩, HB4.out⟩
end Go.Proofs.YtcmbnkmbaghkdaaDoor

/-
Clone of package mem, walked.
No condition.
-/
import Derived.Test.YtcakcfeipfjmpaaDoorCloneDef
import Derived.Deep.RegionHeld
import Derived.Deep.CutRange
namespace Go.Proofs.YtcakcfeipfjmpaaDoor
open Go.RowKit

set_option maxRecDepth 100000 in
theorem mem_Clone_nil (w : World) : Calls Tryd.prog 16 #[.pointer none] w fun e w' => e = .returned (.pointer none) ∧ w = w' := by
  go_enter Tryd.func16, Tryd.ntmps16
  go_wp2_with fail
  go_ret
  exact ⟨rfl, rfl⟩
/-- The clone: the bytes, the marks, the count. -/
def Mm.twin (m : Mm) (dc : Nat) (pc : Nat → Nat) (j : Nat) (wr : Int) : Mm := { Mm.new m.n with d := m.d, dc := dc, f := upF m.f j, pc := pc, wr := wr }
/-- The clone, at page j. -/
structure CloneAt (w0 W : World) (g2 gp2 gd2 : Nat) (m : Mm) (dc : Nat) (pg2 : Nat → Option Nat) (pc2 : Nat → Nat) (j : Nat) (wr : Int) : Prop where
  ram : RamAt W g2 gp2 gd2 pg2 none (m.twin dc pc2 j wr)
  nil : ∀ i, j ≤ i → pg2 i = none
  lo : ∀ k, RamFoot g2 gp2 gd2 m.n pg2 none k → w0.heap.size ≤ k
  fr : Below w0.heap.size w0 W
def rowLit (gp2 gd2 n dc : Nat) : Array Value := #[.slice (some ⟨gp2, 0, none⟩) n n, .slice (some ⟨gd2, 0, none⟩) n dc, .int .i64 0, .int .u32 0, .int .i32 0, .int .u32 0, .slice none 0 0]
theorem clone_start {w w2 : World} {g2 gp2 gd2 dc : Nat} {m : Mm} (hg2 : w2.heap.size = g2) (hn0 : 1 ≤ m.n) (hn2 : m.n ≤ 16384) (hb : Below w.heap.size w w2) (kp : w2.heap[gp2]? = some (.cells (nilPages m.n) 107 (0, 0))) (hr : Row w2 gd2 3 m.n (fun i => .int .i64 (bit01 (m.d i)))) (hdc : m.n ≤ dc) (l1 : w.heap.size ≤ gp2) (l2 : w.heap.size ≤ gd2) :
    CloneAt w (w2.alloc (.cells (rowLit gp2 gd2 m.n dc) 127)) g2 gp2 gd2 m dc (fun _ => none) (fun _ => 4096) 0 0 := by
  subst hg2
  have hal : Below w2.heap.size w2 (w2.alloc (.cells (rowLit gp2 gd2 m.n dc) 127)) := (Below.refl _ _).alloc (Nat.le_refl _) _
  refine ⟨?_, fun _ _ => rfl, fun k hk => ?_, hb.trans (hal.mono hb.size)⟩
  · have h := RamAt.fresh2 (g := w2.heap.size) (d := m.d) hn0 hn2 (heap_alloc_new w2 (.cells (rowLit gp2 gd2 m.n dc) 127)) (keepB kp hal) (hr.below hal) hdc
    have e : m.twin dc (fun _ => 4096) 0 0 = { Mm.new m.n with d := m.d, dc := dc } := by unfold Mm.twin Mm.new; rw [upF_zero]
    rw [e]
    exact h
  · rcases hk with rfl | rfl | rfl | hk | ⟨i, _, hk⟩
    · exact hb.size
    · exact l1
    · exact l2
    · cases hk
    · cases hk
/-- A page that has bytes was cloned. -/
theorem CloneAt.take {w0 W W' : World} {g2 gp2 gd2 : Nat} {m : Mm} {dc : Nat} {pg2 : Nat → Option Nat} {pc2 : Nat → Nat} {j : Nat} {wr : Int} {k c : Nat} (h : CloneAt w0 W g2 gp2 gd2 m dc pg2 pc2 j wr) (hj : j < m.n) (hb : Below W.heap.size W W') (hk : W.heap.size ≤ k) (hp : PageAt W' k (fun y => m.f (4096 * j + y))) (hc : 4096 ≤ c) :
    CloneAt w0 (W'.setCell ⟨gp2, j, none⟩ (.slice (some ⟨k, 0, none⟩) 4096 c)) g2 gp2 gd2 m dc (updP pg2 j k) (updC pc2 j c) (j + 1) wr := by
  have ha : RamAt W' g2 gp2 gd2 pg2 none (m.twin dc pc2 j wr) := h.ram.keep (fun k hk => hb.block k (h.ram.lt hk))
  have hn : ¬ RamFoot g2 gp2 gd2 (m.twin dc pc2 j wr).n pg2 none k := fun hf => by have := h.ram.lt hf; omega
  have hr := ha.adopt2 (i := j) (c := c) hj hp hn (h.nil j (Nat.le_refl _)) hc
  refine ⟨?_, fun i hi => ?_, fun k' hk' => ?_, ?_⟩
  · have e : m.twin dc (updC pc2 j c) (j + 1) wr = { m.twin dc pc2 j wr with f := updG (m.twin dc pc2 j wr).f j (fun y => m.f (4096 * j + y)), pc := updC (m.twin dc pc2 j wr).pc j c } := by
      unfold Mm.twin
      dsimp only
      rw [upF_take]
    rw [e]
    exact hr
  · unfold updP
    rw [if_neg (by omega)]
    exact h.nil i (by omega)
  · have h1 := h.fr.size
    rcases hk' with rfl | rfl | rfl | hk' | ⟨i, hi, hk'⟩
    · exact h.lo _ (.inl rfl)
    · exact h.lo _ (.inr (.inl rfl))
    · exact h.lo _ (.inr (.inr (.inl rfl)))
    · cases hk'
    · unfold updP at hk'
      by_cases e : i = j
      · rw [if_pos e] at hk'
        obtain rfl := Option.some.inj hk'
        omega
      · rw [if_neg e] at hk'
        exact h.lo _ (.inr (.inr (.inr (.inr ⟨i, hi, hk'⟩))))
  · have h1 := h.lo gp2 (.inr (.inl rfl))
    exact (h.fr.trans (hb.mono h.fr.size)).setCell (p := ⟨gp2, j, none⟩) h1 _
/-- A page that has none. -/
theorem CloneAt.skip {w0 W : World} {g2 gp2 gd2 : Nat} {m : Mm} {dc : Nat} {pg2 : Nat → Option Nat} {pc2 : Nat → Nat} {j : Nat} {wr : Int} (h : CloneAt w0 W g2 gp2 gd2 m dc pg2 pc2 j wr) (hj : j < m.n) (hz : ∀ y, y < 4096 → m.f (4096 * j + y) = 0) :
    CloneAt w0 (W.setCell ⟨gp2, j, none⟩ (.slice none 0 0)) g2 gp2 gd2 m dc pg2 pc2 (j + 1) wr := by
  have h1 := h.lo gp2 (.inr (.inl rfl))
  refine ⟨?_, fun i hi => h.nil i (by omega), h.lo, h.fr.setCell (p := ⟨gp2, j, none⟩) h1 _⟩
  have e : m.twin dc pc2 (j + 1) wr = m.twin dc pc2 j wr := by
    unfold Mm.twin
    rw [upF_skip _ _ hz]
  rw [e]
  have ha := h.ram
  obtain ⟨c, hc, hs, hg⟩ := ha.p
  have hw : (W.setCell ⟨gp2, j, none⟩ (.slice none 0 0)).heap[gp2]? = W.heap[gp2]? := by
    rw [set_cells hc, hc]
    have e2 : c.setIfInBounds j (.slice none 0 0) = c := by
      apply Array.ext_getElem?
      intro i
      by_cases e3 : i = j
      · subst e3
        have := hg i hj
        rw [h.nil i (Nat.le_refl _)] at this
        rw [set_get (x := .slice none 0 0) (by rw [hs]; exact hj) this, if_pos rfl, this]
        rfl
      · simp [Ne.symm e3]
    rw [e2]
  exact ha.keep (fun k _ => by
    by_cases e3 : k = gp2
    · rw [e3]; exact hw
    · exact heap_cell_other e3)
theorem CloneAt.drew {w0 W : World} {g2 gp2 gd2 : Nat} {m : Mm} {dc : Nat} {pg2 : Nat → Option Nat} {pc2 : Nat → Nat} {j : Nat} {wr : Int} (h : CloneAt w0 W g2 gp2 gd2 m dc pg2 pc2 j wr) : CloneAt w0 W.drew g2 gp2 gd2 m dc pg2 pc2 j wr :=
  ⟨h.ram.keep (fun _ _ => rfl), h.nil, h.lo, h.fr.drew⟩
/-- All pages, and the count. -/
theorem CloneAt.two {w0 W : World} {g g2 gp2 gd2 : Nat} {m : Mm} {F : Nat → Prop} {dc : Nat} {pg2 : Nat → Option Nat} {pc2 : Nat → Nat} (h0 : RamIs w0 g m F) (h : CloneAt w0 W g2 gp2 gd2 m dc pg2 pc2 m.n 0) (wr : Int) :
    Two (W.setCell ⟨g2, 2, none⟩ (.int .i64 wr)) g m F g2 (m.twin dc pc2 m.n wr) (RamFoot g2 gp2 gd2 m.n pg2 none) ∧ Below w0.heap.size w0 (W.setCell ⟨g2, 2, none⟩ (.int .i64 wr)) := by
  have h1 := h.lo g2 (.inl rfl)
  have hb : Below w0.heap.size w0 (W.setCell ⟨g2, 2, none⟩ (.int .i64 wr)) := h.fr.setCell (p := ⟨g2, 2, none⟩) h1 _
  have hc := h.ram.count wr
  refine ⟨⟨h0.below hb, ⟨gp2, gd2, pg2, none, hc, fun k hk => hk, fun k hk => hc.lt hk⟩, fun k hf hg => ?_⟩, hb⟩
  have := h0.lt _ hf
  have := h.lo _ hg
  omega

set_option maxRecDepth 100000 in
set_option maxHeartbeats 4000000 in
theorem mem_Clone_ok {g : Nat} {m : Mm} {F : Nat → Prop} {w : World} (h : RamIs w g m F) :
    Calls Tryd.prog 16 #[.pointer (some ⟨g, 0, none⟩)] w fun e w' => ∃ g2 dc pc G, e = .returned (.pointer (some ⟨g2, 0, none⟩)) ∧ Two w' g m F g2 (m.twin dc pc m.n m.wr) G ∧ (∀ k, G k → w.heap.size ≤ k) ∧ Below w.heap.size w w' := by
  have H0 := Lib.hid h
  obtain ⟨gp, gd, pg, bl, ha, hfoot, hlt⟩ := h
  have HC : Hid (∀ W, Below w.heap.size w W → W.cell? ⟨g, 0, none⟩ = some (.slice (some ⟨gp, 0, none⟩) m.n m.n) ∧ W.cell? ⟨g, 1, none⟩ = some (.slice (some ⟨gd, 0, none⟩) m.n m.dc) ∧ W.cell? ⟨g, 2, none⟩ = some (.int .i64 m.wr)) := Lib.hid (fun W hW => ⟨(hW.cell (p := ⟨g, 0, none⟩) (lt_heap ha.r)).trans ha.c0, (hW.cell (p := ⟨g, 1, none⟩) (lt_heap ha.r)).trans ha.c1, (hW.cell (p := ⟨g, 2, none⟩) (lt_heap ha.r)).trans ha.c2⟩)
  have HPC : Hid (∀ W, Below w.heap.size w W → ∀ j, j < m.n → W.cell? ⟨gp, j, none⟩ = some (pgC (pg j) (m.pc j))) := Lib.hid (fun W hW j hj => (hW.cell (p := ⟨gp, j, none⟩) (ha.lt (.inr (.inl rfl)))).trans (ha.pcell hj))
  have HPG : Hid (∀ W, Below w.heap.size w W → ∀ j k, j < m.n → pg j = some k → PageAt W k (fun y => m.f (4096 * j + y))) := Lib.hid (fun W hW j k hj hk => (ha.pb j k hj hk).keep (hW.block _ (ha.lt (.inr (.inr (.inr (.inr ⟨j, hj, hk⟩)))))))
  have HPZ := Lib.hid ha.pz
  have hn0 := ha.n1
  have hn2 := ha.n2
  have HDL := Lib.hid ha.dl
  have HD : Hid (Row w gd 3 m.n (fun i => .int .i64 (bit01 (m.d i)))) := Lib.hid ha.q
  clear ha hfoot hlt
  go_enter Tryd.func16, Tryd.ntmps16
  go_upto_region 3 with fail
  go_cut [3] from 8 to 20 (fun v W => ∃ g2 gp2 gd2 dc, v = .pointer (some ⟨g2, 0, none⟩) ∧ CloneAt w W g2 gp2 gd2 m dc (fun _ => none) (fun _ => 4096) 0 0)
  case first =>
    refine wp_region_held_drew (S := fun W => Below w.heap.size w W) (by kernel_rfl) ((Below.refl w.heap.size w).drew) (fun hH => ?_)
    refine wpAnyH_take (i := 0) (v := ?v0a) rfl (by kernel_rfl) (by kernel_rfl) (by kernel_rfl) (fun _ _ _ h => h) (Or.inl ⟨by rfl, ?hy0a⟩) (by assumption) ?rest0a
    case hy0a => (intro W hSw; go_simp; first | done | with_reducible rfl)
    simp only [Act.put, List.getElem_toArray, List.getElem_cons_zero, List.setIfInBounds_toArray, List.set_cons_zero, List.set_cons_succ]
    refine wpAnyH_take (i := 1) (v := ?v1a) rfl (by kernel_rfl) (by kernel_rfl) (by kernel_rfl) (fun _ _ _ h => h) (Or.inl ⟨by rfl, ?hy1a⟩) (by assumption) ?rest1a
    case hy1a => (intro W hSw; go_simp; first | done | with_reducible rfl)
    simp only [Act.put, List.getElem_toArray, List.getElem_cons_zero, List.getElem_cons_succ, List.setIfInBounds_toArray, List.set_cons_zero, List.set_cons_succ]
    refine wpAnyH_take (i := 2) (v := ?v2a) rfl (by kernel_rfl) (by kernel_rfl) (by kernel_rfl) (fun _ _ _ h => h) (Or.inl ⟨by rfl, ?hy2a⟩) (by assumption) ?rest2a
    case hy2a => (intro W hSw; go_simp; first | done | with_reducible rfl)
    simp only [Act.put, List.getElem_toArray, List.getElem_cons_zero, List.getElem_cons_succ, List.setIfInBounds_toArray, List.set_cons_zero, List.set_cons_succ]
    refine wpAnyH_take (i := 3) (v := ?v3a) rfl (by kernel_rfl) (by kernel_rfl) (by kernel_rfl) (fun _ _ _ h => h) (Or.inl ⟨by rfl, ?hy3a⟩) (by assumption) ?rest3a
    case hy3a => (intro W hSw; have cj := (HC.out W hSw).1; go_simp; first | done | with_reducible rfl)
    simp only [Act.put, List.getElem_toArray, List.getElem_cons_zero, List.getElem_cons_succ, List.setIfInBounds_toArray, List.set_cons_zero, List.set_cons_succ]
    refine wpAnyH_take (i := 4) (v := ?v4a) rfl (by kernel_rfl) (by kernel_rfl) (by kernel_rfl) (fun _ _ _ h => h) (Or.inl ⟨by rfl, ?hy4a⟩) (by assumption) ?rest4a
    case hy4a => (intro W hSw; go_simp; first | done | with_reducible rfl)
    simp only [Act.put, List.getElem_toArray, List.getElem_cons_zero, List.getElem_cons_succ, List.setIfInBounds_toArray, List.set_cons_zero, List.set_cons_succ]
    refine wpAnyH_take (i := 6) (v := ?v6a) rfl (by kernel_rfl) (by kernel_rfl) (by kernel_rfl) (fun _ _ _ h => h) (Or.inl ⟨by rfl, ?hy6a⟩) (by assumption) ?rest6a
    case hy6a => (intro W hSw; go_simp; first | done | with_reducible rfl)
    simp only [Act.put, List.getElem_toArray, List.getElem_cons_zero, List.getElem_cons_succ, List.setIfInBounds_toArray, List.set_cons_zero, List.set_cons_succ]
    refine wpAnyH_take (i := 7) (v := ?v7a) rfl (by kernel_rfl) (by kernel_rfl) (by kernel_rfl) (fun _ _ _ h => h) (Or.inl ⟨by rfl, ?hy7a⟩) (by assumption) ?rest7a
    case hy7a => (intro W hSw; go_simp; first | done | with_reducible rfl)
    simp only [Act.put, List.getElem_toArray, List.getElem_cons_zero, List.getElem_cons_succ, List.setIfInBounds_toArray, List.set_cons_zero, List.set_cons_succ]
    refine wpAnyH_take (i := 8) (v := ?v8a) rfl (by kernel_rfl) (by kernel_rfl) (by kernel_rfl) (fun _ _ _ h => h) (Or.inl ⟨by rfl, ?hy8a⟩) (by assumption) ?rest8a
    case hy8a => (intro W hSw; go_simp; first | done | with_reducible rfl)
    simp only [Act.put, List.getElem_toArray, List.getElem_cons_zero, List.getElem_cons_succ, List.setIfInBounds_toArray, List.set_cons_zero, List.set_cons_succ]
    refine wpAnyH_take (i := 9) (v := ?v9a) rfl (by kernel_rfl) (by kernel_rfl) (by kernel_rfl) (fun _ _ _ h => h) (Or.inl ⟨by rfl, ?hy9a⟩) (by assumption) ?rest9a
    case hy9a => (intro W hSw; have cj := (HC.out W hSw).2.1; go_simp; first | done | with_reducible rfl)
    simp only [Act.put, List.getElem_toArray, List.getElem_cons_zero, List.getElem_cons_succ, List.setIfInBounds_toArray, List.set_cons_zero, List.set_cons_succ]
    refine wpAnyH_ready (rs := [5, 10]) (by kernel_rfl) (by simp) ?_
    refine AllReadyH.cons (o := _) rfl (fun K hK => ?_) (AllReadyH.cons (o := _) rfl (fun K hK => ?_) (AllReadyH.nil))
    · simp only [List.getElem_toArray, List.getElem_cons_zero, List.getElem_cons_succ]
      have hm := fun W => make_pages m.n hn2 W
      go_simp
      have HAL := Lib.hid ((Below.refl w.heap.size w).alloc (Nat.le_refl _) (.cells (nilPages m.n) 107))
      refine hK.out _ _ ((Below.refl w.heap.size w).drew.alloc (Nat.le_refl _) _) (fun hH2 => ?_)
      clear hK K hH hm
      have KP := Lib.hid (heap_alloc_new w (.cells (nilPages m.n) 107))
      have HRD := Lib.hid (HD.out.below HAL.out)
      try simp only [Act.put, List.setIfInBounds_toArray, List.set_cons_zero, List.set_cons_succ]
      refine wpAnyH_ready (rs := [10]) (by kernel_rfl) (by simp) ?_
      refine AllReadyH.cons (o := _) rfl (fun K hK => ?_) (AllReadyH.nil)
      simp only [List.getElem_toArray, List.getElem_cons_zero, List.getElem_cons_succ]
      go_simp
      refine (cloneI_row (w := (w.alloc (.cells (nilPages m.n) 107)).drew) HRD.out hn0 hn2 (fun _ => rfl)).mono ?_
      rintro e w2 ⟨gd2, dc, rfl, hdc, hg, hrow, _, hb⟩
      have HB2 := Lib.hid (HAL.out.drew.trans (hb.mono HAL.out.drew.size))
      refine hK.out _ _ HB2.out (fun hH3 => ?_)
      clear hK K hH2
      have KP2 := Lib.hid (keepB (a := (w.alloc (.cells (nilPages m.n) 107)).drew) KP.out hb)
      have HCL := Lib.hid (clone_start (g2 := w2.heap.size) rfl hn0 hn2 HB2.out KP2.out hrow hdc (Nat.le_refl _) (by simp at hg; omega))
      clear hb hg hrow
      try simp only [Act.put, List.setIfInBounds_toArray, List.set_cons_zero, List.set_cons_succ]
      refine wpAnyH_take (i := 11) (v := ?v11a) rfl (by kernel_rfl) (by kernel_rfl) (by kernel_rfl) (fun _ _ _ h => h) (Or.inl ⟨by rfl, ?hy11a⟩) (by assumption) ?rest11a
      case hy11a => (intro W hSw; go_simp; first | done | with_reducible rfl)
      simp only [Act.put, List.getElem_toArray, List.getElem_cons_zero, List.getElem_cons_succ, List.setIfInBounds_toArray, List.set_cons_zero, List.set_cons_succ]
      refine wpAnyH_ready (rs := [12]) (by kernel_rfl) (by simp) ?_
      refine AllReadyH.cons (o := _) rfl (fun K hK => ?_) (AllReadyH.nil)
      simp only [List.getElem_toArray, List.getElem_cons_zero, List.getElem_cons_succ]
      go_simp
      refine hK.out _ _ HCL.out.fr (fun hH4 => ?_)
      clear hK K hH3
      try simp only [Act.put, List.setIfInBounds_toArray, List.set_cons_zero, List.set_cons_succ]
      refine wpAnyH_take (i := 13) (v := ?v13a) rfl (by kernel_rfl) (by kernel_rfl) (by kernel_rfl) (fun _ _ _ h => h) (Or.inl ⟨by rfl, ?hy13a⟩) (by assumption) ?rest13a
      case hy13a => (intro W hSw; go_simp; first | done | with_reducible rfl)
      simp only [Act.put, List.getElem_toArray, List.getElem_cons_zero, List.getElem_cons_succ, List.setIfInBounds_toArray, List.set_cons_zero, List.set_cons_succ]
      refine wpAnyH_done (by kernel_rfl) ?_ _
      go_wp2_with fail
      go_meet
      case rel => exact ⟨_, _, _, _, rfl, HCL.out⟩
    · simp only [List.getElem_toArray, List.getElem_cons_zero, List.getElem_cons_succ]
      go_simp
      refine (cloneI_row (w := w.drew) (HD.out.below (Below.refl w.heap.size w).drew) hn0 hn2 (fun _ => rfl)).mono ?_
      rintro e w2 ⟨gd2, dc, rfl, hdc, hg, hrow, _, hb⟩
      have HB2 := Lib.hid ((Below.refl w.heap.size w).drew.trans hb)
      refine hK.out _ _ HB2.out (fun hH2 => ?_)
      clear hK K hH
      have HRW := Lib.hid hrow
      have HG := Lib.hid hg
      clear hb hg hrow
      try simp only [Act.put, List.setIfInBounds_toArray, List.set_cons_zero, List.set_cons_succ]
      refine wpAnyH_ready (rs := [5]) (by kernel_rfl) (by simp) ?_
      refine AllReadyH.cons (o := _) rfl (fun K hK => ?_) (AllReadyH.nil)
      simp only [List.getElem_toArray, List.getElem_cons_zero, List.getElem_cons_succ]
      have hm := fun W => make_pages m.n hn2 W
      go_simp
      have HAL := Lib.hid ((Below.refl w2.heap.size w2).alloc (Nat.le_refl _) (.cells (nilPages m.n) 107))
      have HB3 := Lib.hid (HB2.out.trans (HAL.out.mono HB2.out.size))
      refine hK.out _ _ HB3.out (fun hH3 => ?_)
      clear hK K hH2 hm
      have HCL := Lib.hid (clone_start (g2 := w2.heap.size + 1) (by simp) hn0 hn2 HB3.out (heap_alloc_new w2 (.cells (nilPages m.n) 107)) (HRW.out.below HAL.out) hdc HB2.out.size (by have := HG.out; simpa using this))
      try simp only [Act.put, List.setIfInBounds_toArray, List.set_cons_zero, List.set_cons_succ]
      refine wpAnyH_take (i := 11) (v := ?v11b) rfl (by kernel_rfl) (by kernel_rfl) (by kernel_rfl) (fun _ _ _ h => h) (Or.inl ⟨by rfl, ?hy11b⟩) (by assumption) ?rest11b
      case hy11b => (intro W hSw; go_simp; first | done | with_reducible rfl)
      simp only [Act.put, List.getElem_toArray, List.getElem_cons_zero, List.getElem_cons_succ, List.setIfInBounds_toArray, List.set_cons_zero, List.set_cons_succ]
      refine wpAnyH_ready (rs := [12]) (by kernel_rfl) (by simp) ?_
      refine AllReadyH.cons (o := _) rfl (fun K hK => ?_) (AllReadyH.nil)
      simp only [List.getElem_toArray, List.getElem_cons_zero, List.getElem_cons_succ]
      go_simp
      refine hK.out _ _ HCL.out.fr (fun hH4 => ?_)
      clear hK K hH3
      try simp only [Act.put, List.setIfInBounds_toArray, List.set_cons_zero, List.set_cons_succ]
      refine wpAnyH_take (i := 13) (v := ?v13b) rfl (by kernel_rfl) (by kernel_rfl) (by kernel_rfl) (fun _ _ _ h => h) (Or.inl ⟨by rfl, ?hy13b⟩) (by assumption) ?rest13b
      case hy13b => (intro W hSw; go_simp; first | done | with_reducible rfl)
      simp only [Act.put, List.getElem_toArray, List.getElem_cons_zero, List.getElem_cons_succ, List.setIfInBounds_toArray, List.set_cons_zero, List.set_cons_succ]
      refine wpAnyH_done (by kernel_rfl) ?_ _
      go_wp2_with fail
      go_meet
      case rel => exact ⟨_, _, _, _, rfl, HCL.out⟩
  case rest =>
    obtain ⟨g2, gp2, gd2, dc, rfl, hcl⟩ := hcut
    have HCL := Lib.hid hcl
    have c0 := (HC.out _ hcl.fr).1
    clear hcl
    go_wp2_with fail
    clear c0
    go_loopw [26] (fun i wr => ∃ (j : Nat) (pg2 : Nat → Option Nat) (pc2 : Nat → Nat), i = .int .i64 j ∧ j ≤ m.n ∧ CloneAt w wr g2 gp2 gd2 m dc pg2 pc2 j 0) (fun i _ => m.n - (intOf i).toNat)
    case atStart => exact ⟨0, _, _, rfl, by omega, HCL.out⟩
    case round =>
      clear HCL
      obtain ⟨j, pg2, pc2, rfl, hj, hcl⟩ := hrel
      have HCL := Lib.hid hcl
      clear hcl
      have hj0 : (0 : Int) ≤ (j : Int) := by omega
      have hn0i : (0 : Int) ≤ (m.n : Int) := by omega
      by_cases hlt : j < m.n
      · have hji : (j : Int) < (m.n : Int) := by omega
        have HS : Hid (∀ W, Below w.heap.size w W → W.cell? ⟨gp, j, none⟩ = some (pgC (pg j) (m.pc j))) := Lib.hid (fun W hW => HPC.out W hW j hlt)
        have HGP : Hid (∀ W, Below wr.heap.size wr W → W.cell? ⟨g2, 0, none⟩ = some (.slice (some ⟨gp2, 0, none⟩) m.n m.n)) := Lib.hid (fun W hW => (hW.cell (p := ⟨g2, 0, none⟩) (lt_heap HCL.out.ram.r)).trans HCL.out.ram.c0)
        rcases hpg : pg j with _ | kk
        · have c1 := HS.out _ HCL.out.fr
          rw [hpg] at c1
          simp only [pgC] at c1
          have HZ := Lib.hid (HPZ.out j hlt hpg)
          clear hpg HS
          go_upto_region 7 with fail
          refine wp_region_held_drew (S := fun W => Below w.heap.size w W ∧ W.cell? ⟨g2, 0, none⟩ = some (.slice (some ⟨gp2, 0, none⟩) m.n m.n)) (by kernel_rfl) (And.intro HCL.out.fr.drew (HGP.out _ (Below.refl wr.heap.size wr).drew)) (fun hH => ?_)
          refine wpAnyH_take (i := 0) (v := ?v0c) rfl (by kernel_rfl) (by kernel_rfl) (by kernel_rfl) (fun _ _ _ h => h) (Or.inl ⟨by rfl, ?hy0c⟩) (by assumption) ?rest0c
          case hy0c => (intro W hSw; go_simp; first | done | with_reducible rfl)
          simp only [Act.put, List.getElem_toArray, List.getElem_cons_zero, List.setIfInBounds_toArray, List.set_cons_zero, List.set_cons_succ]
          refine wpAnyH_take (i := 1) (v := ?v1c) rfl (by kernel_rfl) (by kernel_rfl) (by kernel_rfl) (fun _ _ _ h => h) (Or.inl ⟨by rfl, ?hy1c⟩) (by assumption) ?rest1c
          case hy1c => (intro W hSw; go_simp; first | done | with_reducible rfl)
          simp only [Act.put, List.getElem_toArray, List.getElem_cons_zero, List.getElem_cons_succ, List.setIfInBounds_toArray, List.set_cons_zero, List.set_cons_succ]
          refine wpAnyH_take (i := 2) (v := ?v2c) rfl (by kernel_rfl) (by kernel_rfl) (by kernel_rfl) (fun _ _ _ h => h) (Or.inl ⟨by rfl, ?hy2c⟩) (by assumption) ?rest2c
          case hy2c => (intro W hSw; go_simp; first | done | with_reducible rfl)
          simp only [Act.put, List.getElem_toArray, List.getElem_cons_zero, List.getElem_cons_succ, List.setIfInBounds_toArray, List.set_cons_zero, List.set_cons_succ]
          refine wpAnyH_take (i := 3) (v := ?v3c) rfl (by kernel_rfl) (by kernel_rfl) (by kernel_rfl) (fun _ _ _ h => h) (Or.inl ⟨by rfl, ?hy3c⟩) (by assumption) ?rest3c
          case hy3c => (intro W hSw; have cj := hSw.2; go_simp; first | done | with_reducible rfl)
          simp only [Act.put, List.getElem_toArray, List.getElem_cons_zero, List.getElem_cons_succ, List.setIfInBounds_toArray, List.set_cons_zero, List.set_cons_succ]
          refine wpAnyH_take (i := 4) (v := ?v4c) rfl (by kernel_rfl) (by kernel_rfl) (by kernel_rfl) (fun _ _ _ h => h) (Or.inl ⟨by rfl, ?hy4c⟩) (by assumption) ?rest4c
          case hy4c => (intro W hSw; go_simp; first | done | with_reducible rfl)
          simp only [Act.put, List.getElem_toArray, List.getElem_cons_zero, List.getElem_cons_succ, List.setIfInBounds_toArray, List.set_cons_zero, List.set_cons_succ]
          refine wpAnyH_take (i := 5) (v := ?v5c) rfl (by kernel_rfl) (by kernel_rfl) (by kernel_rfl) (fun _ _ _ h => h) (Or.inl ⟨by rfl, ?hy5c⟩) (by assumption) ?rest5c
          case hy5c => (intro W hSw; go_simp; first | done | with_reducible rfl)
          simp only [Act.put, List.getElem_toArray, List.getElem_cons_zero, List.getElem_cons_succ, List.setIfInBounds_toArray, List.set_cons_zero, List.set_cons_succ]
          refine wpAnyH_ready (rs := [6]) (by kernel_rfl) (by simp) ?_
          refine AllReadyH.cons (o := _) rfl (fun K hK => ?_) (AllReadyH.nil)
          simp only [List.getElem_toArray, List.getElem_cons_zero, List.getElem_cons_succ]
          go_simp
          refine (cloneP_none _).mono ?_
          rintro e w6 ⟨rfl, rfl⟩
          refine hK.out _ _ hH (fun hH3 => ?_)
          clear hK K hH
          try simp only [Act.put, List.setIfInBounds_toArray, List.set_cons_zero, List.set_cons_succ]
          refine wpAnyH_take (i := 7) (v := ?v7c) rfl (by kernel_rfl) (by kernel_rfl) (by kernel_rfl) (fun _ _ _ h => h) (Or.inl ⟨by rfl, ?hy7c⟩) (by assumption) ?rest7c
          case hy7c => (intro W hSw; go_simp; first | done | with_reducible rfl)
          simp only [Act.put, List.getElem_toArray, List.getElem_cons_zero, List.getElem_cons_succ, List.setIfInBounds_toArray, List.set_cons_zero, List.set_cons_succ]
          refine wpAnyH_ready (rs := [8]) (by kernel_rfl) (by simp) ?_
          refine AllReadyH.cons (o := _) rfl (fun K hK => ?_) (AllReadyH.nil)
          simp only [List.getElem_toArray, List.getElem_cons_zero, List.getElem_cons_succ]
          have c8 : wr.drew.cell? ⟨gp2, j, none⟩ = some (.slice none 0 0) := (HCL.out.ram.pcell hlt).trans (by rw [HCL.out.nil j (Nat.le_refl _)]; rfl)
          have f8 : wr.drew.frozen? ⟨gp2, j, none⟩ = false := HCL.out.ram.pfz j
          have HSK := Lib.hid ((HCL.out.skip hlt HZ.out).drew)
          go_simp
          refine hK.out _ _ (And.intro HSK.out.fr HSK.out.ram.c0) (fun hH4 => ?_)
          clear c8 f8
          clear hK K hH3
          try simp only [Act.put, List.setIfInBounds_toArray, List.set_cons_zero, List.set_cons_succ]
          refine wpAnyH_done (by kernel_rfl) ?_ _
          clear hH4
          go_wp2_with fail
          go_roundw
          case rel => exact ⟨j + 1, _, _, by go_num, by omega, HSK.out⟩
          case measure => simp [intOf]; omega
        · have c1 := HS.out _ HCL.out.fr
          rw [hpg] at c1
          simp only [pgC] at c1
          have HP := Lib.hid (fun W hW => HPG.out W hW j kk hlt hpg)
          clear hpg HS
          go_upto_region 7 with fail
          refine wp_region_held_drew (S := fun W => Below w.heap.size w W ∧ W.cell? ⟨g2, 0, none⟩ = some (.slice (some ⟨gp2, 0, none⟩) m.n m.n)) (by kernel_rfl) (And.intro HCL.out.fr.drew (HGP.out _ (Below.refl wr.heap.size wr).drew)) (fun hH => ?_)
          refine wpAnyH_take (i := 0) (v := ?v0d) rfl (by kernel_rfl) (by kernel_rfl) (by kernel_rfl) (fun _ _ _ h => h) (Or.inl ⟨by rfl, ?hy0d⟩) (by assumption) ?rest0d
          case hy0d => (intro W hSw; go_simp; first | done | with_reducible rfl)
          simp only [Act.put, List.getElem_toArray, List.getElem_cons_zero, List.setIfInBounds_toArray, List.set_cons_zero, List.set_cons_succ]
          refine wpAnyH_take (i := 1) (v := ?v1d) rfl (by kernel_rfl) (by kernel_rfl) (by kernel_rfl) (fun _ _ _ h => h) (Or.inl ⟨by rfl, ?hy1d⟩) (by assumption) ?rest1d
          case hy1d => (intro W hSw; go_simp; first | done | with_reducible rfl)
          simp only [Act.put, List.getElem_toArray, List.getElem_cons_zero, List.getElem_cons_succ, List.setIfInBounds_toArray, List.set_cons_zero, List.set_cons_succ]
          refine wpAnyH_take (i := 2) (v := ?v2d) rfl (by kernel_rfl) (by kernel_rfl) (by kernel_rfl) (fun _ _ _ h => h) (Or.inl ⟨by rfl, ?hy2d⟩) (by assumption) ?rest2d
          case hy2d => (intro W hSw; go_simp; first | done | with_reducible rfl)
          simp only [Act.put, List.getElem_toArray, List.getElem_cons_zero, List.getElem_cons_succ, List.setIfInBounds_toArray, List.set_cons_zero, List.set_cons_succ]
          refine wpAnyH_take (i := 3) (v := ?v3d) rfl (by kernel_rfl) (by kernel_rfl) (by kernel_rfl) (fun _ _ _ h => h) (Or.inl ⟨by rfl, ?hy3d⟩) (by assumption) ?rest3d
          case hy3d => (intro W hSw; have cj := hSw.2; go_simp; first | done | with_reducible rfl)
          simp only [Act.put, List.getElem_toArray, List.getElem_cons_zero, List.getElem_cons_succ, List.setIfInBounds_toArray, List.set_cons_zero, List.set_cons_succ]
          refine wpAnyH_take (i := 4) (v := ?v4d) rfl (by kernel_rfl) (by kernel_rfl) (by kernel_rfl) (fun _ _ _ h => h) (Or.inl ⟨by rfl, ?hy4d⟩) (by assumption) ?rest4d
          case hy4d => (intro W hSw; go_simp; first | done | with_reducible rfl)
          simp only [Act.put, List.getElem_toArray, List.getElem_cons_zero, List.getElem_cons_succ, List.setIfInBounds_toArray, List.set_cons_zero, List.set_cons_succ]
          refine wpAnyH_take (i := 5) (v := ?v5d) rfl (by kernel_rfl) (by kernel_rfl) (by kernel_rfl) (fun _ _ _ h => h) (Or.inl ⟨by rfl, ?hy5d⟩) (by assumption) ?rest5d
          case hy5d => (intro W hSw; go_simp; first | done | with_reducible rfl)
          simp only [Act.put, List.getElem_toArray, List.getElem_cons_zero, List.getElem_cons_succ, List.setIfInBounds_toArray, List.set_cons_zero, List.set_cons_succ]
          refine wpAnyH_ready (rs := [6]) (by kernel_rfl) (by simp) ?_
          refine AllReadyH.cons (o := _) rfl (fun K hK => ?_) (AllReadyH.nil)
          simp only [List.getElem_toArray, List.getElem_cons_zero, List.getElem_cons_succ]
          go_simp
          refine (cloneP_row (w := wr.drew) (h := fun y => B8 (m.f (4096 * j + y))) (HP.out _ HCL.out.fr.drew) (by omega) (by omega) (fun _ => rfl)).mono ?_
          rintro e w6 ⟨k6, cap6, rfl, hcap, hk, hrow, _, hb⟩
          have HB6 : Hid (Below wr.heap.size wr w6) := Lib.hid ((Below.refl wr.heap.size wr).drew.trans hb)
          have HSK := Lib.hid (HCL.out.take hlt HB6.out hk hrow hcap)
          clear hb hrow hk
          refine hK.out _ _ (And.intro (HCL.out.fr.trans (HB6.out.mono HCL.out.fr.size)) (HGP.out _ HB6.out)) (fun hH3 => ?_)
          clear hK K hH
          try simp only [Act.put, List.setIfInBounds_toArray, List.set_cons_zero, List.set_cons_succ]
          refine wpAnyH_take (i := 7) (v := ?v7d) rfl (by kernel_rfl) (by kernel_rfl) (by kernel_rfl) (fun _ _ _ h => h) (Or.inl ⟨by rfl, ?hy7d⟩) (by assumption) ?rest7d
          case hy7d => (intro W hSw; go_simp; first | done | with_reducible rfl)
          simp only [Act.put, List.getElem_toArray, List.getElem_cons_zero, List.getElem_cons_succ, List.setIfInBounds_toArray, List.set_cons_zero, List.set_cons_succ]
          refine wpAnyH_ready (rs := [8]) (by kernel_rfl) (by simp) ?_
          refine AllReadyH.cons (o := _) rfl (fun K hK => ?_) (AllReadyH.nil)
          simp only [List.getElem_toArray, List.getElem_cons_zero, List.getElem_cons_succ]
          have c8 : w6.cell? ⟨gp2, j, none⟩ = some (.slice none 0 0) := (HB6.out.cell (p := ⟨gp2, j, none⟩) (HCL.out.ram.lt (.inr (.inl rfl)))).trans ((HCL.out.ram.pcell hlt).trans (by rw [HCL.out.nil j (Nat.le_refl _)]; rfl))
          have f8 : w6.frozen? ⟨gp2, j, none⟩ = false := (HCL.out.ram.keep (fun k hk => HB6.out.block k (HCL.out.ram.lt hk))).pfz j
          go_simp
          refine hK.out _ _ (And.intro HSK.out.fr HSK.out.ram.c0) (fun hH4 => ?_)
          clear c8 f8
          clear hK K hH3
          try simp only [Act.put, List.setIfInBounds_toArray, List.set_cons_zero, List.set_cons_succ]
          refine wpAnyH_done (by kernel_rfl) ?_ _
          clear hH4
          go_wp2_with fail
          go_roundw
          case rel => exact ⟨j + 1, _, _, by go_num, by omega, HSK.out⟩
          case measure => simp [intOf]; omega
      · have hji : ¬ (j : Int) < (m.n : Int) := by omega
        have hjn : j = m.n := by omega
        subst hjn
        go_upto_region 9 with fail
        refine wp_region_held_drew (S := fun W => Below w.heap.size w W) (by kernel_rfl) (HCL.out.fr.drew) (fun hH => ?_)
        refine wpAnyH_take (i := 0) (v := ?v0e) rfl (by kernel_rfl) (by kernel_rfl) (by kernel_rfl) (fun _ _ _ h => h) (Or.inl ⟨by rfl, ?hy0e⟩) (by assumption) ?rest0e
        case hy0e => (intro W hSw; go_simp; first | done | with_reducible rfl)
        simp only [Act.put, List.getElem_toArray, List.getElem_cons_zero, List.setIfInBounds_toArray, List.set_cons_zero, List.set_cons_succ]
        refine wpAnyH_take (i := 1) (v := ?v1e) rfl (by kernel_rfl) (by kernel_rfl) (by kernel_rfl) (fun _ _ _ h => h) (Or.inl ⟨by rfl, ?hy1e⟩) (by assumption) ?rest1e
        case hy1e => (intro W hSw; go_simp; first | done | with_reducible rfl)
        simp only [Act.put, List.getElem_toArray, List.getElem_cons_zero, List.getElem_cons_succ, List.setIfInBounds_toArray, List.set_cons_zero, List.set_cons_succ]
        refine wpAnyH_take (i := 2) (v := ?v2e) rfl (by kernel_rfl) (by kernel_rfl) (by kernel_rfl) (fun _ _ _ h => h) (Or.inl ⟨by rfl, ?hy2e⟩) (by assumption) ?rest2e
        case hy2e => (intro W hSw; go_simp; first | done | with_reducible rfl)
        simp only [Act.put, List.getElem_toArray, List.getElem_cons_zero, List.getElem_cons_succ, List.setIfInBounds_toArray, List.set_cons_zero, List.set_cons_succ]
        refine wpAnyH_take (i := 3) (v := ?v3e) rfl (by kernel_rfl) (by kernel_rfl) (by kernel_rfl) (fun _ _ _ h => h) (Or.inl ⟨by rfl, ?hy3e⟩) (by assumption) ?rest3e
        case hy3e => (intro W hSw; go_simp; first | done | with_reducible rfl)
        simp only [Act.put, List.getElem_toArray, List.getElem_cons_zero, List.getElem_cons_succ, List.setIfInBounds_toArray, List.set_cons_zero, List.set_cons_succ]
        refine wpAnyH_take (i := 4) (v := ?v4e) rfl (by kernel_rfl) (by kernel_rfl) (by kernel_rfl) (fun _ _ _ h => h) (Or.inl ⟨by rfl, ?hy4e⟩) (by assumption) ?rest4e
        case hy4e => (intro W hSw; go_simp; first | done | with_reducible rfl)
        simp only [Act.put, List.getElem_toArray, List.getElem_cons_zero, List.getElem_cons_succ, List.setIfInBounds_toArray, List.set_cons_zero, List.set_cons_succ]
        refine wpAnyH_take (i := 5) (v := ?v5e) rfl (by kernel_rfl) (by kernel_rfl) (by kernel_rfl) (fun _ _ _ h => h) (Or.inl ⟨by rfl, ?hy5e⟩) (by assumption) ?rest5e
        case hy5e => (intro W hSw; go_simp; first | done | with_reducible rfl)
        simp only [Act.put, List.getElem_toArray, List.getElem_cons_zero, List.getElem_cons_succ, List.setIfInBounds_toArray, List.set_cons_zero, List.set_cons_succ]
        refine wpAnyH_ready (rs := [6]) (by kernel_rfl) (by simp) ?_
        refine AllReadyH.cons (o := _) rfl (fun K hK => ?_) (AllReadyH.nil)
        simp only [List.getElem_toArray, List.getElem_cons_zero, List.getElem_cons_succ]
        go_simp
        refine (counter_load ⟨g, 2, none⟩ m.wr _ (HC.out _ HCL.out.fr.drew).2.2).mono ?_
        rintro e w6 ⟨rfl, rfl⟩
        refine hK.out _ _ hH (fun hH2 => ?_)
        clear hK K hH
        try simp only [Act.put, List.setIfInBounds_toArray, List.set_cons_zero, List.set_cons_succ]
        refine wpAnyH_ready (rs := [7]) (by kernel_rfl) (by simp) ?_
        refine AllReadyH.cons (o := _) rfl (fun K hK => ?_) (AllReadyH.nil)
        simp only [List.getElem_toArray, List.getElem_cons_zero, List.getElem_cons_succ]
        have HTW := Lib.hid (HCL.out.drew.two H0.out m.wr)
        have c8 : wr.drew.cell? ⟨g2, 2, none⟩ = some (.int .i64 0) := HCL.out.ram.c2
        have f8 : wr.drew.frozen? ⟨g2, 2, none⟩ = false := frozen_of_row _ _ 2 _ _ HCL.out.ram.r
        go_simp
        refine (counter_store ⟨g2, 2, none⟩ 0 m.wr _ c8 f8).mono ?_
        rintro e w7 ⟨rfl, rfl⟩
        refine hK.out _ _ HTW.out.2 (fun hH3 => ?_)
        clear hK K hH2 c8 f8
        try simp only [Act.put, List.setIfInBounds_toArray, List.set_cons_zero, List.set_cons_succ]
        refine wpAnyH_done (by kernel_rfl) ?_ _
        go_wp2_with fail
        go_ret
        exact ⟨g2, rfl, dc, pc2, _, HTW.out.1, HCL.out.lo, HTW.out.2⟩
end Go.Proofs.YtcakcfeipfjmpaaDoor

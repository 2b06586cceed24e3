/-
noughts of package mem, walked: a page of noughts, made when it is asked for first: its contract.
No condition.
-/
import Derived.Test.YtcakcfeipfjmpaaDoorNoughts
import Derived.Deep.Cut
namespace Go.Proofs.YtcakcfeipfjmpaaDoor
open Go.RowKit

theorem set_cells {w : World} {g i : Nat} {cs : Array Value} {t : TypeId} {v : Value} (h : w.heap[g]? = some (.cells cs t (0, 0))) : (w.setCell ⟨g, i, none⟩ v).heap[g]? = some (.cells (cs.setIfInBounds i v) t (0, 0)) := by
  have := heap_setCell_same w g i cs t v h
  simpa using this
/-- What lies at g behind the first call. -/
theorem once_row {w : World} {g gp gd n dc : Nat} {wr : Int} (hr : w.heap[g]? = some (.cells (ramRow gp gd n dc wr none) 127 (0, 0))) :
    (((blanked (w.setCell ⟨g, 4, none⟩ (.int .i32 1)) g).drew.drew.setCell ⟨g, 3, none⟩ (.int .u32 1)).setCell ⟨g, 4, none⟩ (.int .i32 0)).heap[g]? = some (.cells (ramRow gp gd n dc wr (some w.heap.size)) 127 (0, 0)) := by
  have h1 := set_cells (i := 4) (v := .int .i32 1) hr
  have h2 := set_cells (i := 6) (v := .slice (some ⟨w.heap.size, 0, none⟩) 4096 4096) h1
  have e : (w.setCell ⟨g, 4, none⟩ (.int .i32 1)).heap.size = w.heap.size := by simp [World.setCell]
  have h3 : (blanked (w.setCell ⟨g, 4, none⟩ (.int .i32 1)) g).drew.drew.heap[g]? = some (.cells (((ramRow gp gd n dc wr none).setIfInBounds 4 (.int .i32 1)).setIfInBounds 6 (.slice (some ⟨w.heap.size, 0, none⟩) 4096 4096)) 127 (0, 0)) := by
    show (blanked (w.setCell ⟨g, 4, none⟩ (.int .i32 1)) g).heap[g]? = _
    unfold blanked
    rw [e]
    exact (Below.heap_alloc _ _ _ (lt_heap h2)).trans h2
  have h4 := set_cells (i := 3) (v := .int .u32 1) h3
  have h5 := set_cells (i := 4) (v := .int .i32 0) h4
  rw [h5]
  rfl
theorem once_new {w : World} {g : Nat} (hg : g < w.heap.size) :
    (((blanked (w.setCell ⟨g, 4, none⟩ (.int .i32 1)) g).drew.drew.setCell ⟨g, 3, none⟩ (.int .u32 1)).setCell ⟨g, 4, none⟩ (.int .i32 0)).heap[w.heap.size]? = some (.cells zeroPage 5 (0, 0)) := by
  rw [heap_cell_other (by simp; omega), heap_cell_other (by simp; omega)]
  have e : ((w.setCell ⟨g, 4, none⟩ (.int .i32 1)).setCell ⟨g, 6, none⟩ (.slice (some ⟨w.heap.size, 0, none⟩) 4096 4096)).heap.size = w.heap.size := by simp [World.setCell]
  have e1 : (w.setCell ⟨g, 4, none⟩ (.int .i32 1)).heap.size = w.heap.size := by simp [World.setCell]
  show (blanked (w.setCell ⟨g, 4, none⟩ (.int .i32 1)) g).heap[w.heap.size]? = _
  unfold blanked
  have h := heap_alloc_new ((w.setCell ⟨g, 4, none⟩ (.int .i32 1)).setCell ⟨g, 6, none⟩ (.slice (some ⟨w.heap.size, 0, none⟩) 4096 4096)) (.cells zeroPage 5)
  rw [e] at h
  rw [e1]
  exact h
theorem once_kx {w : World} {g : Nat} :
    KX (fun k => k = g) w (((blanked (w.setCell ⟨g, 4, none⟩ (.int .i32 1)) g).drew.drew.setCell ⟨g, 3, none⟩ (.int .u32 1)).setCell ⟨g, 4, none⟩ (.int .i32 0)) :=
  ((((((KX.refl (fun k => k = g) w).setCell (p := ⟨g, 4, none⟩) (.inl rfl) _).setCell (p := ⟨g, 6, none⟩) (.inl rfl) _).alloc _).drew.drew.setCell (p := ⟨g, 3, none⟩) (.inl rfl) _).setCell (p := ⟨g, 4, none⟩) (.inl rfl) _)

set_option maxRecDepth 100000 in
set_option maxHeartbeats 1600000 in
/-- noughts: a page of noughts, the memory's own. -/
theorem mem_noughts {g gp gd : Nat} {pg : Nat → Option Nat} {bl : Option Nat} {m : Mm} {w : World} (h : RamAt w g gp gd pg bl m) :
    Calls Tryd.prog 91 #[.pointer (some ⟨g, 0, none⟩)] w fun e w' => ∃ k, e = .returned (.slice (some ⟨k, 0, none⟩) 4096 4096) ∧ RamAt w' g gp gd pg (some k) m ∧ KX (fun k => k = g) w w' ∧ (bl = some k ∨ w.heap.size ≤ k) := by
  have hg : g < w.heap.size := lt_heap h.r
  have hx := KX.refl (fun k => k = g) w
  cases bl with
  | none =>
    obtain ⟨W0, hW0⟩ : ∃ W0, W0 = w.alloc (.cells #[.pointer (some ⟨g, 0, none⟩)] 26) := ⟨_, rfl⟩
    have hb : Below w.heap.size w W0 := by rw [hW0]; exact (Below.refl _ _).alloc (Nat.le_refl _) _
    have hq : W0.heap[w.heap.size]? = some (.cells #[.pointer (some ⟨g, 0, none⟩)] 26 (0, 0)) := by rw [hW0]; exact heap_alloc_new _ _
    have h0 := h.keep (W' := W0) (fun k hk => hb.block k (h.lt hk))
    have hsz : W0.heap.size = w.heap.size + 1 := by rw [hW0]; simp
    have HD := Lib.hid (once_first g w.heap.size _ W0 (by omega) (by omega) (by omega) ((cell_of_row _ _ 0 _ _ _ hq).trans rfl) h0.c3 h0.c4 h0.c6 (h0.fz 3) (h0.fz 4) (h0.fz 6))
    have hr := once_row h0.r
    have hn := once_new (w := W0) (g := g) (by omega)
    have hk := once_kx (w := W0) (g := g)
    generalize (((blanked (W0.setCell ⟨g, 4, none⟩ (.int .i32 1)) g).drew.drew.setCell ⟨g, 3, none⟩ (.int .u32 1)).setCell ⟨g, 4, none⟩ (.int .i32 0)) = W1 at HD hr hn hk
    have hkx := (KX.of_below (X := fun k => k = g) hb).trans hk (fun _ _ h => h)
    have hlt := fun k hk => h.lt (k := k) hk
    have hne : ∀ k, RamFoot g gp gd m.n pg none k → k ≠ g → W1.heap[k]? = w.heap[k]? := fun k hk hn => hkx.block k (hlt k hk) hn
    have hgp : gp ≠ g := fun e => by
      obtain ⟨c, hc, _⟩ := h.p
      rw [e, h.r] at hc; injection hc with hc; injection hc with _ hc; exact absurd hc (by decide)
    have hgd : gd ≠ g := fun e => by
      obtain ⟨c, hc, _⟩ := h.q
      rw [e, h.r] at hc; injection hc with hc; injection hc with _ hc; exact absurd hc (by decide)
    have hpg : ∀ i k, i < m.n → pg i = some k → k ≠ g := fun i k hi hk e => by
      obtain ⟨c, hc, _⟩ := h.pb i k hi hk
      rw [e, h.r] at hc; injection hc with hc; injection hc with _ hc; exact absurd hc (by decide)
    rw [hsz] at hr
    have hR : RamAt W1 g gp gd pg (some W0.heap.size) m := {
      n1 := h.n1
      n2 := h.n2
      r := by rw [hsz]; exact hr
      p := by
        obtain ⟨c, hc, h2⟩ := h.p
        exact ⟨c, (hne gp (.inr (.inl rfl)) hgp).trans hc, h2⟩
      q := by
        obtain ⟨c, hc, h2⟩ := h.q
        exact ⟨c, (hne gd (.inr (.inr (.inl rfl))) hgd).trans hc, h2⟩
      pb := fun i k hi hk => (h.pb i k hi hk).keep (hne k (.inr (.inr (.inr (.inr ⟨i, hi, hk⟩)))) (hpg i k hi hk))
      pz := h.pz
      bz := fun k hk => by
        obtain rfl : W0.heap.size = k := by simpa using hk
        exact ⟨zeroPage, hn, by rw [zeroPage_size]; exact Nat.le_refl _, fun j hj => zeroPage_get hj⟩
      inj := h.inj
      nb := fun i k hi hk e => by
        have := (h.pb i k hi hk).lt
        obtain rfl : W0.heap.size = k := by simpa using e
        omega
      dl := h.dl
      pl := h.pl
      pn := h.pn }
    have HR := Lib.hid hR
    have HX := Lib.hid hkx
    have q0 : W1.cell? ⟨w.heap.size, 0, none⟩ = some (.pointer (some ⟨g, 0, none⟩)) := by
      have := hk.heap hq (by omega)
      exact (cell_of_row _ _ 0 _ _ _ this).trans rfl
    have p0 := (cell_of_row _ _ 0 _ _ _ hq).trans (rfl : _ = some (Value.pointer (some ⟨g, 0, none⟩)))
    have c6 : W1.cell? ⟨g, 6, none⟩ = some (.slice (some ⟨W0.heap.size, 0, none⟩) 4096 4096) := hR.c6
    have hmf : ∀ (fn : Fn) (first cap : Array Value) (w : World), (Instr.makeFunc fn first cap).run Tryd.prog w = .ok (.func fn first cap) w := fun _ _ _ _ => rfl
    have HS : Hid (w.heap.size ≤ W0.heap.size) := Lib.hid (by omega)
    have HW := Lib.hid hW0
    clear hx hb hq h h0 hr hn hk hkx hlt hne hgp hgd hpg hR hW0 hsz
    generalize W0.heap.size = k1 at HR c6 HS
    go_enter Tryd.func91, Tryd.ntmps91
    go_upto_region 1 with fail
    rw [← HW.out]
    clear HW
    go_wp2_with fail
    refine (HD.out).mono ?_
    rintro e w' ⟨rfl, rfl⟩
    go_wp2_with fail
    go_ret
    exact ⟨k1, rfl, HR.out, HX.out, .inr HS.out⟩
  | some k =>
    obtain ⟨W0, hW0⟩ : ∃ W0, W0 = w.alloc (.cells #[.pointer (some ⟨g, 0, none⟩)] 26) := ⟨_, rfl⟩
    have hb : Below w.heap.size w W0 := by rw [hW0]; exact (Below.refl _ _).alloc (Nat.le_refl _) _
    have hq : W0.heap[w.heap.size]? = some (.cells #[.pointer (some ⟨g, 0, none⟩)] 26 (0, 0)) := by rw [hW0]; exact heap_alloc_new _ _
    have h0 := Lib.hid (h.keep (W' := W0) (fun k hk => hb.block k (h.lt hk)))
    have hkx := Lib.hid (KX.of_below (X := fun k => k = g) hb)
    have HD := Lib.hid (once_again ⟨g, 3, none⟩ (.func (.func 105) #[] #[.pointer (some ⟨w.heap.size, 0, none⟩)]) W0 h0.out.c3)
    have q0 := (cell_of_row _ _ 0 _ _ _ hq).trans (rfl : _ = some (Value.pointer (some ⟨g, 0, none⟩)))
    have c6 : W0.cell? ⟨g, 6, none⟩ = some (.slice (some ⟨k, 0, none⟩) 4096 4096) := h0.out.c6
    have hmf : ∀ (fn : Fn) (first cap : Array Value) (w : World), (Instr.makeFunc fn first cap).run Tryd.prog w = .ok (.func fn first cap) w := fun _ _ _ _ => rfl
    clear hx hb hq h
    have HW := Lib.hid hW0
    clear hW0
    go_enter Tryd.func91, Tryd.ntmps91
    go_upto_region 1 with fail
    rw [← HW.out]
    clear HW
    go_wp2_with fail
    refine (HD.out).mono ?_
    rintro e w' ⟨rfl, rfl⟩
    go_wp2_with fail
    go_ret
    exact ⟨k, rfl, h0.out, hkx.out, .inl rfl⟩
end Go.Proofs.YtcakcfeipfjmpaaDoor

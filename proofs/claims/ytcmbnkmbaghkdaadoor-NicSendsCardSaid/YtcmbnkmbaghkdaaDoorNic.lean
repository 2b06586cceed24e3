/-
A net device's state, as cells; works, walked.
No condition.
-/
import Derived.Test.YtcmbnkmbaghkdaaDoorVioUsed
import Derived.Test.YtcmbnkmbaghkdaaDoorRingGiveE
namespace Go.Proofs.YtcmbnkmbaghkdaaDoor
open Go.RowKit
set_option linter.unusedVariables false

/-- A net device. -/
structure NS where
  p : VS
  bell : Bool
  lost : Nat
def NS.c (s : NS) : Array Value := #[.int .u32 s.p.st, .int .u32 s.p.fs, .int .u32 s.p.ds, .int .u32 s.p.se, .int .u32 s.p.irq, .int .u32 s.p.d0, .int .u32 s.p.d1,
  .bool s.p.a.rdy, .int .i64 s.p.a.size, .int .u32 s.p.a.de, .int .u32 s.p.a.av, .int .u32 s.p.a.us, .int .u16 s.p.a.la, .int .u16 s.p.a.pu,
  .bool s.p.b.rdy, .int .i64 s.p.b.size, .int .u32 s.p.b.de, .int .u32 s.p.b.av, .int .u32 s.p.b.us, .int .u16 s.p.b.la, .int .u16 s.p.b.pu, .bool s.bell, .int .u32 s.lost]
theorem NS.c_one (s : NS) : s.c.all (·.oneCell') = true := by simp [NS.c, Value.oneCell']
def NS.zero : NS := ⟨VS.zero, false, 0⟩
structure NS.wf (s : NS) : Prop where
  p : s.p.wf
  lost : s.lost < 4294967296
def VQ.rg (q : VQ) : Rg := ⟨q.size, q.de, q.av, q.us, q.la, q.pu⟩
def VQ.setR (q : VQ) (r : Rg) : VQ := ⟨q.rdy, r.size, r.de, r.av, r.us, r.la, r.pu⟩
theorem VQ.rg_wf {q : VQ} (h : q.wf) : q.rg.wf := ⟨h.lo, h.hi, h.hde, h.hav, h.hus, h.hla, h.hpu⟩
theorem VQ.rg_ok (q : VQ) : q.rg.okP ↔ q.ring := Iff.rfl
/-- The queue 1, or the queue 0. -/
def NS.q (s : NS) (one : Bool) : VQ := if one then s.p.b else s.p.a
def NS.setR (s : NS) (one : Bool) (r : Rg) : NS := if one then { s with p := { s.p with b := s.p.b.setR r } } else { s with p := { s.p with a := s.p.a.setR r } }
def qN (one : Bool) : Nat := if one then 1 else 0
theorem NS.range_p {w : World} {b : Nat} {s : NS} {t : TypeId} {fr : Nat × Nat} (h : w.heap[b]? = some (.cells s.c t fr)) : w.rangeAt b 0 s.p.c.toList :=
  range_of_row h 0 _ fun j v hv => by
    rw [Nat.zero_add]
    rw [← hv]
    have hj : j < 21 := (List.getElem?_eq_some_iff.1 hv).1
    match j, hj with
    | 0, _ => rfl
    | 1, _ => rfl
    | 2, _ => rfl
    | 3, _ => rfl
    | 4, _ => rfl
    | 5, _ => rfl
    | 6, _ => rfl
    | 7, _ => rfl
    | 8, _ => rfl
    | 9, _ => rfl
    | 10, _ => rfl
    | 11, _ => rfl
    | 12, _ => rfl
    | 13, _ => rfl
    | 14, _ => rfl
    | 15, _ => rfl
    | 16, _ => rfl
    | 17, _ => rfl
    | 18, _ => rfl
    | 19, _ => rfl
    | 20, _ => rfl
    | j + 21, h => omega
theorem NS.range_ra {w : World} {b : Nat} {s : NS} {t : TypeId} {fr : Nat × Nat} (h : w.heap[b]? = some (.cells s.c t fr)) : w.rangeAt b 8 s.p.a.rg.c.toList :=
  range_of_row h 8 _ fun j v hv => by
    rw [← hv]
    have hj : j < 6 := (List.getElem?_eq_some_iff.1 hv).1
    match j, hj with
    | 0, _ => rfl
    | 1, _ => rfl
    | 2, _ => rfl
    | 3, _ => rfl
    | 4, _ => rfl
    | 5, _ => rfl
    | j + 6, h => omega
theorem NS.range_rb {w : World} {b : Nat} {s : NS} {t : TypeId} {fr : Nat × Nat} (h : w.heap[b]? = some (.cells s.c t fr)) : w.rangeAt b 15 s.p.b.rg.c.toList :=
  range_of_row h 15 _ fun j v hv => by
    rw [← hv]
    have hj : j < 6 := (List.getElem?_eq_some_iff.1 hv).1
    match j, hj with
    | 0, _ => rfl
    | 1, _ => rfl
    | 2, _ => rfl
    | 3, _ => rfl
    | 4, _ => rfl
    | 5, _ => rfl
    | j + 6, h => omega
def NS.works (s : NS) (one : Bool) : Prop := s.p.live ∧ (s.q one).rdy = true
instance (s : NS) (one : Bool) : Decidable (s.works one) := by unfold NS.works; infer_instance
set_option maxRecDepth 100000 in
set_option maxHeartbeats 2000000 in
theorem nic_works0 (c : Array Value) (l : List Value) (lv rd : Bool) (g : Nat) (w : World) (hsz : c.size = 23) (hrd : c[7]? = some (.bool rd)) (hll : l.length = 21) (hl : ∀ (j : Nat) v, l[j]? = some v → c[0 + j]? = some v)
    (HL : Hid (∀ W, Calls Tryd.prog 57 #[.agg l.toArray] W fun e w' => e = .returned (.bool lv) ∧ Below W.heap.size W w')) :
    Calls Tryd.prog 41 #[.agg c, .int .i64 0, .pointer (some ⟨g, 0, none⟩)] w fun e w' => e = .returned (.bool (lv && rd)) ∧ Below w.heap.size w w' := by
  have hr0 := Lib.hid (show (w.alloc (.cells c 75)).heap[w.heap.size]? = some (.cells c 75 (0, 0)) from heap_alloc_new _ _)
  have HB0 := Lib.hid (show Below w.heap.size w (w.alloc (.cells c 75)) from (Below.refl _ _).alloc (Nat.le_refl _) _)
  have HRG := Lib.hid (range_of_row hr0.out 0 l hl)
  have HI := Lib.hid (show (Tryd.prog.info? 73).map (·.size) = some l.length by rw [hll]; kernel_rfl)
  have HRD := Lib.hid hrd
  clear hl hll hsz hrd
  go_enter Tryd.func41, Tryd.ntmps41
  go_wp2_with (first | go_skip | (refine load_midW rfl 73 _ rfl w.heap.size 0 rfl l _ HRG.out Tryd.underlying73 rfl HI.out ?_))
  refine (HL.out _).mono ?_
  rintro e w1 ⟨rfl, hb⟩
  have hr1 := Lib.hid (below_cells hr0.out hb)
  have hc7 := (cell_of_row _ _ 7 _ _ _ hr1.out).trans HRD.out
  have HB1 := Lib.hid (HB0.out.trans (hb.mono HB0.out.size))
  clear hb hr0 HB0 HRG
  cases lv
  · go_wp2_with fail
    go_ret
    exact ⟨rfl, HB1.out⟩
  · go_wp2_with fail
    go_ret
    exact ⟨by simp, HB1.out⟩
set_option maxRecDepth 100000 in
set_option maxHeartbeats 2000000 in
theorem nic_works1 (c : Array Value) (l : List Value) (lv rd : Bool) (g : Nat) (w : World) (hsz : c.size = 23) (hrd : c[14]? = some (.bool rd)) (hll : l.length = 21) (hl : ∀ (j : Nat) v, l[j]? = some v → c[0 + j]? = some v)
    (HL : Hid (∀ W, Calls Tryd.prog 57 #[.agg l.toArray] W fun e w' => e = .returned (.bool lv) ∧ Below W.heap.size W w')) :
    Calls Tryd.prog 41 #[.agg c, .int .i64 1, .pointer (some ⟨g, 0, none⟩)] w fun e w' => e = .returned (.bool (lv && rd)) ∧ Below w.heap.size w w' := by
  have hr0 := Lib.hid (show (w.alloc (.cells c 75)).heap[w.heap.size]? = some (.cells c 75 (0, 0)) from heap_alloc_new _ _)
  have HB0 := Lib.hid (show Below w.heap.size w (w.alloc (.cells c 75)) from (Below.refl _ _).alloc (Nat.le_refl _) _)
  have HRG := Lib.hid (range_of_row hr0.out 0 l hl)
  have HI := Lib.hid (show (Tryd.prog.info? 73).map (·.size) = some l.length by rw [hll]; kernel_rfl)
  have HRD := Lib.hid hrd
  clear hl hll hsz hrd
  go_enter Tryd.func41, Tryd.ntmps41
  go_wp2_with (first | go_skip | (refine load_midW rfl 73 _ rfl w.heap.size 0 rfl l _ HRG.out Tryd.underlying73 rfl HI.out ?_))
  refine (HL.out _).mono ?_
  rintro e w1 ⟨rfl, hb⟩
  have hr1 := Lib.hid (below_cells hr0.out hb)
  have hc7 := (cell_of_row _ _ 14 _ _ _ hr1.out).trans HRD.out
  have HB1 := Lib.hid (HB0.out.trans (hb.mono HB0.out.size))
  clear hb hr0 HB0 HRG
  cases lv
  · go_wp2_with fail
    go_ret
    exact ⟨rfl, HB1.out⟩
  · go_wp2_with fail
    go_ret
    exact ⟨by simp, HB1.out⟩
end Go.Proofs.YtcmbnkmbaghkdaaDoor

/-
pinnacelaw16.givePort, walked: a state of the reference is the program's, cell by cell.
No condition.
-/
import Derived.Test.YtcmbnkmbaghkdaaDoorVioFail
import Derived.OwnWalk
import Derived.StillTailTactics
namespace Go.Proofs.YtcmbnkmbaghkdaaDoor
open Go.RowKit
theorem heap_setCells (b : Nat) (t : TypeId) : ∀ (vs : List Value) (o : Nat) (w : World) (d : Array Value), w.heap[b]? = some (.cells d t (0, 0)) →
    ∃ d' : Array Value, (w.setCells b o vs).heap[b]? = some (.cells d' t (0, 0)) ∧ d'.size = d.size ∧ (∀ j, j < o ∨ o + vs.length ≤ j → d'[j]? = d[j]?) ∧ (∀ j, j < vs.length → o + j < d.size → d'[o + j]? = vs[j]?)
  | [], o, w, d, h => ⟨d, h, rfl, fun _ _ => rfl, fun j hj => absurd hj (by simp)⟩
  | v :: r, o, w, d, h => by
    obtain ⟨d', h1, h2, h3, h4⟩ := heap_setCells b t r (o + 1) (w.setCell ⟨b, o, none⟩ v) _ (heap_setCell_same w b o d t v h)
    refine ⟨d', h1, by rw [h2]; simp, fun j hj => ?_, fun j hj hd => ?_⟩
    · rw [h3 j (by simp at hj; omega), Array.getElem?_setIfInBounds, if_neg (by simp at hj; omega)]
    · cases j with
      | zero =>
        rw [Nat.add_zero, h3 o (by omega), Array.getElem?_setIfInBounds, if_pos rfl, if_pos (by simpa using hd)]; rfl
      | succ j =>
        have := h4 j (by simpa using hj) (by simp; omega)
        rw [show o + (j + 1) = o + 1 + j by omega, this]; rfl
theorem heap_setCells_other (b k : Nat) (hk : k ≠ b) : ∀ (vs : List Value) (o : Nat) (w : World), (w.setCells b o vs).heap[k]? = w.heap[k]?
  | [], _, _ => rfl
  | v :: r, o, w => by
    rw [World.setCells, heap_setCells_other b k hk r (o + 1)]
    exact heap_setCell_other _ _ _ _ hk
theorem below_setCells {B b : Nat} (hb : B ≤ b) {a : World} : ∀ (vs : List Value) (o : Nat) (w : World), Below B a w → Below B a (w.setCells b o vs)
  | [], _, _, h => h
  | v :: r, o, w, h => by
    rw [World.setCells]
    exact below_setCells hb r (o + 1) _ (h.setCell (p := ⟨b, o, none⟩) hb v)
theorem there_of_row {w : World} {b : Nat} {cs : Array Value} {t : TypeId} (h : w.heap[b]? = some (.cells cs t (0, 0))) (o n : Nat) (hn : o + n ≤ cs.size) : w.there b o n := fun j hj => by
  refine ⟨?_, frozen_of_row _ _ _ _ _ h⟩
  rw [cell_of_row _ _ _ _ _ _ h, Array.getElem?_eq_getElem (by omega)]; rfl
def givenRow (x0 x1 x2 x3 x4 x5 x6 : Nat) : Array Value := #[.int .u32 x0, .int .u32 x1, .int .u32 x2, .int .u32 x3, .int .u32 x4, .int .u32 x5, .int .u32 x6, .bool false, .int .i64 0, .int .u32 0, .int .u32 0, .int .u32 0, .int .u16 0, .int .u16 0, .bool false, .int .i64 0, .int .u32 0, .int .u32 0, .int .u32 0, .int .u16 0, .int .u16 0]
theorem row_eq {c d : Array Value} (hc : c.size = 21) (hd : d.size = 21) (h : ∀ j, j < 21 → d[j]? = c[j]?) : d = c := by
  apply Array.ext_getElem?
  intro i
  by_cases hi : i < 21
  · exact h i hi
  · rw [Array.getElem?_eq_none (by omega), Array.getElem?_eq_none (by omega)]
theorem given_same {c : Array Value} {x0 x1 x2 x3 x4 x5 x6 : Nat} (h0 : c[0]? = some (.int .u32 x0)) (h1 : c[1]? = some (.int .u32 x1)) (h2 : c[2]? = some (.int .u32 x2)) (h3 : c[3]? = some (.int .u32 x3))
    (h4 : c[4]? = some (.int .u32 x4)) (h5 : c[5]? = some (.int .u32 x5)) (h6 : c[6]? = some (.int .u32 x6)) : ∀ j, j < 7 → (givenRow x0 x1 x2 x3 x4 x5 x6)[j]? = c[j]? := fun _ hj =>
  seven (P := fun i => (givenRow x0 x1 x2 x3 x4 x5 x6)[i]? = c[i]?) hj h0.symm h1.symm h2.symm h3.symm h4.symm h5.symm h6.symm

def QAt (c : Array Value) (o : Nat) : Prop := ∃ q : VQ, ∀ j, j < 7 → c[o + j]? = q.l[j]?
theorem VS.qa (s : VS) : QAt s.c 7 := ⟨s.a, fun _ hj => seven (P := fun i => s.c[7 + i]? = s.a.l[i]?) hj rfl rfl rfl rfl rfl rfl rfl⟩
theorem VS.qb (s : VS) : QAt s.c 14 := ⟨s.b, fun _ hj => seven (P := fun i => s.c[14 + i]? = s.b.l[i]?) hj rfl rfl rfl rfl rfl rfl rfl⟩

set_option maxRecDepth 100000 in
set_option maxHeartbeats 2000000 in
theorem give_port_row (c : Array Value) (x0 x1 x2 x3 x4 x5 x6 : Nat) (w : World) (hcz : c.size = 21)
   (h0 : c[0]? = some (.int .u32 x0)) (h1 : c[1]? = some (.int .u32 x1)) (h2 : c[2]? = some (.int .u32 x2)) (h3 : c[3]? = some (.int .u32 x3)) (h4 : c[4]? = some (.int .u32 x4)) (h5 : c[5]? = some (.int .u32 x5)) (h6 : c[6]? = some (.int .u32 x6))
   (hone : c.all (·.oneCell') = true) (hqa : QAt c 7) (hqb : QAt c 14) :
    Calls Tryd.prog 46 #[.agg c] w fun e w' => e = .returned (.agg c) ∧ Below w.heap.size w w' := by
  have HQ := Lib.hid (And.intro hqa hqb)
  have HONE := Lib.hid hone
  have HI := Lib.hid (show (Tryd.prog.info? 73).map (·.size) = some c.size by rw [hcz]; kernel_rfl)
  have HA := Lib.hid (show ((w.alloc (.cells c 57)).alloc (.cells VS.zero.c 73)).heap[w.heap.size]? = some (.cells c 57 (0, 0)) from heap_alloc2_old _ _ _)
  have HZ := Lib.hid (show ((w.alloc (.cells c 57)).alloc (.cells VS.zero.c 73)).heap[w.heap.size + 1]? = some (.cells VS.zero.c 73 (0, 0)) from heap_alloc2_new _ _ _)
  have HR : Hid (((w.alloc (.cells c 57)).alloc (.cells VS.zero.c 73)).rangeAt w.heap.size 5 [.int .u32 x5, .int .u32 x6]) := Lib.hid (range_of_row HA.out 5 _ fun j v hv => by
    match j with
    | 0 => exact h5.trans hv
    | 1 => exact h6.trans hv
    | (j+2) => simp at hv)
  have HB := Lib.hid (show (((w.alloc (.cells c 57)).alloc (.cells VS.zero.c 73)).alloc (.cells VS.zero.c 73)).heap[w.heap.size + 1 + 1]? = some (.cells VS.zero.c 73 (0, 0)) by
    have := heap_alloc_new ((w.alloc (.cells c 57)).alloc (.cells VS.zero.c 73)) (.cells VS.zero.c 73)
    simpa using this)
  have HBA := Lib.hid (show (((w.alloc (.cells c 57)).alloc (.cells VS.zero.c 73)).alloc (.cells VS.zero.c 73)).heap[w.heap.size]? = some (.cells c 57 (0, 0)) by
    exact (heap_alloc_old _ _ (by simp; omega)).trans HA.out)
  have HBZ := Lib.hid (show (((w.alloc (.cells c 57)).alloc (.cells VS.zero.c 73)).alloc (.cells VS.zero.c 73)).heap[w.heap.size + 1]? = some (.cells VS.zero.c 73 (0, 0)) by
    exact (heap_alloc_old _ _ (by simp)).trans HZ.out)
  have HBL := Lib.hid ((((Below.refl w.heap.size w).alloc (Nat.le_refl _) (.cells c 57)).alloc (by simp) (.cells VS.zero.c 73)).alloc (by simp; omega) (.cells VS.zero.c 73))
  have HI' := Lib.hid (show (Tryd.prog.info? 73).map (·.size) = some (givenRow x0 x1 x2 x3 x4 x5 x6).size by kernel_rfl)
  have HO := Lib.hid (show (givenRow x0 x1 x2 x3 x4 x5 x6).all (·.oneCell') = true by simp [givenRow, Value.oneCell'])
  have HG := Lib.hid (given_same h0 h1 h2 h3 h4 h5 h6)
  have HGZ := Lib.hid (show (givenRow x0 x1 x2 x3 x4 x5 x6).size = 21 from rfl)
  have HCZ := Lib.hid hcz
  have g0 := get_of h0
  have g1 := get_of h1
  have g2 := get_of h2
  have g3 := get_of h3
  have g4 := get_of h4
  clear hqa hqb hone
  go_enter Tryd.func46, Tryd.ntmps46
  go_wp2_with (first | (refine load_midW rfl 49 _ rfl w.heap.size 5 rfl _ _ HR.out Tryd.underlying49 rfl (by kernel_rfl) ?_) | (refine wpList_store_row rfl 73 _ _ rfl (w.heap.size + 1 + 1) (givenRow x0 x1 x2 x3 x4 x5 x6) rfl rfl 73 VS.zero.c HB.out HI'.out rfl HO.out ?_))
  clear g0 g1 g2 g3 g4 h0 h1 h2 h3 h4 h5 h6 hcz
  go_loopw [4] (fun i wr => ∃ (k : Nat) (d : Array Value), k ≤ 2 ∧ i = .int .i64 k ∧ wr.heap[w.heap.size]? = some (.cells c 57 (0, 0)) ∧ wr.heap[w.heap.size + 1]? = some (.cells VS.zero.c 73 (0, 0))
      ∧ wr.heap[w.heap.size + 1 + 1]? = some (.cells d 73 (0, 0)) ∧ d.size = 21 ∧ (∀ j, j < 7 + 7 * k → d[j]? = c[j]?) ∧ Below w.heap.size w wr) (fun i _ => 2 - (intOf i).toNat)
  case atStart =>
    exact ⟨0, _, by omega, rfl, (setRow_other _ _ _ _ (by omega)).trans HBA.out, (setRow_other _ _ _ _ (by omega)).trans HBZ.out, setRow_heap _ _ _ _ _ _ HB.out, HGZ.out, HG.out, below_setRow HBL.out (by omega) _⟩
  case round =>
    obtain ⟨k, d, hk2, rfl, hrA, hrZ, hrD, hdz, hdc, hbl⟩ := hrel
    have HRA := Lib.hid hrA
    have HRZ := Lib.hid hrZ
    have HRD := Lib.hid hrD
    have HDC := Lib.hid hdc
    have HRB := Lib.hid hbl
    have HDZ := Lib.hid hdz
    clear hrA hrZ hrD hdc hbl hdz HBA HBZ HB HBL HA HZ HR HG HGZ HI' HO
    obtain ⟨hqa, hqb⟩ := HQ.out
    by_cases hk : k = 2
    · subst hk
      have HDE : Hid (d = c) := Lib.hid (row_eq HCZ.out HDZ.out HDC.out)
      rw [HDE.out] at HRD
      have HSZ : Hid (VS.zero.c.size = c.size) := Lib.hid (by rw [HCZ.out]; rfl)
      go_wp2_with (first | (refine wpList_load_row rfl 73 _ rfl (w.heap.size + 1 + 1) rfl 73 c (0, 0) _ HRD.out Tryd.underlying73 rfl HI.out ?_) | (refine wpList_store_row rfl 73 _ _ rfl (w.heap.size + 1) c rfl rfl 73 VS.zero.c HRZ.out HI.out HSZ.out HONE.out ?_))
      exact bodyPost_ret (v := .agg c) (results_cell_row rfl _ _ (w.heap.size + 1) 73 c (0, 0) _ rfl (setRow_heap _ _ _ _ _ _ HRZ.out) Tryd.underlying73 rfl HI.out) rfl ⟨rfl, below_setRow HRB.out (by omega) _⟩
    · obtain rfl | rfl : k = 0 ∨ k = 1 := by omega
      · obtain ⟨q, hq⟩ := hqa
        have e0 : wr.cell? ⟨w.heap.size, 7, none⟩ = some (.bool q.rdy) := (cell_of_row _ _ 7 _ _ _ HRA.out).trans (hq 0 (by omega))
        have e1 : wr.cell? ⟨w.heap.size, 8, none⟩ = some (.int .i64 q.size) := (cell_of_row _ _ 8 _ _ _ HRA.out).trans (hq 1 (by omega))
        have e2 : wr.cell? ⟨w.heap.size, 9, none⟩ = some (.int .u32 q.de) := (cell_of_row _ _ 9 _ _ _ HRA.out).trans (hq 2 (by omega))
        have e3 : wr.cell? ⟨w.heap.size, 10, none⟩ = some (.int .u32 q.av) := (cell_of_row _ _ 10 _ _ _ HRA.out).trans (hq 3 (by omega))
        have e4 : wr.cell? ⟨w.heap.size, 11, none⟩ = some (.int .u32 q.us) := (cell_of_row _ _ 11 _ _ _ HRA.out).trans (hq 4 (by omega))
        have e5 : wr.cell? ⟨w.heap.size, 12, none⟩ = some (.int .u16 q.la) := (cell_of_row _ _ 12 _ _ _ HRA.out).trans (hq 5 (by omega))
        have e6 : wr.cell? ⟨w.heap.size, 13, none⟩ = some (.int .u16 q.pu) := (cell_of_row _ _ 13 _ _ _ HRA.out).trans (hq 6 (by omega))
        go_wp2_with fail
        go_still_tail 13, (by kernel_rfl)
        have HQO := Lib.hid (show (#[.bool q.rdy, .int .i64 q.size, .int .u32 q.de, .int .u32 q.av, .int .u32 q.us, .int .u16 q.la, .int .u16 q.pu] : Array Value).all (·.oneCell') = true by simp [Value.oneCell'])
        have HRA2 := Lib.hid (show wr.drew.heap[w.heap.size]? = _ from HRA.out)
        have HRZ2 := Lib.hid (show wr.drew.heap[w.heap.size + 1]? = _ from HRZ.out)
        have HRD2 := Lib.hid (show wr.drew.heap[w.heap.size + 1 + 1]? = _ from HRD.out)
        have HRB2 := Lib.hid HRB.out.drew
        change wpList _ _ _ _ _ wr.drew
        generalize wr.drew = w2 at HRA2 HRZ2 HRD2 HRB2 ⊢
        have HT := Lib.hid (show w2.there (w.heap.size + 1 + 1) 7 (#[.bool q.rdy, .int .i64 q.size, .int .u32 q.de, .int .u32 q.av, .int .u32 q.us, .int .u16 q.la, .int .u16 q.pu] : Array Value).size from there_of_row HRD2.out 7 7 (by rw [HDZ.out]; omega))
        obtain ⟨d', k1, k2, k3, k4⟩ := heap_setCells (w.heap.size + 1 + 1) 73 [.bool q.rdy, .int .i64 q.size, .int .u32 q.de, .int .u32 q.av, .int .u32 q.us, .int .u16 q.la, .int .u16 q.pu] 7 w2 d HRD2.out
        have HK1 := Lib.hid k1
        have HK2 := Lib.hid k2
        have HK3 := Lib.hid k3
        have HK4 := Lib.hid k4
        have HKA := Lib.hid ((heap_setCells_other (w.heap.size + 1 + 1) w.heap.size (by omega) [.bool q.rdy, .int .i64 q.size, .int .u32 q.de, .int .u32 q.av, .int .u32 q.us, .int .u16 q.la, .int .u16 q.pu] 7 w2).trans HRA2.out)
        have HKZ := Lib.hid ((heap_setCells_other (w.heap.size + 1 + 1) (w.heap.size + 1) (by omega) [.bool q.rdy, .int .i64 q.size, .int .u32 q.de, .int .u32 q.av, .int .u32 q.us, .int .u16 q.la, .int .u16 q.pu] 7 w2).trans HRZ2.out)
        have HKB := Lib.hid (below_setCells (b := w.heap.size + 1 + 1) (by omega) [.bool q.rdy, .int .i64 q.size, .int .u32 q.de, .int .u32 q.av, .int .u32 q.us, .int .u16 q.la, .int .u16 q.pu] 7 w2 HRB2.out)
        clear k1 k2 k3 k4
        go_wp2_with (refine wpList_store_mid rfl 70 _ _ rfl (w.heap.size + 1 + 1) 7 #[.bool q.rdy, .int .i64 q.size, .int .u32 q.de, .int .u32 q.av, .int .u32 q.us, .int .u16 q.la, .int .u16 q.pu] rfl ?hy ?ht ?hi ?ho ?_)
        case hy => rfl
        case ht => exact HT.out
        case hi => kernel_rfl
        case ho => exact HQO.out
        case roundEnd =>
          refine ⟨⟨1, d', by omega, rfl, HKA.out, HKZ.out, HK1.out, HK2.out.trans HDZ.out, fun j hj => ?_, HKB.out⟩, by decide⟩
          by_cases h : j < 7
          · rw [HK3.out j (.inl h)]; exact HDC.out j (by omega)
          · obtain ⟨m, rfl⟩ : ∃ m, j = 7 + m := ⟨j - 7, by omega⟩
            rw [HK4.out m (by simp; omega) (by rw [HDZ.out]; omega), hq m (by omega)]; rfl
      · obtain ⟨q, hq⟩ := hqb
        have e0 : wr.cell? ⟨w.heap.size, 14, none⟩ = some (.bool q.rdy) := (cell_of_row _ _ 14 _ _ _ HRA.out).trans (hq 0 (by omega))
        have e1 : wr.cell? ⟨w.heap.size, 15, none⟩ = some (.int .i64 q.size) := (cell_of_row _ _ 15 _ _ _ HRA.out).trans (hq 1 (by omega))
        have e2 : wr.cell? ⟨w.heap.size, 16, none⟩ = some (.int .u32 q.de) := (cell_of_row _ _ 16 _ _ _ HRA.out).trans (hq 2 (by omega))
        have e3 : wr.cell? ⟨w.heap.size, 17, none⟩ = some (.int .u32 q.av) := (cell_of_row _ _ 17 _ _ _ HRA.out).trans (hq 3 (by omega))
        have e4 : wr.cell? ⟨w.heap.size, 18, none⟩ = some (.int .u32 q.us) := (cell_of_row _ _ 18 _ _ _ HRA.out).trans (hq 4 (by omega))
        have e5 : wr.cell? ⟨w.heap.size, 19, none⟩ = some (.int .u16 q.la) := (cell_of_row _ _ 19 _ _ _ HRA.out).trans (hq 5 (by omega))
        have e6 : wr.cell? ⟨w.heap.size, 20, none⟩ = some (.int .u16 q.pu) := (cell_of_row _ _ 20 _ _ _ HRA.out).trans (hq 6 (by omega))
        go_wp2_with fail
        go_still_tail 13, (by kernel_rfl)
        have HQO := Lib.hid (show (#[.bool q.rdy, .int .i64 q.size, .int .u32 q.de, .int .u32 q.av, .int .u32 q.us, .int .u16 q.la, .int .u16 q.pu] : Array Value).all (·.oneCell') = true by simp [Value.oneCell'])
        have HRA2 := Lib.hid (show wr.drew.heap[w.heap.size]? = _ from HRA.out)
        have HRZ2 := Lib.hid (show wr.drew.heap[w.heap.size + 1]? = _ from HRZ.out)
        have HRD2 := Lib.hid (show wr.drew.heap[w.heap.size + 1 + 1]? = _ from HRD.out)
        have HRB2 := Lib.hid HRB.out.drew
        change wpList _ _ _ _ _ wr.drew
        generalize wr.drew = w2 at HRA2 HRZ2 HRD2 HRB2 ⊢
        have HT := Lib.hid (show w2.there (w.heap.size + 1 + 1) 14 (#[.bool q.rdy, .int .i64 q.size, .int .u32 q.de, .int .u32 q.av, .int .u32 q.us, .int .u16 q.la, .int .u16 q.pu] : Array Value).size from there_of_row HRD2.out 14 7 (by rw [HDZ.out]; omega))
        obtain ⟨d', k1, k2, k3, k4⟩ := heap_setCells (w.heap.size + 1 + 1) 73 [.bool q.rdy, .int .i64 q.size, .int .u32 q.de, .int .u32 q.av, .int .u32 q.us, .int .u16 q.la, .int .u16 q.pu] 14 w2 d HRD2.out
        have HK1 := Lib.hid k1
        have HK2 := Lib.hid k2
        have HK3 := Lib.hid k3
        have HK4 := Lib.hid k4
        have HKA := Lib.hid ((heap_setCells_other (w.heap.size + 1 + 1) w.heap.size (by omega) [.bool q.rdy, .int .i64 q.size, .int .u32 q.de, .int .u32 q.av, .int .u32 q.us, .int .u16 q.la, .int .u16 q.pu] 14 w2).trans HRA2.out)
        have HKZ := Lib.hid ((heap_setCells_other (w.heap.size + 1 + 1) (w.heap.size + 1) (by omega) [.bool q.rdy, .int .i64 q.size, .int .u32 q.de, .int .u32 q.av, .int .u32 q.us, .int .u16 q.la, .int .u16 q.pu] 14 w2).trans HRZ2.out)
        have HKB := Lib.hid (below_setCells (b := w.heap.size + 1 + 1) (by omega) [.bool q.rdy, .int .i64 q.size, .int .u32 q.de, .int .u32 q.av, .int .u32 q.us, .int .u16 q.la, .int .u16 q.pu] 14 w2 HRB2.out)
        clear k1 k2 k3 k4
        go_wp2_with (refine wpList_store_mid rfl 70 _ _ rfl (w.heap.size + 1 + 1) 14 #[.bool q.rdy, .int .i64 q.size, .int .u32 q.de, .int .u32 q.av, .int .u32 q.us, .int .u16 q.la, .int .u16 q.pu] rfl ?hy ?ht ?hi ?ho ?_)
        case hy => rfl
        case ht => exact HT.out
        case hi => kernel_rfl
        case ho => exact HQO.out
        case roundEnd =>
          refine ⟨⟨2, d', by omega, rfl, HKA.out, HKZ.out, HK1.out, HK2.out.trans HDZ.out, fun j hj => ?_, HKB.out⟩, by decide⟩
          by_cases h : j < 14
          · rw [HK3.out j (.inl h)]; exact HDC.out j (by omega)
          · obtain ⟨m, rfl⟩ : ∃ m, j = 14 + m := ⟨j - 14, by omega⟩
            rw [HK4.out m (by simp; omega) (by rw [HDZ.out]; omega), hq m (by omega)]; rfl
theorem give_port (s : VS) (w : World) : Calls Tryd.prog 46 #[s.v] w fun e w' => e = .returned s.v ∧ Below w.heap.size w w' :=
  give_port_row s.c s.st s.fs s.ds s.se s.irq s.d0 s.d1 w rfl rfl rfl rfl rfl rfl rfl rfl s.c_one s.qa s.qb
end Go.Proofs.YtcmbnkmbaghkdaaDoor

/-
The reference's Write, walked: the same plain function of the state, the place and the value.
No condition.
-/
import Derived.Test.YtenafjdlaefepaaDoorPlicWrite
namespace Go.Proofs.YtenafjdlaefepaaDoor
open Go.RowKit

theorem Below.lt_of_row {W : World} {b : Nat} {o : Obj} (h : W.heap[b]? = some o) : b < W.heap.size := by
  obtain ⟨h, _⟩ := Array.getElem?_eq_some_iff.1 h; exact h

set_option maxRecDepth 100000 in
set_option maxHeartbeats 2000000 in
theorem ref9_Write (s : PS) (at_ v : Nat) (hs : s.wf) (ha : at_ < 4294967296) (hv : v < 4294967296) (w : World) :
    Calls Tryd.prog 26 #[s.v, .int .u32 at_, .int .u32 v] w fun e w' => e = .returned (.tuple #[(writeN s at_ v).1.v, .int .i64 ((writeN s at_ v).2 : Nat)]) ∧ Below w.heap.size w w' := by
  have HBU := Lib.hid hs.hbu
  clear hs
  obtain ⟨q, hq⟩ : ∃ q, q = writeN s at_ v := ⟨_, rfl⟩
  have HQ := Lib.hid hq
  rw [← hq]
  clear hq
  simp only [PS.v]
  go_enter Tryd.func26, Tryd.ntmps26
  go_wp2_with fail
  go_loopw [8] (fun i wr => ∃ k : Nat, k ≤ 8 ∧ i = .int .i64 k ∧ (∀ j, j < k → at_ ≠ 4 * j) ∧ wr.heap[w.heap.size]? = some (.cells s.c 25 (0, 0)) ∧ wr.heap[w.heap.size + 1]? = some (.cells PS.zero.c 25 (0, 0)) ∧ Below w.heap.size w wr) (fun i _ => 8 - (intOf i).toNat)
  case atStart => exact ⟨0, by omega, rfl, fun j hj => by omega, heap_alloc2_old _ _ _, heap_alloc2_new _ _ _, ((Below.refl _ _).alloc (Nat.le_refl _) _).alloc (by simp) _⟩
  case round =>
    obtain ⟨k, hk8, rfl, hno, hb, hz, hbl⟩ := hrel
    have hfr8 := frozen_of_row wr w.heap.size 8 _ _ hb
    have hfr9 := frozen_of_row wr w.heap.size 9 _ _ hb
    have hfr11 := frozen_of_row wr w.heap.size 11 _ _ hb
    have hc8 : wr.cell? ⟨w.heap.size, 8, none⟩ = some (.int .u32 s.en) := (cell_of_row wr w.heap.size 8 _ _ _ hb).trans rfl
    have hc9 : wr.cell? ⟨w.heap.size, 9, none⟩ = some (.int .u32 s.th) := (cell_of_row wr w.heap.size 9 _ _ _ hb).trans rfl
    have hc11 : wr.cell? ⟨w.heap.size, 11, none⟩ = some (.int .u32 s.bu) := (cell_of_row wr w.heap.size 11 _ _ _ hb).trans rfl
    have HB := Lib.hid hb
    have HZ := Lib.hid hz
    have HBL := Lib.hid hbl
    have HNO := Lib.hid hno
    clear hb hz hbl hno
    by_cases hk : k < 8
    · have hn7 : k ≤ 7 := by omega
      by_cases hat : at_ = 4 * k
      · have hq2 : q = (s.setP k (v % 8), 0) := by
          rw [HQ.out]; unfold writeN; rw [if_pos (by omega), show at_ / 4 = k by omega]
        have b0 : ((at_ : Int) == (4 * (k : Int))) = true := by simp; omega
        have b1 : ((at_ : Int) == (4 * (k : Int)) % 4294967296) = true := by simp; omega
        by_cases hk0 : k = 0
        · subst hk0
          have b2 : ((at_ : Int) == 0) = true := by simp; omega
          clear b0 b1 hat
          rw [setP_zero] at hq2
          have HF := Lib.hid hq2
          clear HQ hq2
          go_wp2_with (first | (refine wpList_load_row rfl 25 _ rfl w.heap.size rfl 25 s.c (0, 0) _ HB.out Tryd.underlying25 rfl (by kernel_rfl) ?_) | (refine wpList_store_row rfl 25 _ _ rfl (w.heap.size + 1) s.c rfl rfl 25 PS.zero.c HZ.out (by kernel_rfl) rfl (PS.c_one _) ?_))
          exact bodyPost_ret (v := .tuple #[s.v, .int .i64 0]) (results_cell_tmp Tryd.results26 _ _ (w.heap.size + 1) 25 s.c (0, 0) _ rfl (setRow_heap _ _ _ _ _ _ HZ.out) Tryd.underlying25 rfl (by kernel_rfl)) rfl ⟨by rw [HF.out]; rfl, below_setRow (HBL.out) (by simp) _⟩
        · have hk1 : 0 < k := by omega
          clear hat
          have HTC := Lib.hid (setP_c s k (v % 8) (by omega) hn7)
          obtain ⟨t, ht⟩ : ∃ t, t = s.setP k (v % 8) := ⟨_, rfl⟩
          rw [← ht] at HTC hq2
          have HF := Lib.hid hq2
          clear ht HQ hq2
          have hfrn := frozen_of_row wr w.heap.size k _ _ HB.out
          have hcn : wr.cell? ⟨w.heap.size, k, none⟩ = some (.int .u32 (s.pri k : Nat)) := (cell_of_row wr w.heap.size k _ _ _ HB.out).trans (PS.c_pri s k hn7)
          have HB2 : Hid ((wr.setCell ⟨w.heap.size, k, none⟩ (.int .u32 (v % 8 : Nat))).heap[w.heap.size]? = some (.cells t.c 25 (0, 0))) := Lib.hid (by rw [heap_setCell_same _ _ _ _ _ _ HB.out]; rw [HTC.out])
          have HZ2 : Hid ((wr.setCell ⟨w.heap.size, k, none⟩ (.int .u32 (v % 8 : Nat))).heap[w.heap.size + 1]? = some (.cells PS.zero.c 25 (0, 0))) := Lib.hid (by rw [heap_setCell_other _ _ _ _ (by simp)]; exact HZ.out)
          go_wp2_with (first | (refine wpList_load_row rfl 25 _ rfl w.heap.size rfl 25 t.c (0, 0) _ HB2.out Tryd.underlying25 rfl (by kernel_rfl) ?_) | (refine wpList_store_row rfl 25 _ _ rfl (w.heap.size + 1) t.c rfl rfl 25 PS.zero.c HZ2.out (by kernel_rfl) rfl (PS.c_one _) ?_))
          exact bodyPost_ret (v := .tuple #[t.v, .int .i64 0]) (results_cell_tmp Tryd.results26 _ _ (w.heap.size + 1) 25 t.c (0, 0) _ rfl (setRow_heap _ _ _ _ _ _ HZ2.out) Tryd.underlying25 rfl (by kernel_rfl)) rfl ⟨by rw [HF.out]; rfl, below_setRow (HBL.out.setCell (Nat.le_refl _) _) (by simp) _⟩
      · have hno2 : ∀ j, j < k + 1 → at_ ≠ 4 * j := fun j hj => by
          by_cases e : j = k
          · subst e; exact hat
          · exact HNO.out j (by omega)
        have HN2 := Lib.hid hno2
        have b0 : ((at_ : Int) == (4 * (k : Int))) = false := by simp; omega
        have b1 : ((at_ : Int) == (4 * (k : Int)) % 4294967296) = false := by simp; omega
        clear hno2 hat
        go_wp2_with fail
        go_roundw
        case rel => exact ⟨k + 1, by omega, by go_num, HN2.out, HB.out, HZ.out, HBL.out⟩
        case measure => simp [intOf]; omega
    · obtain rfl : k = 8 := by omega
      have hsrc : ¬ (at_ % 4 = 0 ∧ at_ / 4 ≤ 7) := fun h => HNO.out (at_ / 4) (by omega) (by omega)
      have hq2 : q = _ := HQ.out.trans (writeN_out s at_ v hsrc)
      have HF := Lib.hid hq2
      clear HQ hq2 hsrc HNO
      by_cases h1 : at_ = 4096
      · rw [if_pos h1] at HF
        subst h1
        go_wp2_with (first | (refine wpList_load_row rfl 25 _ rfl w.heap.size rfl 25 s.c (0, 0) _ HB.out Tryd.underlying25 rfl (by kernel_rfl) ?_) | (refine wpList_store_row rfl 25 _ _ rfl (w.heap.size + 1) s.c rfl rfl 25 PS.zero.c HZ.out (by kernel_rfl) rfl (PS.c_one _) ?_))
        exact bodyPost_ret (v := .tuple #[s.v, .int .i64 0]) (results_cell_tmp Tryd.results26 _ _ (w.heap.size + 1) 25 s.c (0, 0) _ rfl (setRow_heap _ _ _ _ _ _ HZ.out) Tryd.underlying25 rfl (by kernel_rfl)) rfl ⟨by rw [HF.out]; rfl, below_setRow (HBL.out) (by simp) _⟩
      · rw [if_neg h1] at HF
        have b1 : ((at_ : Int) == 4096) = false := by simp; omega
        by_cases h2 : at_ = 8192
        · rw [if_pos h2] at HF
          subst h2
          have e254 : (v : Int) % 256 / 2 * 2 = ((v &&& 254 : Nat) : Int) := by rw [and_254]; omega
          have e254b : Int.tdiv ((v : Int) % 256) 2 * 2 = ((v &&& 254 : Nat) : Int) := by rw [Int.tdiv_eq_ediv_of_nonneg (by omega)]; exact e254
          obtain ⟨t, ht⟩ : ∃ t : PS, t = { s with en := v &&& 254 } := ⟨_, rfl⟩
          rw [← ht] at HF
          have HTC : Hid (s.c.setIfInBounds 8 (.int .u32 (v &&& 254 : Nat)) = t.c) := Lib.hid (by rw [ht]; rfl)
          clear ht
          have HB2 : Hid ((wr.setCell ⟨w.heap.size, 8, none⟩ (.int .u32 (v &&& 254 : Nat))).heap[w.heap.size]? = some (.cells t.c 25 (0, 0))) := Lib.hid (by rw [heap_setCell_same _ _ _ _ _ _ HB.out]; rw [HTC.out])
          have HZ2 : Hid ((wr.setCell ⟨w.heap.size, 8, none⟩ (.int .u32 (v &&& 254 : Nat))).heap[w.heap.size + 1]? = some (.cells PS.zero.c 25 (0, 0))) := Lib.hid (by rw [heap_setCell_other _ _ _ _ (by simp)]; exact HZ.out)
          rw [← e254] at HB2 HZ2
          clear e254 e254b
          go_wp2_with (first | (refine wpList_load_row rfl 25 _ rfl w.heap.size rfl 25 t.c (0, 0) _ HB2.out Tryd.underlying25 rfl (by kernel_rfl) ?_) | (refine wpList_store_row rfl 25 _ _ rfl (w.heap.size + 1) t.c rfl rfl 25 PS.zero.c HZ2.out (by kernel_rfl) rfl (PS.c_one _) ?_))
          exact bodyPost_ret (v := .tuple #[t.v, .int .i64 0]) (results_cell_tmp Tryd.results26 _ _ (w.heap.size + 1) 25 t.c (0, 0) _ rfl (setRow_heap _ _ _ _ _ _ HZ2.out) Tryd.underlying25 rfl (by kernel_rfl)) rfl ⟨by rw [HF.out]; rfl, below_setRow (HBL.out.setCell (Nat.le_refl _) _) (by simp) _⟩
        · rw [if_neg h2] at HF
          have b2 : ((at_ : Int) == 8192) = false := by simp; omega
          by_cases h3 : at_ = 2097152
          · rw [if_pos h3] at HF
            subst h3
            obtain ⟨t, ht⟩ : ∃ t : PS, t = { s with th := v % 8 } := ⟨_, rfl⟩
            rw [← ht] at HF
            have HTC : Hid (s.c.setIfInBounds 9 (.int .u32 (v % 8 : Nat)) = t.c) := Lib.hid (by rw [ht]; rfl)
            clear ht
            have HB2 : Hid ((wr.setCell ⟨w.heap.size, 9, none⟩ (.int .u32 (v % 8 : Nat))).heap[w.heap.size]? = some (.cells t.c 25 (0, 0))) := Lib.hid (by rw [heap_setCell_same _ _ _ _ _ _ HB.out]; rw [HTC.out])
            have HZ2 : Hid ((wr.setCell ⟨w.heap.size, 9, none⟩ (.int .u32 (v % 8 : Nat))).heap[w.heap.size + 1]? = some (.cells PS.zero.c 25 (0, 0))) := Lib.hid (by rw [heap_setCell_other _ _ _ _ (by simp)]; exact HZ.out)
            go_wp2_with (first | (refine wpList_load_row rfl 25 _ rfl w.heap.size rfl 25 t.c (0, 0) _ HB2.out Tryd.underlying25 rfl (by kernel_rfl) ?_) | (refine wpList_store_row rfl 25 _ _ rfl (w.heap.size + 1) t.c rfl rfl 25 PS.zero.c HZ2.out (by kernel_rfl) rfl (PS.c_one _) ?_))
            exact bodyPost_ret (v := .tuple #[t.v, .int .i64 0]) (results_cell_tmp Tryd.results26 _ _ (w.heap.size + 1) 25 t.c (0, 0) _ rfl (setRow_heap _ _ _ _ _ _ HZ2.out) Tryd.underlying25 rfl (by kernel_rfl)) rfl ⟨by rw [HF.out]; rfl, below_setRow (HBL.out.setCell (Nat.le_refl _) _) (by simp) _⟩
          · rw [if_neg h3] at HF
            have b3 : ((at_ : Int) == 2097152) = false := by simp; omega
            by_cases h4 : at_ = 2097156
            · rw [if_pos h4] at HF
              subst h4
              by_cases h17 : 1 ≤ v ∧ v ≤ 7
              · rw [if_pos h17] at HF
                obtain ⟨h1v, h7v⟩ := h17
                have HS := Lib.hid (fun W => ref1_Set s.bu v 0 W HBU.out (by omega) (by omega))
                have esb : setBit s.bu v 0 = s.bu &&& (4294967295 - 2 ^ v) := by unfold setBit; rw [if_neg (by omega)]
                rw [esb] at HS
                clear esb
                obtain ⟨t, ht⟩ : ∃ t : PS, t = { s with bu := s.bu &&& (4294967295 - 2 ^ v) } := ⟨_, rfl⟩
                rw [← ht] at HF
                have HTC : Hid (s.c.setIfInBounds 11 (.int .u32 (s.bu &&& (4294967295 - 2 ^ v) : Nat)) = t.c) := Lib.hid (by rw [ht]; rfl)
                clear ht
                go_wp2_with fail
                refine (HS.out _).mono ?_
                rintro e w4 ⟨rfl, hb4⟩
                have hlt := Below.lt_of_row HB.out
                have hlt1 := Below.lt_of_row HZ.out
                have HB4 : Hid (w4.heap[w.heap.size]? = some (.cells s.c 25 (0, 0))) := Lib.hid ((hb4.block _ hlt).trans HB.out)
                have HZ4 : Hid (w4.heap[w.heap.size + 1]? = some (.cells PS.zero.c 25 (0, 0))) := Lib.hid ((hb4.block _ hlt1).trans HZ.out)
                have HBL4 : Hid (Below w.heap.size w w4) := Lib.hid (HBL.out.trans (hb4.mono HBL.out.size))
                have hfr11b := frozen_of_row w4 w.heap.size 11 _ _ HB4.out
                have hc11b : w4.cell? ⟨w.heap.size, 11, none⟩ = some (.int .u32 s.bu) := (cell_of_row w4 w.heap.size 11 _ _ _ HB4.out).trans rfl
                have HB2 : Hid ((w4.setCell ⟨w.heap.size, 11, none⟩ (.int .u32 (s.bu &&& (4294967295 - 2 ^ v) : Nat))).heap[w.heap.size]? = some (.cells t.c 25 (0, 0))) := Lib.hid (by rw [heap_setCell_same _ _ _ _ _ _ HB4.out]; rw [HTC.out])
                have HZ2 : Hid ((w4.setCell ⟨w.heap.size, 11, none⟩ (.int .u32 (s.bu &&& (4294967295 - 2 ^ v) : Nat))).heap[w.heap.size + 1]? = some (.cells PS.zero.c 25 (0, 0))) := Lib.hid (by rw [heap_setCell_other _ _ _ _ (by simp)]; exact HZ4.out)
                clear hb4 HB HZ
                go_wp2_with (first | (refine wpList_load_row rfl 25 _ rfl w.heap.size rfl 25 t.c (0, 0) _ HB2.out Tryd.underlying25 rfl (by kernel_rfl) ?_) | (refine wpList_store_row rfl 25 _ _ rfl (w.heap.size + 1) t.c rfl rfl 25 PS.zero.c HZ2.out (by kernel_rfl) rfl (PS.c_one _) ?_))
                exact bodyPost_ret (v := .tuple #[t.v, .int .i64 0]) (results_cell_tmp Tryd.results26 _ _ (w.heap.size + 1) 25 t.c (0, 0) _ rfl (setRow_heap _ _ _ _ _ _ HZ2.out) Tryd.underlying25 rfl (by kernel_rfl)) rfl ⟨by rw [HF.out]; rfl, below_setRow (HBL4.out.setCell (Nat.le_refl _) _) (by simp) _⟩
              · rw [if_neg h17] at HF
                by_cases h1v : 1 ≤ v
                · have h7v : ¬ v ≤ 7 := fun h => h17 ⟨h1v, h⟩
                  clear h17
                  go_wp2_with (first | (refine wpList_load_row rfl 25 _ rfl w.heap.size rfl 25 s.c (0, 0) _ HB.out Tryd.underlying25 rfl (by kernel_rfl) ?_) | (refine wpList_store_row rfl 25 _ _ rfl (w.heap.size + 1) s.c rfl rfl 25 PS.zero.c HZ.out (by kernel_rfl) rfl (PS.c_one _) ?_))
                  exact bodyPost_ret (v := .tuple #[s.v, .int .i64 0]) (results_cell_tmp Tryd.results26 _ _ (w.heap.size + 1) 25 s.c (0, 0) _ rfl (setRow_heap _ _ _ _ _ _ HZ.out) Tryd.underlying25 rfl (by kernel_rfl)) rfl ⟨by rw [HF.out]; rfl, below_setRow (HBL.out) (by simp) _⟩
                · clear h17
                  go_wp2_with (first | (refine wpList_load_row rfl 25 _ rfl w.heap.size rfl 25 s.c (0, 0) _ HB.out Tryd.underlying25 rfl (by kernel_rfl) ?_) | (refine wpList_store_row rfl 25 _ _ rfl (w.heap.size + 1) s.c rfl rfl 25 PS.zero.c HZ.out (by kernel_rfl) rfl (PS.c_one _) ?_))
                  exact bodyPost_ret (v := .tuple #[s.v, .int .i64 0]) (results_cell_tmp Tryd.results26 _ _ (w.heap.size + 1) 25 s.c (0, 0) _ rfl (setRow_heap _ _ _ _ _ _ HZ.out) Tryd.underlying25 rfl (by kernel_rfl)) rfl ⟨by rw [HF.out]; rfl, below_setRow (HBL.out) (by simp) _⟩
            · rw [if_neg h4] at HF
              have b4 : ((at_ : Int) == 2097156) = false := by simp; omega
              go_wp2_with (refine wpList_store_row rfl 25 _ _ rfl (w.heap.size + 1) PS.zero.c rfl rfl 25 PS.zero.c HZ.out (by kernel_rfl) rfl (PS.c_one _) ?_)
              exact bodyPost_ret (v := .tuple #[PS.zero.v, .int .i64 20]) (results_cell_tmp Tryd.results26 _ _ (w.heap.size + 1) 25 PS.zero.c (0, 0) _ rfl (setRow_heap _ _ _ _ _ _ HZ.out) Tryd.underlying25 rfl (by kernel_rfl)) rfl ⟨by rw [HF.out]; rfl, below_setRow HBL.out (by simp) _⟩
end Go.Proofs.YtenafjdlaefepaaDoor

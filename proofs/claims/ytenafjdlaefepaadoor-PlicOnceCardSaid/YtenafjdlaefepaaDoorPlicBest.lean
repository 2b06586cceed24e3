/-
pinnacelaw09.PlicBest, walked: it answers true.
Condition: math/bits' table reads as its text lays it.
-/
import Derived.Test.YtenafjdlaefepaaDoorPlicSure
namespace Go.Proofs.YtenafjdlaefepaaDoor
open Go.RowKit

/-- What the law asks of the source that is served next, for one source n. -/
theorem best_law (s : PS) (n : Nat) (h1 : 1 ≤ n) (h8 : n < 8) (hp : s.pe.testBit n = true) (he : s.en.testBit n = true) (ht : s.th < s.pri n) :
    s.best ≠ 0 ∧ s.pri n ≤ s.pri s.best ∧ (n < s.best → s.pri n ≠ s.pri s.best) := by
  have hm : s.mask.testBit n = true := by
    unfold PS.mask
    rw [Nat.testBit_and, Nat.testBit_and, hp, he]
    have : n = 1 ∨ n = 2 ∨ n = 3 ∨ n = 4 ∨ n = 5 ∨ n = 6 ∨ n = 7 := by omega
    rcases this with rfl | rfl | rfl | rfl | rfl | rfl | rfl <;> decide
  have key : ∀ k, k ≤ 8 → (bestK s.mask s.pri s.th k).1 < k ∨ (bestK s.mask s.pri s.th k).1 = 0 := fun k _ => by
    rcases Nat.eq_zero_or_pos k with rfl | h
    · exact .inr rfl
    · exact .inl (bestK_lt _ _ _ _ h)
  -- what top is; it never sinks; and what comes behind n is greater
  have top : ∀ k, ((bestK s.mask s.pri s.th k).1 = 0 ∧ (bestK s.mask s.pri s.th k).2 = s.th) ∨ ((bestK s.mask s.pri s.th k).2 = s.pri (bestK s.mask s.pri s.th k).1 ∧ s.th < (bestK s.mask s.pri s.th k).2) := by
    intro k
    induction k with
    | zero => exact .inl ⟨rfl, rfl⟩
    | succ k ih =>
      by_cases h : s.mask.testBit k = true ∧ (bestK s.mask s.pri s.th k).2 < s.pri k
      · have e : bestK s.mask s.pri s.th (k + 1) = (k, s.pri k) := by simp only [bestK]; rw [if_pos h]
        rw [e]
        refine .inr ⟨rfl, ?_⟩
        rcases ih with ih | ih
        · have := h.2; omega
        · have := h.2; omega
      · have e : bestK s.mask s.pri s.th (k + 1) = bestK s.mask s.pri s.th k := by simp only [bestK]; rw [if_neg h]
        rw [e]; exact ih
  have after : ∀ d, n + 1 + d ≤ 8 → s.pri n ≤ (bestK s.mask s.pri s.th (n + 1 + d)).2 ∧ ((bestK s.mask s.pri s.th (n + 1 + d)).1 ≤ n ∨ s.pri n < (bestK s.mask s.pri s.th (n + 1 + d)).2) := by
    intro d
    induction d with
    | zero =>
      intro _
      by_cases h : s.mask.testBit n = true ∧ (bestK s.mask s.pri s.th n).2 < s.pri n
      · have e : bestK s.mask s.pri s.th (n + 1) = (n, s.pri n) := by simp only [bestK]; rw [if_pos h]
        show s.pri n ≤ (bestK s.mask s.pri s.th (n + 1)).2 ∧ _
        rw [Nat.add_zero, e]
        exact ⟨Nat.le_refl _, .inl (Nat.le_refl _)⟩
      · have e : bestK s.mask s.pri s.th (n + 1) = bestK s.mask s.pri s.th n := by simp only [bestK]; rw [if_neg h]
        have h2 : ¬ (bestK s.mask s.pri s.th n).2 < s.pri n := fun hh => h ⟨hm, hh⟩
        rw [Nat.add_zero, e]
        refine ⟨by omega, .inl ?_⟩
        rcases key n (by omega) with hk | hk <;> omega
    | succ d ih =>
      intro hd
      obtain ⟨i1, i2⟩ := ih (by omega)
      by_cases h : s.mask.testBit (n + 1 + d) = true ∧ (bestK s.mask s.pri s.th (n + 1 + d)).2 < s.pri (n + 1 + d)
      · have e : bestK s.mask s.pri s.th (n + 1 + (d + 1)) = (n + 1 + d, s.pri (n + 1 + d)) := by
          show bestK s.mask s.pri s.th ((n + 1 + d) + 1) = _
          simp only [bestK]; rw [if_pos h]
        rw [e]
        have := h.2
        exact ⟨by show s.pri n ≤ s.pri (n + 1 + d); omega, .inr (by show s.pri n < s.pri (n + 1 + d); omega)⟩
      · have e : bestK s.mask s.pri s.th (n + 1 + (d + 1)) = bestK s.mask s.pri s.th (n + 1 + d) := by
          show bestK s.mask s.pri s.th ((n + 1 + d) + 1) = _
          simp only [bestK]; rw [if_neg h]
        rw [e]; exact ⟨i1, i2⟩
  obtain ⟨a1, a2⟩ := after (7 - n) (by omega)
  rw [show n + 1 + (7 - n) = 8 by omega] at a1 a2
  unfold PS.best
  rcases top 8 with ⟨t1, t2⟩ | ⟨t1, t2⟩
  · omega
  · refine ⟨fun h0 => ?_, by rw [← t1]; exact a1, fun hlt => by rw [← t1]; omega⟩
    -- best = 0 with top above the threshold: source 0 is never in the mask
    have hm0 : s.mask.testBit 0 = false := by
      unfold PS.mask; rw [Nat.testBit_and]
      have : (254 : Nat).testBit 0 = false := by decide
      rw [this, Bool.and_false]
    have z : ∀ k, (bestK s.mask s.pri s.th k).1 = 0 → (bestK s.mask s.pri s.th k).2 = s.th := by
      intro k
      induction k with
      | zero => intro _; rfl
      | succ k ih =>
        by_cases h : s.mask.testBit k = true ∧ (bestK s.mask s.pri s.th k).2 < s.pri k
        · have e : bestK s.mask s.pri s.th (k + 1) = (k, s.pri k) := by simp only [bestK]; rw [if_pos h]
          rw [e]
          intro (hk : k = 0)
          subst hk
          rw [hm0] at h
          exact absurd h.1 (by simp)
        · have e : bestK s.mask s.pri s.th (k + 1) = bestK s.mask s.pri s.th k := by simp only [bestK]; rw [if_neg h]
          rw [e]; exact ih
    have := z 8 h0
    omega

theorem bit_test (v k : Nat) (hv : v < 4294967296) : (bits BinOp.and IntKind.u32 ((v : Int) / 2 ^ k) 1 == 1) = v.testBit k := by
  have e : ((v : Int) / 2 ^ k) = ((v / 2 ^ k : Nat) : Int) := by rw [Int.natCast_ediv]; simp
  rw [e, show (1 : Int) = ((1 : Nat) : Int) from rfl, u32_and_nat _ _ (Nat.lt_of_le_of_lt (Nat.div_le_self _ _) hv) (by omega), Nat.testBit_eq_decide_div_mod_eq, nat_mask1]
  have h2 : v / 2 ^ k % 2 < 2 := Nat.mod_lt _ (by omega)
  by_cases h : v / 2 ^ k % 2 = 1
  · rw [h]; rfl
  · have : v / 2 ^ k % 2 = 0 := by omega
    rw [this]; rfl

set_option maxRecDepth 100000 in
set_option maxHeartbeats 4000000 in
theorem law_PlicBest (s : PS) (hs : s.wf) (w : World) (ht : Tab32 w) :
    Calls Tryd.prog 4 #[s.v] w fun e w' => e = .returned (.bool true) ∧ Below w.heap.size w w' := by
  have hpri : ∀ n, n < 8 → s.pri n < 4294967296 := fun n hn => by
    have : n = 0 ∨ n = 1 ∨ n = 2 ∨ n = 3 ∨ n = 4 ∨ n = 5 ∨ n = 6 ∨ n = 7 := by omega
    rcases this with rfl | rfl | rfl | rfl | rfl | rfl | rfl | rfl
    · exact hs.h0
    · exact hs.h1
    · exact hs.h2
    · exact hs.h3
    · exact hs.h4
    · exact hs.h5
    · exact hs.h6
    · exact hs.h7
  have HP := Lib.hid hpri
  have HBC := Lib.hid (plic_Best s hs)
  have hb7 := best_le7 s
  have HL := Lib.hid (fun n => best_law s n)
  have HT := Lib.hid ht
  have hpe := hs.hpe
  have hen := hs.hen
  have hth := hs.hth
  clear ht hpri hs
  unfold PS.v at HBC ⊢
  go_enter Tryd.func4, Tryd.ntmps4
  go_wp2_with fail
  refine (HBC.out _ (HT.out.below (((Below.refl _ _).alloc (Nat.le_refl _) _).alloc (by simp) _))).mono ?_
  rintro e w1 ⟨rfl, hb1⟩
  have HBL := Lib.hid ((((Below.refl w.heap.size w).alloc (Nat.le_refl _) _).alloc (by simp) _).trans (hb1.mono (by simp; omega)))
  have HX : Hid (w1.heap[w.heap.size + 1]? = some (.cells s.c 26 (0, 0))) := Lib.hid ((hb1.block _ (by simp)).trans (heap_alloc2_new _ _ _))
  clear hb1
  go_wp2_with fail
  go_loopw [5] (fun i wr => ∃ k : Nat, 1 ≤ k ∧ k ≤ 8 ∧ i = .int .i64 k ∧ ∃ m, wr = w1.drewN m) (fun i _ => 8 - (intOf i).toNat)
  case atStart => exact ⟨1, by omega, by omega, rfl, 0, rfl⟩
  case round =>
    obtain ⟨k, hk1, hk, rfl, m, rfl⟩ := hrel
    have hc10 : w1.cell? ⟨w.heap.size + 1, 10, none⟩ = some (.int .u32 s.pe) := (cell_of_row w1 (w.heap.size + 1) 10 _ _ _ HX.out).trans rfl
    have hc8 : w1.cell? ⟨w.heap.size + 1, 8, none⟩ = some (.int .u32 s.en) := (cell_of_row w1 (w.heap.size + 1) 8 _ _ _ HX.out).trans rfl
    have hc9 : w1.cell? ⟨w.heap.size + 1, 9, none⟩ = some (.int .u32 s.th) := (cell_of_row w1 (w.heap.size + 1) 9 _ _ _ HX.out).trans rfl
    have hcp : ∀ n, n < 8 → w1.cell? ⟨w.heap.size + 1, n, none⟩ = some (.int .u32 (s.pri n : Nat)) := fun n hn => by
      rw [cell_of_row w1 (w.heap.size + 1) n _ _ _ HX.out]
      have : n = 0 ∨ n = 1 ∨ n = 2 ∨ n = 3 ∨ n = 4 ∨ n = 5 ∨ n = 6 ∨ n = 7 := by omega
      rcases this with rfl | rfl | rfl | rfl | rfl | rfl | rfl | rfl <;> rfl
    have hcb := hcp s.best (by omega)
    by_cases hlt : k < 8
    · have hck := hcp k hlt
      have hpk := HP.out k hlt
      have hpb := HP.out s.best (by omega)
      clear hcp
      by_cases ha : s.pe.testBit k = true
      · have HA := Lib.hid ha
        have hab : (bits BinOp.and IntKind.u32 ((s.pe : Int) / 2 ^ k) 1 == 1) = true := by rw [bit_test _ _ hpe]; exact ha
        clear ha
        by_cases hb : s.en.testBit k = true
        · have HB := Lib.hid hb
          have hbb : (bits BinOp.and IntKind.u32 ((s.en : Int) / 2 ^ k) 1 == 1) = true := by rw [bit_test _ _ hen]; exact hb
          clear hb
          by_cases hc : s.th < s.pri k
          · obtain ⟨g1, g2, g3⟩ := HL.out k hk1 hlt HA.out HB.out hc
            have G3 := Lib.hid g3
            clear g3
            have hcb' : decide (s.th < s.pri k) = true := by simpa using hc
            have hg1 : ((s.best : Int) == 0) = false := by simpa using g1
            have hg2 : decide (s.pri s.best < s.pri k) = false := by simp; omega
            by_cases hf : k < s.best
            · have hff : decide (k < s.best) = true := by simpa using hf
              have hgg : ((s.pri k : Int) == (s.pri s.best : Int)) = false := by have := G3.out hf; simp; omega
              go_wp2_with fail
              go_quiet (fail)
              go_wp2_with fail
              go_roundw
              case rel => exact ⟨k + 1, by omega, by omega, by go_num, _, rfl⟩
              case measure => simp [intOf]; omega
            · have hff : decide (k < s.best) = false := by simp; omega
              go_wp2_with fail
              go_quiet (fail)
              go_wp2_with fail
              go_roundw
              case rel => exact ⟨k + 1, by omega, by omega, by go_num, _, rfl⟩
              case measure => simp [intOf]; omega
          · have hcb' : decide (s.th < s.pri k) = false := by simp; omega
            go_wp2_with fail
            go_quiet (fail)
            go_wp2_with fail
            go_roundw
            case rel => exact ⟨k + 1, by omega, by omega, by go_num, _, rfl⟩
            case measure => simp [intOf]; omega
        · have hbb : (bits BinOp.and IntKind.u32 ((s.en : Int) / 2 ^ k) 1 == 1) = false := by rw [bit_test _ _ hen]; simpa using hb
          clear hb
          go_wp2_with fail
          go_quiet (fail)
          go_wp2_with fail
          go_roundw
          case rel => exact ⟨k + 1, by omega, by omega, by go_num, _, rfl⟩
          case measure => simp [intOf]; omega
      · have hab : (bits BinOp.and IntKind.u32 ((s.pe : Int) / 2 ^ k) 1 == 1) = false := by rw [bit_test _ _ hpe]; simpa using ha
        clear ha
        go_wp2_with fail
        go_quiet (fail)
        go_wp2_with fail
        go_roundw
        case rel => exact ⟨k + 1, by omega, by omega, by go_num, _, rfl⟩
        case measure => simp [intOf]; omega
    · obtain rfl : k = 8 := by omega
      go_wp2_with fail
      refine (law9_sure _ (HT.out.below (below_drewN HBL.out m))).mono ?_
      rintro e w2 ⟨rfl, hb2⟩
      go_wp2_with fail
      go_ret
      exact ⟨rfl, (below_drewN HBL.out m).trans (hb2.mono HBL.out.size)⟩
end Go.Proofs.YtenafjdlaefepaaDoor

/-
plic.Check, walked, with the search of Go's library that it uses.
No condition.
-/
import Derived.Test.YtenafjdlaefepaaDoorOnceLaw
import Derived.OwnWalk
namespace Go.Proofs.YtenafjdlaefepaaDoor
open Go.RowKit

theorem plic_odd (m : Nat) (w : World) :
    Calls Tryd.prog 52 #[.int .u32 m] w fun e w' => e = .returned (.bool (decide (7 < m))) ∧ w = w' := by
  by_cases h : 7 < m
  · rw [decide_eq_true h]
    have h' : (7 : Int) < (m : Int) := by omega
    go_enter Tryd.func52, Tryd.ntmps52
    go_wp2_with fail
    go_ret
    exact ⟨rfl, rfl⟩
  · rw [decide_eq_false h]
    have h' : ¬ (7 : Int) < (m : Int) := by omega
    go_enter Tryd.func52, Tryd.ntmps52
    go_wp2_with fail
    go_ret
    exact ⟨rfl, rfl⟩

set_option maxRecDepth 100000 in
set_option maxHeartbeats 1000000 in
theorem idx_none (b : Nat) (p : Nat → Nat) (w : World) (hc : ∀ i, i < 8 → w.cell? ⟨b, i, none⟩ = some (.int .u32 (p i : Nat))) (hp : ∀ i, i < 8 → p i ≤ 7) :
    Calls Tryd.prog 73 #[.slice (some ⟨b, 0, none⟩) 8 8, .func (.func 52) #[] #[]] w fun e w' => e = .returned (.int .i64 (-1)) ∧ w = w' := by
  have HC := Lib.hid hc
  have HP := Lib.hid hp
  clear hc hp
  go_enter Tryd.func73, Tryd.ntmps73
  go_wp2_with fail
  go_loopw [8] (fun i wr => ∃ k : Nat, k ≤ 8 ∧ i = .int .i64 k ∧ w = wr) (fun i _ => 8 - (intOf i).toNat)
  case atStart => exact ⟨0, by omega, rfl, rfl⟩
  case round =>
    obtain ⟨k, hk, rfl, rfl⟩ := hrel
    by_cases hlt : k < 8
    · have hk0 : (0 : Int) ≤ ↑k := by omega
      have hk8 : (↑k : Int) < 8 := by omega
      have c0 := HC.out k hlt
      have HO := Lib.hid (plic_odd (p k))
      rw [decide_eq_false (by have := HP.out k hlt; omega)] at HO
      go_wp2_with fail
      refine (HO.out _).mono ?_
      rintro e w' ⟨rfl, rfl⟩
      go_wp2_with fail
      go_roundw
      case rel => exact ⟨k + 1, by omega, by go_num, trivial⟩
      case measure => simp [intOf]; omega
    · obtain rfl : k = 8 := by omega
      go_wp2_with fail
      go_ret
      exact ⟨rfl, rfl⟩

set_option maxRecDepth 100000 in
set_option maxHeartbeats 1000000 in
theorem idx_some (b : Nat) (p : Nat → Nat) (w : World) (hc : ∀ i, i < 8 → w.cell? ⟨b, i, none⟩ = some (.int .u32 (p i : Nat))) (hp : ∃ i, i < 8 ∧ 7 < p i) :
    Calls Tryd.prog 73 #[.slice (some ⟨b, 0, none⟩) 8 8, .func (.func 52) #[] #[]] w fun e w' => (∃ j : Nat, e = .returned (.int .i64 j)) ∧ w = w' := by
  have HC := Lib.hid hc
  have HP := Lib.hid hp
  clear hc hp
  go_enter Tryd.func73, Tryd.ntmps73
  go_wp2_with fail
  go_loopw [8] (fun i wr => ∃ k : Nat, k ≤ 8 ∧ i = .int .i64 k ∧ (∀ j, j < k → p j ≤ 7) ∧ w = wr) (fun i _ => 8 - (intOf i).toNat)
  case atStart => exact ⟨0, by omega, rfl, fun j hj => absurd hj (by omega), rfl⟩
  case round =>
    obtain ⟨k, hk, rfl, hj, rfl⟩ := hrel
    have HJ := Lib.hid hj
    clear hj
    by_cases hlt : k < 8
    · have hk0 : (0 : Int) ≤ ↑k := by omega
      have hk8 : (↑k : Int) < 8 := by omega
      have c0 := HC.out k hlt
      have HO := Lib.hid (plic_odd (p k))
      by_cases h7 : 7 < p k
      · rw [decide_eq_true h7] at HO
        go_wp2_with fail
        refine (HO.out _).mono ?_
        rintro e w' ⟨rfl, rfl⟩
        go_wp2_with fail
        go_ret
        exact ⟨⟨k, rfl⟩, rfl⟩
      · rw [decide_eq_false h7] at HO
        have H7 := Lib.hid h7
        clear h7
        go_wp2_with fail
        refine (HO.out _).mono ?_
        rintro e w' ⟨rfl, rfl⟩
        go_wp2_with fail
        go_roundw
        case rel =>
          refine ⟨k + 1, by omega, by go_num, fun j hj => ?_, trivial⟩
          rcases Nat.lt_or_eq_of_le (Nat.lt_succ_iff.1 hj) with h | rfl
          · exact HJ.out j h
          · have := H7.out; omega
        case measure => simp [intOf]; omega
    · obtain ⟨i, hi, hp⟩ := HP.out
      have := HJ.out i (by omega)
      omega

def anyBig (p : Nat → Nat) : Bool := (List.range 8).any fun i => decide (7 < p i)
theorem anyBig_iff (p : Nat → Nat) : anyBig p = true ↔ ∃ i, i < 8 ∧ 7 < p i := by
  unfold anyBig
  rw [List.any_eq_true]
  simp
theorem contains_big (b : Nat) (p : Nat → Nat) (w : World) (hc : ∀ i, i < 8 → w.cell? ⟨b, i, none⟩ = some (.int .u32 (p i : Nat))) :
    Calls Tryd.prog 53 #[.slice (some ⟨b, 0, none⟩) 8 8, .func (.func 52) #[] #[]] w fun e w' => e = .returned (.bool (anyBig p)) ∧ w = w' := by
  by_cases h : ∃ i, i < 8 ∧ 7 < p i
  · rw [(anyBig_iff p).2 h]
    have HI := Lib.hid (idx_some b p w hc h)
    clear hc h
    go_enter Tryd.func53, Tryd.ntmps53
    go_wp2_with fail
    refine (HI.out).mono ?_
    rintro e w' ⟨⟨j, rfl⟩, rfl⟩
    have hj : (0 : Int) ≤ (j : Int) := by omega
    go_wp2_with fail
    go_ret
    exact ⟨rfl, rfl⟩
  · rw [show anyBig p = false from Bool.eq_false_iff.2 (fun hh => h ((anyBig_iff p).1 hh))]
    have HI := Lib.hid (idx_none b p w hc (fun i hi => by
      by_cases h7 : 7 < p i
      · exact absurd ⟨i, hi, h7⟩ h
      · omega))
    clear hc h
    go_enter Tryd.func53, Tryd.ntmps53
    go_wp2_with fail
    refine (HI.out).mono ?_
    rintro e w' ⟨rfl, rfl⟩
    go_wp2_with fail
    go_ret
    exact ⟨rfl, rfl⟩

set_option maxRecDepth 100000 in
set_option maxHeartbeats 1000000 in
theorem plic_Check_ok (s : PS) (hs : s.wf) (hok : s.okc) (w : World) :
    Calls Tryd.prog 17 #[s.v] w fun e w' => e = .returned .nilIface ∧ Below w.heap.size w w' := by
  obtain ⟨h1, h2, h3, h4⟩ := hok
  have hlt : s.en ||| s.pe ||| s.bu < 4294967296 := Nat.or_lt_two_pow (n := 32) (Nat.or_lt_two_pow (n := 32) hs.hen hs.hpe) hs.hbu
  have h5 := (src_iff _ hlt).2 h4
  have hor1 : bits BinOp.or IntKind.u32 (s.en : Int) (s.pe : Int) = ((s.en ||| s.pe : Nat) : Int) := u32_or_nat _ _ hs.hen hs.hpe
  have hor2 : bits BinOp.or IntKind.u32 ((s.en ||| s.pe : Nat) : Int) (s.bu : Int) = ((s.en ||| s.pe ||| s.bu : Nat) : Int) := u32_or_nat _ _ (Nat.or_lt_two_pow (n := 32) hs.hen hs.hpe) hs.hbu
  have hand : bits BinOp.andNot IntKind.u32 ((s.en ||| s.pe ||| s.bu : Nat) : Int) 254 = (0 : Int) := by
    rw [show (254 : Int) = ((254 : Nat) : Int) from rfl, u32_andNot_nat _ _ hlt (by omega), h5]; rfl
  have hth : ¬ (7 : Int) < (s.th : Int) := by omega
  have hr0 : (w.alloc (.cells s.c 26)).heap[w.heap.size]? = some (.cells s.c 26 (0, 0)) := heap_alloc_new w _
  have HB := Lib.hid (contains_big w.heap.size s.pri (w.alloc (.cells s.c 26)) (fun i hi => (cell_of_row _ _ i _ _ _ hr0).trans (PS.c_pri s i (by omega))))
  rw [show anyBig s.pri = false from Bool.eq_false_iff.2 (fun hh => by obtain ⟨i, hi, hx⟩ := (anyBig_iff s.pri).1 hh; have := h1 i hi; omega)] at HB
  clear h1 h4 h5 hr0 hlt hs
  generalize s.en ||| s.pe ||| s.bu = x at hor2 hand
  generalize s.en ||| s.pe = y at hor1 hor2
  unfold PS.c at HB
  unfold PS.v
  rw [h2] at HB ⊢
  go_enter Tryd.func17, Tryd.ntmps17
  go_wp2_with fail
  refine (HB.out).mono ?_
  rintro e w' ⟨rfl, rfl⟩
  go_wp2_with fail
  go_ret
  exact ⟨rfl, (Below.refl _ _).alloc (Nat.le_refl _) _⟩
set_option maxRecDepth 100000 in
set_option maxHeartbeats 1000000 in
theorem plic_bad_1 (s : PS) (hbig : anyBig s.pri = true) (w : World) :
    Calls Tryd.prog 17 #[s.v] w fun e w' => e = .returned (.iface 116 (.int .i64 1)) ∧ Below w.heap.size w w' := by
  have hr0 : (w.alloc (.cells s.c 26)).heap[w.heap.size]? = some (.cells s.c 26 (0, 0)) := heap_alloc_new w _
  have HB := Lib.hid (contains_big w.heap.size s.pri (w.alloc (.cells s.c 26)) (fun i hi => (cell_of_row _ _ i _ _ _ hr0).trans (PS.c_pri s i (by omega))))
  rw [hbig] at HB
  clear hbig hr0
  unfold PS.c at HB
  unfold PS.v
  go_enter Tryd.func17, Tryd.ntmps17
  go_wp2_with fail
  refine (HB.out).mono ?_
  rintro e w' ⟨rfl, rfl⟩
  go_wp2_with fail
  go_ret
  exact ⟨rfl, (Below.refl _ _).alloc (Nat.le_refl _) _⟩

set_option maxRecDepth 100000 in
set_option maxHeartbeats 1000000 in
theorem plic_bad_2 (s : PS) (hbig : anyBig s.pri = false) (h0 : ((s.p0 : Int) != 0) = true) (w : World) :
    Calls Tryd.prog 17 #[s.v] w fun e w' => e = .returned (.iface 116 (.int .i64 1)) ∧ Below w.heap.size w w' := by
  have hr0 : (w.alloc (.cells s.c 26)).heap[w.heap.size]? = some (.cells s.c 26 (0, 0)) := heap_alloc_new w _
  have HB := Lib.hid (contains_big w.heap.size s.pri (w.alloc (.cells s.c 26)) (fun i hi => (cell_of_row _ _ i _ _ _ hr0).trans (PS.c_pri s i (by omega))))
  rw [hbig] at HB
  clear hbig hr0
  unfold PS.c at HB
  unfold PS.v
  go_enter Tryd.func17, Tryd.ntmps17
  go_wp2_with fail
  refine (HB.out).mono ?_
  rintro e w' ⟨rfl, rfl⟩
  go_wp2_with fail
  go_ret
  exact ⟨rfl, (Below.refl _ _).alloc (Nat.le_refl _) _⟩

set_option maxRecDepth 100000 in
set_option maxHeartbeats 1000000 in
theorem plic_bad_3 (s : PS) (hbig : anyBig s.pri = false) (h0 : ((s.p0 : Int) != 0) = false) (h1 : (7 : Int) < (s.th : Int)) (w : World) :
    Calls Tryd.prog 17 #[s.v] w fun e w' => e = .returned (.iface 116 (.int .i64 1)) ∧ Below w.heap.size w w' := by
  have hr0 : (w.alloc (.cells s.c 26)).heap[w.heap.size]? = some (.cells s.c 26 (0, 0)) := heap_alloc_new w _
  have HB := Lib.hid (contains_big w.heap.size s.pri (w.alloc (.cells s.c 26)) (fun i hi => (cell_of_row _ _ i _ _ _ hr0).trans (PS.c_pri s i (by omega))))
  rw [hbig] at HB
  clear hbig hr0
  unfold PS.c at HB
  unfold PS.v
  go_enter Tryd.func17, Tryd.ntmps17
  go_wp2_with fail
  refine (HB.out).mono ?_
  rintro e w' ⟨rfl, rfl⟩
  go_wp2_with fail
  go_ret
  exact ⟨rfl, (Below.refl _ _).alloc (Nat.le_refl _) _⟩

set_option maxRecDepth 100000 in
set_option maxHeartbeats 1000000 in
theorem plic_bad_4 (s : PS) (x y z : Nat) (hbig : anyBig s.pri = false) (h0 : ((s.p0 : Int) != 0) = false) (h1 : ¬ (7 : Int) < (s.th : Int)) (hor1 : bits BinOp.or IntKind.u32 (s.en : Int) (s.pe : Int) = (y : Int)) (hor2 : bits BinOp.or IntKind.u32 (y : Int) (s.bu : Int) = (x : Int)) (hand : bits BinOp.andNot IntKind.u32 (x : Int) 254 = (z : Int)) (hz : ((z : Int) != 0) = true) (w : World) :
    Calls Tryd.prog 17 #[s.v] w fun e w' => e = .returned (.iface 116 (.int .i64 1)) ∧ Below w.heap.size w w' := by
  have hr0 : (w.alloc (.cells s.c 26)).heap[w.heap.size]? = some (.cells s.c 26 (0, 0)) := heap_alloc_new w _
  have HB := Lib.hid (contains_big w.heap.size s.pri (w.alloc (.cells s.c 26)) (fun i hi => (cell_of_row _ _ i _ _ _ hr0).trans (PS.c_pri s i (by omega))))
  rw [hbig] at HB
  clear hbig hr0
  unfold PS.c at HB
  unfold PS.v
  go_enter Tryd.func17, Tryd.ntmps17
  go_wp2_with fail
  refine (HB.out).mono ?_
  rintro e w' ⟨rfl, rfl⟩
  go_wp2_with fail
  go_ret
  exact ⟨rfl, (Below.refl _ _).alloc (Nat.le_refl _) _⟩

theorem plic_Check_bad (s : PS) (hs : s.wf) (hok : ¬ s.okc) (w : World) :
    Calls Tryd.prog 17 #[s.v] w fun e w' => e = .returned (.iface 116 (.int .i64 1)) ∧ Below w.heap.size w w' := by
  cases hbig : anyBig s.pri with
  | true => exact plic_bad_1 s hbig w
  | false =>
    by_cases h0 : s.p0 = 0
    · by_cases h1 : s.th ≤ 7
      · have hlt : s.en ||| s.pe ||| s.bu < 4294967296 := Nat.or_lt_two_pow (n := 32) (Nat.or_lt_two_pow (n := 32) hs.hen hs.hpe) hs.hbu
        refine plic_bad_4 s _ _ _ hbig (by simp [h0]) (by omega) (u32_or_nat _ _ hs.hen hs.hpe) (u32_or_nat _ _ (Nat.or_lt_two_pow (n := 32) hs.hen hs.hpe) hs.hbu) (u32_andNot_nat _ 254 hlt (by omega)) ?_ w
        have hz : ¬ ((s.en ||| s.pe ||| s.bu) &&& (4294967295 - 254)) = 0 := fun h => hok ⟨fun i hi => by
          by_cases h7 : 7 < s.pri i
          · have := (anyBig_iff s.pri).2 ⟨i, hi, h7⟩
            rw [hbig] at this; exact absurd this (by simp)
          · omega, h0, h1, (src_iff _ hlt).1 h⟩
        simp only [bne_iff_ne, ne_eq]
        omega
      · exact plic_bad_3 s hbig (by simp [h0]) (by omega) w
    · exact plic_bad_2 s hbig (by simp; omega) w
end Go.Proofs.YtenafjdlaefepaaDoor

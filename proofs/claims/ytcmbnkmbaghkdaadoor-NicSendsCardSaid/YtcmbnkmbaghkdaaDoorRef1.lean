/-
The reference's words on bits, walked: Bit is one bit of a number, From is the number of 32 bits, Set of one bit is setBit.
Condition: the places are from 0 to 31, Set is asked of one bit.
-/
import Derived.Test.YtcmbnkmbaghkdaaDoorProg
import Derived.Test.YtcmbnkmbaghkdaaDoorNat
import Derived.Test.YtcmbnkmbaghkdaaDoorG1
import Derived.WalkKit
import Derived.Lib.Hide
namespace Go.Proofs.YtcmbnkmbaghkdaaDoor
open Go.RowKit


set_option maxHeartbeats 400000 in
theorem ref1_Bit (v at_ : Nat) (w : World) (hv : v < 4294967296) (ha : at_ < 32) :
    Calls Tryd.prog 115 #[.int .u32 v, .int .i64 at_] w fun e w' => e = .returned (.int .i64 (bitv v at_)) ∧ w = w' := by
  have h0 : ((at_ : Int) < 0) = False := by simp
  have h1 : ¬ (31 < (at_ : Int)) := by omega
  go_enter Tryd.func115, Tryd.ntmps115
  go_wp2
  go_loop [0, 5] (fun t i => ∃ k : Nat, k ≤ at_ ∧ i = .int .i64 k ∧ t = .int .u32 ((v / 2 ^ k : Nat) : Int)) (fun _ i => at_ - (intOf i).toNat)
  case atStart => exact ⟨0, Nat.zero_le _, rfl, by simp⟩
  case round =>
    obtain ⟨k, hk, rfl, rfl⟩ := hrel
    have hle : v / 2 ^ k ≤ v := Nat.div_le_self _ _
    have HS : Hid (v / 2 ^ (k + 1) = v / 2 ^ k / 2) := Lib.hid (by rw [Nat.pow_succ, Nat.div_div_eq_div_mul])
    obtain ⟨q, hq⟩ : ∃ q, q = v / 2 ^ k := ⟨_, rfl⟩
    have HQ := Lib.hid hq
    rw [← hq] at hle HS ⊢
    clear hq
    by_cases hlt : k < at_
    · go_wp2
      go_round
      case rel => exact ⟨k + 1, by omega, by go_num, by rw [HS.out]; go_num⟩
      case measure => simp [intOf]; omega
    · obtain rfl : k = at_ := by omega
      go_wp2
      go_ret
      exact ⟨ret_i (by unfold bitv; rw [← HQ.out]; omega), rfl⟩

/-- 32 cells, the j-th one f j. -/
def bitCells (f : Nat → Nat) : Array Value := ((List.range 32).map fun j => Value.int .i64 (f j : Int)).toArray
theorem bitCells_size (f : Nat → Nat) : (bitCells f).size = 32 := by simp [bitCells]
theorem bitCells_get (f : Nat → Nat) {k : Nat} (h : k < 32) : (bitCells f)[k]? = some (.int .i64 (f k : Int)) := by simp [bitCells, h]
theorem bitCells_set (f : Nat → Nat) (k x : Nat) : (bitCells f).setIfInBounds k (.int .i64 (x : Int)) = bitCells fun j => if j = k then x else f j := by
  apply Array.ext_getElem?
  intro j
  simp only [bitCells, List.setIfInBounds_toArray, List.getElem?_toArray, List.getElem?_set, List.getElem?_map, List.length_map, List.length_range]
  by_cases hj : j < 32
  · rw [List.getElem?_range hj]
    by_cases h : k = j
    · subst h; simp [hj]
    · have : ¬ j = k := fun e => h e.symm
      simp [h, this]
  · rw [List.getElem?_eq_none (by simpa using hj)]
    by_cases h : k = j
    · subst h; simp [hj]
    · simp [h]

set_option maxHeartbeats 400000 in
theorem ref1_From (f : Nat → Nat) (hf : ∀ i, f i ≤ 1) (w : World) :
    Calls Tryd.prog 116 #[.agg (bitCells f)] w fun e w' => e = .returned (.int .u32 (hornN f 32 : Nat)) ∧ Below w.heap.size w w' := by
  have hcell : ∀ k, k < 32 → (w.alloc (.cells (bitCells f) 256)).cell? ⟨w.heap.size, k, none⟩ = some (.int .i64 (f k : Int)) := fun k hk => by
    rw [cell_of_row _ _ k (bitCells f) 256 (0, 0) (heap_alloc_new w _), bitCells_get f hk]
  have HC := Lib.hid hcell
  clear hcell
  have HF := Lib.hid hf
  clear hf
  go_enter Tryd.func116, Tryd.ntmps116
  go_wp2
  go_loop [3, 4] (fun t i => ∃ c : Nat, c ≤ 32 ∧ i = .int .i64 (31 - (c : Int)) ∧ t = .int .u32 (hornN f c : Nat)) (fun _ i => (intOf i + 1).toNat)
  case atStart => exact ⟨0, by omega, rfl, rfl⟩
  case round =>
    obtain ⟨c, hc, rfl, rfl⟩ := hrel
    have h1 := hornN_lt f HF.out c
    by_cases hlt : c < 32
    · have h2 : hornN f c < 2147483648 := Nat.lt_of_lt_of_le h1 (by have : 2 ^ c ≤ 2 ^ 31 := Nat.pow_le_pow_right (by omega) (by omega); simpa using this)
      clear h1
      have hcl := HC.out (31 - c) (by omega)
      have h3 := HF.out (31 - c)
      have HS : Hid (hornN f (c + 1) = 2 * hornN f c + f (31 - c)) := Lib.hid rfl
      obtain ⟨q, hq⟩ : ∃ q, q = hornN f c := ⟨_, rfl⟩
      rw [← hq] at h2 HS ⊢
      clear hq
      obtain ⟨x, hx⟩ : ∃ x, x = f (31 - c) := ⟨_, rfl⟩
      rw [← hx] at h3 HS hcl
      clear hx
      go_wp2
      go_round
      case rel => exact ⟨c + 1, by omega, by go_num, by rw [HS.out]; go_num⟩
      case measure => simp [intOf]; omega
    · obtain rfl : c = 32 := by omega
      clear h1
      go_wp2
      go_ret
      exact ⟨rfl, (Below.refl _ _).alloc (Nat.le_refl _) _⟩

/-- What Set has laid when k places were gone over. -/
def setF (v lo x k : Nat) : Nat → Nat := fun j => if j < k then (if j = lo then x else bitv v j) else 0
theorem bitCells_zero (v lo x : Nat) : #[Value.int .i64 0, .int .i64 0, .int .i64 0, .int .i64 0, .int .i64 0, .int .i64 0, .int .i64 0, .int .i64 0, .int .i64 0, .int .i64 0, .int .i64 0, .int .i64 0, .int .i64 0, .int .i64 0, .int .i64 0, .int .i64 0, .int .i64 0, .int .i64 0, .int .i64 0, .int .i64 0, .int .i64 0, .int .i64 0, .int .i64 0, .int .i64 0, .int .i64 0, .int .i64 0, .int .i64 0, .int .i64 0, .int .i64 0, .int .i64 0, .int .i64 0, .int .i64 0] = bitCells (setF v lo x 0) := by
  simp [bitCells, setF, List.range_succ]
theorem setF_same (v lo x k : Nat) (h : k = lo) : (fun j => if j = k then x else (fun j => if j = k then bitv v k else setF v lo x k j) j) = setF v lo x (k + 1) := by
  funext j
  simp only [setF]
  by_cases hj : j = k
  · subst hj; simp [h]
  · have : (j < k + 1) = (j < k) := by simp; omega
    simp [hj, this]
theorem setF_other (v lo x k : Nat) (h : k ≠ lo) : (fun j => if j = k then bitv v k else setF v lo x k j) = setF v lo x (k + 1) := by
  funext j
  simp only [setF]
  by_cases hj : j = k
  · subst hj; simp [h]
  · have : (j < k + 1) = (j < k) := by simp; omega
    simp [hj, this]
theorem setF_le (v lo x k i : Nat) (hx : x ≤ 1) : setF v lo x k i ≤ 1 := by
  unfold setF
  have := bitv_le v i
  split
  · split <;> omega
  · omega
theorem setF_horn (v lo x : Nat) (hv : v < 4294967296) (hl : lo < 32) (hx : x ≤ 1) : hornN (setF v lo x 32) 32 = setBit v lo x := by
  refine hornN_all (setBit v lo x) (setBit_lt v lo x hv hl) _ fun i hi => ?_
  rw [bitv_setBit v lo x i hv hl hx]
  simp [setF, hi]

set_option maxRecDepth 100000 in
set_option maxHeartbeats 1000000 in
theorem ref1_Set (v lo x : Nat) (w : World) (hv : v < 4294967296) (hl : lo < 32) (hx : x ≤ 1) :
    Calls Tryd.prog 88 #[.int .u32 v, .int .i64 lo, .int .i64 1, .int .u32 x] w fun e w' => e = .returned (.int .u32 (setBit v lo x : Nat)) ∧ Below w.heap.size w w' := by
  have hx2 : x < 4294967296 := by omega
  go_enter Tryd.func88, Tryd.ntmps88
  go_wp2_with fail
  go_loopw [10] (fun i wr => ∃ k : Nat, k ≤ 32 ∧ i = .int .i64 k ∧ wr.heap[w.heap.size]? = some (.cells (bitCells (setF v lo x k)) 256 (0, 0)) ∧ Below w.heap.size w wr) (fun i _ => 32 - (intOf i).toNat)
  case atStart => exact ⟨0, by omega, rfl, by rw [heap_alloc_new, bitCells_zero v lo x], (Below.refl _ _).alloc (Nat.le_refl _) _⟩
  case round =>
    obtain ⟨k, hk, rfl, hb, hbel⟩ := hrel
    have hfr := frozen_of_row wr w.heap.size k _ _ hb
    have HB := Lib.hid hb
    clear hb
    by_cases hlt : k < 32
    · have hce := (cell_of_row wr w.heap.size k _ _ _ HB.out).trans (bitCells_get _ hlt)
      have hn0 : ¬ (lo : Int) ≤ -1000 := by omega
      by_cases hlo : k = lo
      · subst hlo
        go_wp2_with fail
        refine (ref1_Bit v k _ hv hlt).mono ?_
        rintro e w' ⟨rfl, rfl⟩
        go_wp2_with fail
        refine (ref1_Bit x 0 _ hx2 (by omega)).mono ?_
        rintro e w' ⟨rfl, rfl⟩
        rw [bitv_small x hx]
        go_wp2_with fail
        go_roundw
        case rel => exact ⟨k + 1, by omega, by go_num, by rw [heap_setCell_same _ _ _ _ _ _ (heap_setCell_same _ _ _ _ _ _ HB.out), bitCells_set, bitCells_set, setF_same v k x k rfl], (hbel.setCell (Nat.le_refl _) _).setCell (Nat.le_refl _) _⟩
        case measure => simp [intOf]; omega
      · by_cases hlo2 : k < lo
        · go_wp2_with fail
          refine (ref1_Bit v k _ hv hlt).mono ?_
          rintro e w' ⟨rfl, rfl⟩
          go_wp2_with fail
          go_roundw
          case rel => exact ⟨k + 1, by omega, by go_num, by rw [heap_setCell_same _ _ _ _ _ _ HB.out, bitCells_set, setF_other v lo x k hlo], hbel.setCell (Nat.le_refl _) _⟩
          case measure => simp [intOf]; omega
        · go_wp2_with fail
          refine (ref1_Bit v k _ hv hlt).mono ?_
          rintro e w' ⟨rfl, rfl⟩
          go_wp2_with fail
          go_roundw
          case rel => exact ⟨k + 1, by omega, by go_num, by rw [heap_setCell_same _ _ _ _ _ _ HB.out, bitCells_set, setF_other v lo x k hlo], hbel.setCell (Nat.le_refl _) _⟩
          case measure => simp [intOf]; omega
    · obtain rfl : k = 32 := by omega
      go_wp2_with (refine wpList_load_row rfl 256 _ rfl w.heap.size rfl 256 (bitCells (setF v lo x 32)) (0, 0) _ HB.out Tryd.underlying256 rfl (by rw [bitCells_size]; kernel_rfl) ?_)
      refine (ref1_From _ (fun i => setF_le v lo x 32 i hx) _).mono ?_
      rintro e w' ⟨rfl, hb2⟩
      rw [setF_horn v lo x hv hl hx]
      go_wp2_with fail
      go_ret
      exact ⟨rfl, hbel.trans (hb2.mono hbel.size)⟩

end Go.Proofs.YtcmbnkmbaghkdaaDoor

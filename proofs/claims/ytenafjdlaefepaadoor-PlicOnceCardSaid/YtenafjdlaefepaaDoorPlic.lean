/-
The functions of plic and of its reference, walked.
-/
import Derived.Test.YtenafjdlaefepaaDoorProg
import Derived.Test.YtenafjdlaefepaaDoorRef1
import Derived.WalkKit
import Derived.Lib.Hide
import Derived.BigQuiet
import Derived.Deep.QuietTactic
import Derived.Laws.CopyOwn
namespace Go.Proofs.YtenafjdlaefepaaDoor
open Go.RowKit

/-- A state of plic, or of its reference. -/
structure PS where
  (p0 p1 p2 p3 p4 p5 p6 p7 en th pe bu : Nat)
def PS.v (s : PS) : Value := .agg #[.int .u32 s.p0, .int .u32 s.p1, .int .u32 s.p2, .int .u32 s.p3, .int .u32 s.p4, .int .u32 s.p5, .int .u32 s.p6, .int .u32 s.p7, .int .u32 s.en, .int .u32 s.th, .int .u32 s.pe, .int .u32 s.bu]
structure PS.wf (s : PS) : Prop where
  h0 : s.p0 < 4294967296
  h1 : s.p1 < 4294967296
  h2 : s.p2 < 4294967296
  h3 : s.p3 < 4294967296
  h4 : s.p4 < 4294967296
  h5 : s.p5 < 4294967296
  h6 : s.p6 < 4294967296
  h7 : s.p7 < 4294967296
  hen : s.en < 4294967296
  hth : s.th < 4294967296
  hpe : s.pe < 4294967296
  hbu : s.bu < 4294967296

def levelN (pe bu ln : Nat) : Nat := pe ||| (ln &&& 254 &&& (4294967295 - bu))
theorem levelN_lt (pe bu ln : Nat) (h : pe < 4294967296) (hl : ln < 4294967296) : levelN pe bu ln < 4294967296 :=
  Nat.or_lt_two_pow (n := 32) h (Nat.lt_of_le_of_lt (Nat.le_trans Nat.and_le_left Nat.and_le_left) hl)
theorem level_bits (pe bu ln : Nat) (h : pe < 4294967296) (hb : bu < 4294967296) (hl : ln < 4294967296) :
    bits BinOp.or IntKind.u32 (↑pe) (bits BinOp.andNot IntKind.u32 (bits BinOp.and IntKind.u32 (↑ln) 254) ↑bu) = ((levelN pe bu ln : Nat) : Int) := by
  rw [show (254 : Int) = ((254 : Nat) : Int) from rfl, u32_and_nat _ _ hl (by omega), u32_andNot_nat _ _ (Nat.lt_of_le_of_lt Nat.and_le_left hl) hb, u32_or_nat _ _ h (Nat.lt_of_le_of_lt (Nat.le_trans Nat.and_le_left Nat.and_le_left) hl)]
  rfl

theorem plic_Level (s : PS) (ln : Nat) (hs : s.wf) (hl : ln < 4294967296) (w : World) :
    Calls Tryd.prog 13 #[s.v, .int .u32 ln] w fun e w' => e = .returned ({ s with pe := levelN s.pe s.bu ln }).v ∧ Below w.heap.size w w' := by
  have HB := Lib.hid (level_bits s.pe s.bu ln hs.hpe hs.hbu hl)
  unfold PS.v
  go_enter Tryd.func13, Tryd.ntmps13
  go_wp2
  rw [HB.out]
  refine bodyPost_ret (v := ({ s with pe := levelN s.pe s.bu ln }).v) (by simp [results, Tryd.results13, go_sem, PS.v]) rfl ⟨rfl, ?_⟩
  exact ((Below.refl _ _).alloc (Nat.le_refl _) _).alloc (by simp) _

/-- What the reference's Level has pending when the sources below k were gone over. -/
def levelK (pe bu ln : Nat) : Nat → Nat
  | 0 => pe
  | k + 1 => if bitv ln k = 1 ∧ bitv bu k = 0 ∧ 1 ≤ k then setBit (levelK pe bu ln k) k 1 else levelK pe bu ln k
theorem levelK_lt (pe bu ln : Nat) (h : pe < 4294967296) : ∀ k, k ≤ 32 → levelK pe bu ln k < 4294967296
  | 0, _ => h
  | k + 1, hk => by
    simp only [levelK]
    split
    · exact setBit_lt _ _ _ (levelK_lt pe bu ln h k (by omega)) (by omega)
    · exact levelK_lt pe bu ln h k (by omega)
theorem levelK_bit (pe bu ln : Nat) (h : pe < 4294967296) (i : Nat) : ∀ k, k ≤ 32 → (levelK pe bu ln k).testBit i = (pe.testBit i || (decide (1 ≤ i ∧ i < k) && (ln.testBit i && !bu.testBit i)))
  | 0, _ => by simp [levelK]
  | k + 1, hk => by
    have ih := levelK_bit pe bu ln h i k (by omega)
    have hlt := levelK_lt pe bu ln h k (by omega)
    simp only [levelK]
    have e1 := bitv_one_iff ln k
    have e2 := bitv_zero_iff bu k
    split
    · rename_i hc
      rw [testBit_setBit _ _ _ _ hlt (by omega), ih]
      by_cases hi : i = k
      · subst hi
        simp [e1.1 hc.1, e2.1 hc.2.1, hc.2.2]
      · have : (1 ≤ i ∧ i < k + 1) = (1 ≤ i ∧ i < k) := by simp; omega
        simp [hi, this]
    · rename_i hc
      rw [ih]
      by_cases hi : i = k
      · subst hi
        have : (1 ≤ i ∧ i < i) = False := by simp
        simp only [this, decide_false, Bool.false_and, Bool.or_false]
        by_cases h1 : 1 ≤ i
        · cases h3 : ln.testBit i <;> cases h4 : bu.testBit i <;> simp
          exact absurd ⟨e1.2 h3, e2.2 h4, h1⟩ hc
        · simp [h1]
      · have : (1 ≤ i ∧ i < k + 1) = (1 ≤ i ∧ i < k) := by simp; omega
        simp [this]
theorem levelK_one (pe bu ln : Nat) : levelK pe bu ln 1 = pe := by simp [levelK]
theorem level_same (pe bu ln : Nat) (h : pe < 4294967296) (hb : bu < 4294967296) : levelK pe bu ln 8 = levelN pe bu ln := by
  apply Nat.eq_of_testBit_eq
  intro i
  rw [levelK_bit pe bu ln h i 8 (by omega), levelN, Nat.testBit_or, Nat.testBit_and, Nat.testBit_and, testBit_not32 _ _ hb]
  have h254 : (254 : Nat).testBit i = decide (1 ≤ i ∧ i < 8) := by
    by_cases hi : i < 8
    · have : i = 0 ∨ i = 1 ∨ i = 2 ∨ i = 3 ∨ i = 4 ∨ i = 5 ∨ i = 6 ∨ i = 7 := by omega
      rcases this with rfl | rfl | rfl | rfl | rfl | rfl | rfl | rfl <;> decide
    · have : (254 : Nat).testBit i = false := Nat.testBit_lt_two_pow (Nat.lt_of_lt_of_le (by decide : 254 < 2 ^ 8) (Nat.pow_le_pow_right (by omega) (by omega)))
      rw [this]; symm; simp; omega
  rw [h254]
  by_cases hi : i < 32
  · cases pe.testBit i <;> cases ln.testBit i <;> cases bu.testBit i <;> by_cases h1 : 1 ≤ i ∧ i < 8 <;> simp [h1, hi]
  · have : ¬ (1 ≤ i ∧ i < 8) := by omega
    simp [this]

def PS.c (s : PS) : Array Value := #[.int .u32 s.p0, .int .u32 s.p1, .int .u32 s.p2, .int .u32 s.p3, .int .u32 s.p4, .int .u32 s.p5, .int .u32 s.p6, .int .u32 s.p7, .int .u32 s.en, .int .u32 s.th, .int .u32 s.pe, .int .u32 s.bu]
theorem PS.c_pe (s : PS) (x : Nat) : s.c.setIfInBounds 10 (.int .u32 x) = ({ s with pe := x } : PS).c := rfl
theorem PS.c_one (s : PS) : s.c.all (·.oneCell') = true := by simp [PS.c, Value.oneCell']
def PS.zero : PS := ⟨0, 0, 0, 0, 0, 0, 0, 0, 0, 0, 0, 0⟩

set_option maxHeartbeats 1000000 in
theorem ref9_Level (s : PS) (ln : Nat) (hs : s.wf) (hl : ln < 4294967296) (w : World) :
    Calls Tryd.prog 14 #[s.v, .int .u32 ln] w fun e w' => e = .returned ({ s with pe := levelK s.pe s.bu ln 8 }).v ∧ Below w.heap.size w w' := by
  have hbu := hs.hbu
  have HPE := Lib.hid hs.hpe
  clear hs
  unfold PS.v
  go_enter Tryd.func14, Tryd.ntmps14
  go_wp2_with fail
  go_loopw [5] (fun i wr => ∃ k : Nat, 1 ≤ k ∧ k ≤ 8 ∧ i = .int .i64 k ∧ wr.heap[w.heap.size]? = some (.cells ({ s with pe := levelK s.pe s.bu ln k } : PS).c 25 (0, 0)) ∧
      wr.heap[w.heap.size + 1]? = some (.cells PS.zero.c 25 (0, 0)) ∧ Below w.heap.size w wr) (fun i _ => 8 - (intOf i).toNat)
  case atStart => exact ⟨1, by omega, by omega, rfl, by rw [levelK_one]; exact heap_alloc2_old _ _ _, heap_alloc2_new _ _ _, ((Below.refl _ _).alloc (Nat.le_refl _) _).alloc (by simp) _⟩
  case round =>
    obtain ⟨k, hk1, hk, rfl, hb, hz, hbel⟩ := hrel
    have hfr := frozen_of_row wr w.heap.size 10 _ _ hb
    have hc11 : wr.cell? ⟨w.heap.size, 11, none⟩ = some (.int .u32 s.bu) := (cell_of_row wr w.heap.size 11 _ _ _ hb).trans rfl
    have hc10 : wr.cell? ⟨w.heap.size, 10, none⟩ = some (.int .u32 (levelK s.pe s.bu ln k : Nat)) := (cell_of_row wr w.heap.size 10 _ _ _ hb).trans rfl
    have HB := Lib.hid hb
    have HZ := Lib.hid hz
    have hpk := levelK_lt s.pe s.bu ln HPE.out k (by omega)
    clear hb hz
    have HS : Hid (levelK s.pe s.bu ln (k + 1) = if bitv ln k = 1 ∧ bitv s.bu k = 0 ∧ 1 ≤ k then setBit (levelK s.pe s.bu ln k) k 1 else levelK s.pe s.bu ln k) := Lib.hid rfl
    have HLT := Lib.hid (lt_of_block HB.out)
    by_cases hlt : k < 8
    · by_cases h1 : bitv ln k = 1
      · have h1b : ((bitv ln k : Int) == 1) = true := by simp [h1]
        by_cases h2 : bitv s.bu k = 0
        · have h2b : ((bitv s.bu k : Int) == 0) = true := by simp [h2]
          have H3 := Lib.hid (show bitv ln k = 1 ∧ bitv s.bu k = 0 ∧ 1 ≤ k from ⟨h1, h2, hk1⟩)
          clear h1 h2
          go_wp2_with fail
          refine (ref1_Bit ln k _ hl (by omega)).mono ?_
          rintro e w' ⟨rfl, rfl⟩
          go_wp2_with fail
          refine (ref1_Bit s.bu k _ hbu (by omega)).mono ?_
          rintro e w' ⟨rfl, rfl⟩
          go_wp2_with fail
          refine (ref1_Set (levelK s.pe s.bu ln k) k 1 _ hpk (by omega) (by omega)).mono ?_
          rintro e w' ⟨rfl, hb2⟩
          have HB2 := Lib.hid ((hb2.block _ HLT.out).trans HB.out)
          have hfr' := frozen_of_row w' w.heap.size 10 _ _ HB2.out
          have hc10' : w'.cell? ⟨w.heap.size, 10, none⟩ = some (.int .u32 (levelK s.pe s.bu ln k : Nat)) := (cell_of_row w' w.heap.size 10 _ _ _ HB2.out).trans rfl
          go_wp2_with fail
          go_roundw
          case rel => exact ⟨k + 1, by omega, by omega, by go_num, by rw [heap_setCell_same _ _ _ _ _ _ HB2.out, HS.out, if_pos H3.out]; rfl, by rw [heap_setCell_other _ _ _ _ (by simp)]; exact (hb2.block _ (lt_of_block HZ.out)).trans HZ.out, (hbel.trans (hb2.mono hbel.size)).setCell (Nat.le_refl _) _⟩
          case measure => simp [intOf]; omega
        · have h2b : ((bitv s.bu k : Int) == 0) = false := by simp [h2]
          have H3 := Lib.hid (show ¬ (bitv ln k = 1 ∧ bitv s.bu k = 0 ∧ 1 ≤ k) from fun h => h2 h.2.1)
          clear h1 h2
          go_wp2_with fail
          refine (ref1_Bit ln k _ hl (by omega)).mono ?_
          rintro e w' ⟨rfl, rfl⟩
          go_wp2_with fail
          refine (ref1_Bit s.bu k _ hbu (by omega)).mono ?_
          rintro e w' ⟨rfl, rfl⟩
          go_wp2_with fail
          go_roundw
          case rel => exact ⟨k + 1, by omega, by omega, by go_num, by rw [HS.out, if_neg H3.out]; exact HB.out, HZ.out, hbel⟩
          case measure => simp [intOf]; omega
      · have h1b : ((bitv ln k : Int) == 1) = false := by simp; omega
        have H3 := Lib.hid (show ¬ (bitv ln k = 1 ∧ bitv s.bu k = 0 ∧ 1 ≤ k) from fun h => h1 h.1)
        clear h1
        go_wp2_with fail
        refine (ref1_Bit ln k _ hl (by omega)).mono ?_
        rintro e w' ⟨rfl, rfl⟩
        go_wp2_with fail
        go_roundw
        case rel => exact ⟨k + 1, by omega, by omega, by go_num, by rw [HS.out, if_neg H3.out]; exact HB.out, HZ.out, hbel⟩
        case measure => simp [intOf]; omega
    · obtain rfl : k = 8 := by omega
      go_wp2_with (first | (refine wpList_load_row rfl 25 _ rfl w.heap.size rfl 25 ({ s with pe := levelK s.pe s.bu ln 8 } : PS).c (0, 0) _ HB.out Tryd.underlying25 rfl (by kernel_rfl) ?_) | (refine wpList_store_row rfl 25 _ _ rfl (w.heap.size + 1) ({ s with pe := levelK s.pe s.bu ln 8 } : PS).c rfl rfl 25 PS.zero.c HZ.out (by kernel_rfl) rfl (PS.c_one _) ?_))
      exact bodyPost_ret (v := ({ s with pe := levelK s.pe s.bu ln 8 }).v) (results_cell_row rfl _ _ (w.heap.size + 1) 25 ({ s with pe := levelK s.pe s.bu ln 8 } : PS).c (0, 0) _ rfl (setRow_heap _ _ _ _ _ _ HZ.out) Tryd.underlying25 rfl (by kernel_rfl)) rfl ⟨rfl, below_setRow hbel (by simp) _⟩

end Go.Proofs.YtenafjdlaefepaaDoor

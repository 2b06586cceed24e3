/-
Plain arithmetic on bits, with no program in sight: what one bit of a number is, what a number of 32 bits is, and what setting one bit makes.
-/
import Derived.WalkKit
namespace Go.Proofs.YtcmbnkmbaghkdaaDoor
open Go.RowKit

/-- Bit i of v, as 0 or 1. -/
def bitv (v i : Nat) : Nat := v / 2 ^ i % 2
theorem bitv_le (v i : Nat) : bitv v i ≤ 1 := by unfold bitv; omega
theorem bitv_eq (v i : Nat) : bitv v i = (v.testBit i).toNat := by
  unfold bitv
  rw [Nat.testBit_eq_decide_div_mod_eq]
  have : v / 2 ^ i % 2 < 2 := Nat.mod_lt _ (by omega)
  by_cases h : v / 2 ^ i % 2 = 1
  · simp [h]
  · have : v / 2 ^ i % 2 = 0 := by omega
    simp [this]

/-- The number that From has when c of the 32 places, the highest first, were gone over. -/
def hornN (f : Nat → Nat) : Nat → Nat
  | 0 => 0
  | c + 1 => 2 * hornN f c + f (31 - c)
theorem hornN_lt (f : Nat → Nat) (hf : ∀ i, f i ≤ 1) : ∀ c, hornN f c < 2 ^ c
  | 0 => by simp [hornN]
  | c + 1 => by
    have := hornN_lt f hf c
    have := hf (31 - c)
    simp only [hornN, Nat.pow_succ]
    omega
theorem hornN_bits (v : Nat) (hv : v < 4294967296) (f : Nat → Nat) (hf : ∀ i, i < 32 → f i = bitv v i) : ∀ c, c ≤ 32 → hornN f c = v / 2 ^ (32 - c)
  | 0, _ => by simp only [hornN]; exact (Nat.div_eq_of_lt hv).symm
  | c + 1, h => by
    simp only [hornN]
    rw [hornN_bits v hv f hf c (by omega), hf _ (by omega)]
    unfold bitv
    have e : 32 - c = (31 - c) + 1 := by omega
    have e2 : 32 - (c + 1) = 31 - c := by omega
    rw [e, e2, Nat.pow_succ, ← Nat.div_div_eq_div_mul]
    omega
theorem hornN_all (v : Nat) (hv : v < 4294967296) (f : Nat → Nat) (hf : ∀ i, i < 32 → f i = bitv v i) : hornN f 32 = v := by
  rw [hornN_bits v hv f hf 32 (by omega)]; simp

/-- v with its bit lo set to x (0 or 1). -/
def setBit (v lo x : Nat) : Nat := if x = 1 then v ||| 2 ^ lo else v &&& (4294967295 - 2 ^ lo)

theorem two_pow_lt {lo : Nat} (h : lo < 32) : 2 ^ lo < 4294967296 := Nat.pow_lt_pow_right (a := 2) (by omega) h
theorem mask_lt {m : Nat} : 4294967295 - m < 4294967296 := by omega
theorem testBit_not32 (m i : Nat) (hm : m < 4294967296) : (4294967295 - m).testBit i = (decide (i < 32) && !m.testBit i) := by
  have := Nat.testBit_two_pow_sub_succ (n := 32) (x := m) (by simpa using hm) i
  have e : 2 ^ 32 - (m + 1) = 4294967295 - m := by omega
  rw [e] at this
  exact this
theorem testBit_ge (v i : Nat) (hv : v < 4294967296) (h : 32 ≤ i) : v.testBit i = false :=
  Nat.testBit_lt_two_pow (Nat.lt_of_lt_of_le hv (by have : 2 ^ 32 ≤ 2 ^ i := Nat.pow_le_pow_right (by omega) h; simpa using this))
theorem setBit_lt (v lo x : Nat) (hv : v < 4294967296) (hl : lo < 32) : setBit v lo x < 4294967296 := by
  unfold setBit
  split
  · exact Nat.or_lt_two_pow (n := 32) hv (two_pow_lt hl)
  · exact Nat.lt_of_le_of_lt Nat.and_le_left hv
theorem testBit_setBit (v lo x i : Nat) (hv : v < 4294967296) (hl : lo < 32) : (setBit v lo x).testBit i = if i = lo then decide (x = 1) else v.testBit i := by
  unfold setBit
  by_cases hx : x = 1
  · rw [if_pos hx, Nat.testBit_or, Nat.testBit_two_pow]
    by_cases hi : i = lo
    · subst hi; simp [hx]
    · have : ¬ lo = i := fun e => hi e.symm
      simp [hi, this]
  · rw [if_neg hx, Nat.testBit_and, testBit_not32 _ _ (two_pow_lt hl), Nat.testBit_two_pow]
    by_cases hi : i = lo
    · subst hi; simp [hx]
    · have h2 : ¬ lo = i := fun e => hi e.symm
      by_cases hi32 : i < 32
      · simp [hi, h2, hi32]
      · simp [hi, h2, testBit_ge v i hv (by omega)]
theorem bitv_setBit (v lo x i : Nat) (hv : v < 4294967296) (hl : lo < 32) (hx : x ≤ 1) : bitv (setBit v lo x) i = if i = lo then x else bitv v i := by
  rw [bitv_eq, testBit_setBit v lo x i hv hl, bitv_eq]
  by_cases hi : i = lo
  · simp only [hi, if_true]
    obtain rfl | rfl : x = 0 ∨ x = 1 := by omega
    · rfl
    · rfl
  · simp [hi]
theorem bitv_ext (a b : Nat) (h : ∀ i, a.testBit i = b.testBit i) : a = b := Nat.eq_of_testBit_eq h
theorem bitv_one_iff (v i : Nat) : bitv v i = 1 ↔ v.testBit i = true := by
  rw [bitv_eq]; cases v.testBit i <;> simp
theorem bitv_zero_iff (v i : Nat) : bitv v i = 0 ↔ v.testBit i = false := by
  rw [bitv_eq]; cases v.testBit i <;> simp
theorem bitv_small (x : Nat) (hx : x ≤ 1) : bitv x 0 = x := by unfold bitv; simp; omega
end Go.Proofs.YtcmbnkmbaghkdaaDoor

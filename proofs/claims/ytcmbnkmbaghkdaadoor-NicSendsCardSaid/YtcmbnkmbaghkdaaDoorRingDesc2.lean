/-
ring.desc, walked: its answer for every memory.
Condition: the table of regions of package bus reads as its text lays it.
-/
import Derived.Test.YtcmbnkmbaghkdaaDoorRingDesc
import Derived.Laws.BitsLemmas
import Derived.Laws.BitsAllLaws
namespace Go.Proofs.YtcmbnkmbaghkdaaDoor
open Go.RowKit

theorem and_two (y : Nat) : y &&& 2 = 2 * (y / 2 % 2) := by
  have h : y &&& 2 = (y % 4) &&& 2 := by
    have e : y % 4 = y &&& 3 := (Nat.and_two_pow_sub_one_eq_mod y 2).symm
    rw [e, Nat.and_assoc]
    rfl
  rw [h]
  have : y % 4 = 0 ∨ y % 4 = 1 ∨ y % 4 = 2 ∨ y % 4 = 3 := by omega
  rcases this with e | e | e | e
  all_goals
    rw [e]
    simp only [show (0 : Nat) &&& 2 = 0 from rfl, show (1 : Nat) &&& 2 = 0 from rfl, show (2 : Nat) &&& 2 = 2 from rfl, show (3 : Nat) &&& 2 = 2 from rfl]
    omega
theorem and_high (y : Nat) (hy : y < 65536) : (y &&& 4294967292 = 0) ↔ y < 4 := by
  have h1 : (y &&& 4294967292) / 2 ^ 2 = y / 2 ^ 2 &&& 4294967292 / 2 ^ 2 := Nat.and_div_two_pow
  have h2 : (y &&& 4294967292) % 2 ^ 2 = (y % 2 ^ 2) &&& (4294967292 % 2 ^ 2) := Nat.and_mod_two_pow
  have h3 : y / 4 &&& 1073741823 = (y / 4) % 1073741824 := Nat.and_two_pow_sub_one_eq_mod (y / 4) 30
  have e1 : (4294967292 : Nat) / 2 ^ 2 = 1073741823 := by decide
  have e2 : (4294967292 : Nat) % 2 ^ 2 = 0 := by decide
  have e3 : (2 : Nat) ^ 2 = 4 := by decide
  rw [e1, e3, h3] at h1
  rw [e2, Nat.and_zero, e3] at h2
  omega
theorem gp_lt4 (f : Nat → UInt8) (a : Nat) : gp f a 4 < 4294967296 := (gp_step f a 3 (by omega)).2.1
theorem gp_lt2 (f : Nat → UInt8) (a : Nat) : gp f a 2 < 65536 := by
  have h0 := (f a).toNat_lt
  have h1 := (f (a + 1)).toNat_lt
  simp only [gp, Nat.add_zero]
  omega
theorem desc_arg (de i a j : Nat) (ha : a = (de + 16 * i) % 4294967296) (hd16 : de % 16 = 0) (hj : j < 4) : a + 4 * j < 4294967296 ∧ (a + 4 * j) % 4 = 0 := by
  omega
set_option maxRecDepth 100000 in
theorem ring_desc {g : Nat} {m : Mm} {F : Nat → Prop} {w : World} (size de av us la pu i a : Nat) (h : RamIs w g m F) (hr : RegAt w) (hrf : ¬ F 0) (hde : de < 4294967296) (hd16 : de % 16 = 0) (hi : i < 256) (ha : a = (de + 16 * i) % 4294967296) :
    Calls Tryd.prog 112 #[.agg #[.int .i64 size, .int .u32 de, .int .u32 av, .int .u32 us, .int .u16 la, .int .u16 pu], .pointer (some ⟨g, 0, none⟩), .int .i64 i] w fun e w' => ∃ F2, e = .returned (descV (rdesc m a)) ∧ RamIs w' g m F2 ∧ MemStep F F2 w w' := by
  have HL : Hid (∀ W F' (j : Nat) (ai : Int), RamIs W g m F' → MemStep F F' w W → j < 4 → ai = ((a + 4 * j : Nat) : Int) → Calls Tryd.prog 111 #[.pointer (some ⟨g, 0, none⟩), .int .u32 ai, .int .i64 4] W fun e w' => ∃ F2, e = .returned (loadV (rload m (a + 4 * j) 4)) ∧ RamIs w' g m F2 ∧ MemStep F' F2 W w') :=
    Lib.hid (fun W F' j ai h1 h2 hj e => ring_load h1 (reg_step hr h2 hrf).1 (a + 4 * j) 4 ai 4 e rfl (desc_arg de i a j ha hd16 hj).1 (.inr (.inr rfl)) (desc_arg de i a j ha hd16 hj).2)
  by_cases h0 : 2147483648 ≤ a ∧ a - 2147483648 + 4 ≤ 4096 * m.n
  · have ha16 : a % 16 = 0 := by omega
    have el (j : Nat) (hj : j < 4) : rload m (a + 4 * j) 4 = some (gp m.f (a + 4 * j - 2147483648) 4) := if_pos (by omega)
    have g0 := gp_lt4 m.f (a + 4 * 0 - 2147483648)
    have g2 := gp_lt4 m.f (a + 4 * 2 - 2147483648)
    have g3 := gp_lt4 m.f (a + 4 * 3 - 2147483648)
    have e0 := el 0 (by omega)
    have e1 := el 1 (by omega)
    have e2 := el 2 (by omega)
    have e3 := el 3 (by omega)
    generalize gp m.f (a + 4 * 0 - 2147483648) 4 = x0 at g0 e0
    generalize gp m.f (a + 4 * 1 - 2147483648) 4 = x1 at e1
    generalize gp m.f (a + 4 * 2 - 2147483648) 4 = x2 at g2 e2
    generalize gp m.f (a + 4 * 3 - 2147483648) 4 = x3 at g3 e3
    have B1 : bits BinOp.and IntKind.u32 (x3 : Int) 65535 = ((x3 % 65536 : Nat) : Int) := by
      have h := u32_and_nat x3 65535 g3 (by omega)
      rw [show x3 &&& 65535 = x3 % 65536 from Nat.and_two_pow_sub_one_eq_mod x3 16] at h
      exact h
    have hm : x3 % 65536 < 4294967296 := by omega
    have B2 : bits BinOp.and IntKind.u32 ((x3 % 65536 : Nat) : Int) 2 = ((2 * (x3 / 2 % 2) : Nat) : Int) := by
      have h := u32_and_nat (x3 % 65536) 2 hm (by omega)
      rw [and_two, show x3 % 65536 / 2 % 2 = x3 / 2 % 2 by omega] at h
      exact h
    have B3 : bits BinOp.andNot IntKind.u32 ((x3 % 65536 : Nat) : Int) 3 = (((x3 % 65536) &&& 4294967292 : Nat) : Int) := u32_andNot_nat (x3 % 65536) 3 hm (by omega)
    have B4 : bits BinOp.and IntKind.u32 ((x3 % 65536 : Nat) : Int) 1 = ((x3 % 2 : Nat) : Int) := by
      have h := u32_and_nat (x3 % 65536) 1 hm (by omega)
      rw [Nat.and_one_is_mod, show x3 % 65536 % 2 = x3 % 2 by omega] at h
      exact h
    have hw : (((2 * (x3 / 2 % 2) : Nat) : Int) != 0) = decide (x3 / 2 % 2 = 1) := by
      by_cases hq : x3 / 2 % 2 = 1
      · rw [hq]; rfl
      · rw [show x3 / 2 % 2 = 0 by omega]; rfl
    have h3 := and_high (x3 % 65536) (by omega)
    refine ring_desc_in size de av us la pu i a h hde hd16 hi ha HL x0 x1 x2 x3 e0 e1 e2 e3 g0 g2 g3 (x3 % 65536) (x3 % 2) _ _ _ B1 B2 B3 B4 hw
      (Lib.hid (fun W F' h1 h2 hl => ring_there_ok h1 (reg_step hr h2 hrf).1 x0 x2 g0 hl)) (Lib.hid (fun W F' h1 h2 hl => ring_there_no h1 (reg_step hr h2 hrf).1 x0 x2 g0 (by omega) hl)) (Lib.hid ?_)
    unfold rdesc
    rw [e0, e1, e2, e3]
    simp only [h3]
    by_cases hq : x3 % 2 = 1
    · rw [if_pos hq, if_neg (show ¬ x3 % 2 = 0 by omega)]
    · rw [if_neg hq, if_pos (show x3 % 2 = 0 by omega)]
  · have hout : rload m (a + 4 * 0) 4 = none := if_neg (by simpa using h0)
    have e : rdesc m a = none := by unfold rdesc; rw [hout]
    rw [e]
    exact ring_desc_out size de av us la pu i a h hde hd16 hi ha HL hout
end Go.Proofs.YtcmbnkmbaghkdaaDoor

/-
A descriptor as the document reads it, and as the program does: the plain laws.
No condition.
-/
import Derived.Test.YtcmbnkmbaghkdaaDoorRingWalk
import Derived.Test.YtcmbnkmbaghkdaaDoorRef13C
namespace Go.Proofs.YtcmbnkmbaghkdaaDoor
open Go.RowKit
set_option linter.unusedVariables false

theorem gp_two (f : Nat → UInt8) (a : Nat) : gp f a 4 = gp f a 2 + 65536 * gp f (a + 2) 2 := by
  simp [gp, Nat.add_assoc]
  omega
theorem gp_low (f : Nat → UInt8) (a : Nat) : gp f a 2 < 65536 := gp_lt2 f a
/-- The descriptor lies in memory. -/
def descIn (m : Mm) (A : Nat) : Prop := 2147483648 ≤ A ∧ A - 2147483648 + 16 ≤ 4096 * m.n
theorem rload_base {m : Mm} {a b k : Nat} (hab : a = 2147483648 + b) (hb : b + k ≤ 4096 * m.n) : rload m a k = some (gp m.f b k) := by
  unfold rload
  rw [if_pos ⟨by omega, by omega⟩, show a - 2147483648 = b by omega]
theorem descIn.base {m : Mm} {A : Nat} (h : descIn m A) : ∃ y, A = 2147483648 + y ∧ y + 16 ≤ 4096 * m.n := ⟨A - 2147483648, (Nat.add_sub_of_le h.1).symm, h.2⟩
theorem rload_at {m : Mm} {A y : Nat} (j k : Nat) (h : A = 2147483648 + y) (hy : y + 16 ≤ 4096 * m.n) (hj : j + k ≤ 16) : rload m (A + j) k = some (gp m.f (y + j) k) :=
  rload_base (by rw [h, Nat.add_assoc]) (by omega)
set_option maxRecDepth 100000 in
theorem rload_off {m : Mm} {A j k : Nat} (h : ¬ descIn m A) (h16 : A % 16 = 0) (hk : 0 < k) (hj : j + k ≤ 16) : rload m (A + j) k = none := by
  unfold rload
  rw [if_neg (fun x => h (by
    obtain ⟨x1, x2⟩ := x
    have h1 : 2147483648 ≤ A := by omega
    obtain ⟨y, hy⟩ : ∃ y, A = 2147483648 + y := ⟨A - 2147483648, (Nat.add_sub_of_le h1).symm⟩
    have h3 : A + j - 2147483648 = y + j := by rw [hy, Nat.add_assoc, Nat.add_sub_cancel_left]
    rw [h3] at x2
    have h4 : A - 2147483648 = y := by rw [hy, Nat.add_sub_cancel_left]
    have h5 : y % 16 = 0 := by omega
    exact ⟨h1, by rw [h4]; omega⟩))]
theorem rdesc_off {m : Mm} {A : Nat} (h : ¬ descIn m A) (h16 : A % 16 = 0) : rdesc m A = none := by
  unfold rdesc
  rw [rload_off h h16 (by omega) (by omega)]
set_option maxRecDepth 100000 in
theorem rdesc_half {m : Mm} {A : Nat} (h : descIn m A) : ∃ x0 x1 x2 mk nx : Nat, (x0 < 4294967296 ∧ x1 < 4294967296 ∧ x2 < 4294967296 ∧ mk < 65536 ∧ nx < 65536) ∧ rload m A 4 = some x0 ∧ rload m (A + 4) 4 = some x1 ∧ rload m (A + 8) 4 = some x2 ∧ rload m (A + 12) 2 = some mk ∧ rload m (A + 14) 2 = some nx ∧
    rdesc m A = if x1 = 0 ∧ mk < 4 ∧ x2 ≤ 1048576 ∧ lies m x0 x2 then some (⟨x0, x2, decide (mk / 2 = 1)⟩, if mk % 2 = 1 then (nx : Int) else -1) else none := by
  obtain ⟨y, hA, hy⟩ := h.base
  have r0 := rload_at 0 4 hA hy (by omega)
  have r1 := rload_at 4 4 hA hy (by omega)
  have r2 := rload_at 8 4 hA hy (by omega)
  have r3 := rload_at 12 4 hA hy (by omega)
  have r4 := rload_at 12 2 hA hy (by omega)
  have r5 := rload_at 14 2 hA hy (by omega)
  refine ⟨_, _, _, _, _, ⟨gp_lt4 _ _, gp_lt4 _ _, gp_lt4 _ _, gp_low _ _, gp_low _ _⟩, r0, r1, r2, r4, r5, ?_⟩
  unfold rdesc
  rw [show 4 * 0 = 0 from rfl, show 4 * 1 = 4 from rfl, show 4 * 2 = 8 from rfl, show 4 * 3 = 12 from rfl, r0, r1, r2, r3]
  simp only
  have e := gp_two m.f (y + 12)
  rw [Nat.add_assoc] at e
  have hl := gp_low m.f (y + 12)
  generalize gp m.f (y + 12) 4 = x3 at e ⊢
  generalize gp m.f (y + 12) 2 = mk at e hl ⊢
  generalize gp m.f (y + (12 + 2)) 2 = nx at e ⊢
  generalize gp m.f (y + 0) 4 = x0
  generalize gp m.f (y + 4) 4 = x1
  generalize gp m.f (y + 8) 4 = x2
  have e1 : x3 % 65536 = mk := by omega
  have e2 : x3 / 65536 = nx := by omega
  rw [e1, e2]
  by_cases hc : x1 = 0 ∧ mk < 4 ∧ x2 ≤ 1048576 ∧ lies m x0 x2
  · rw [if_pos hc, if_pos hc]
    have hm := hc.2.1
    have e3 : (x3 / 2 % 2 = 1) = (mk / 2 = 1) := by rw [eq_iff_iff]; omega
    have e4 : (x3 % 2 = 1) = (mk % 2 = 1) := by rw [eq_iff_iff]; omega
    simp only [e3, e4]
  · rw [if_neg hc, if_neg hc]
theorem rwalkF_stop {de size : Nat} {m : Mm} {a : Int} {sum : Nat} {wr : Bool} {acc : List Sg} : rwalkF de size m 0 a sum wr acc = none := rfl
theorem rwalkF_range {de size : Nat} {m : Mm} {k : Nat} {a : Int} {sum : Nat} {wr : Bool} {acc : List Sg} (h : ¬ (0 ≤ a ∧ a < size)) : rwalkF de size m (k + 1) a sum wr acc = none := by
  unfold rwalkF
  rw [if_neg h]
theorem rwalkF_bad {de size : Nat} {m : Mm} {k : Nat} {i : Nat} {sum : Nat} {wr : Bool} {acc : List Sg} (hi : i < size) (hd : rdesc m ((de + 16 * i) % 4294967296) = none) : rwalkF de size m (k + 1) (i : Int) sum wr acc = none := by
  unfold rwalkF
  rw [if_pos ⟨by omega, by omega⟩, Int.toNat_natCast, hd]
theorem rwalkF_odd {de size : Nat} {m : Mm} {k : Nat} {i : Nat} {sum : Nat} {wr : Bool} {acc : List Sg} {s : Sg} {nx : Int} (hi : i < size) (hd : rdesc m ((de + 16 * i) % 4294967296) = some (s, nx)) (hb : ¬ (sum + s.n ≤ 1048576 ∧ (wr = true → s.wr = true))) : rwalkF de size m (k + 1) (i : Int) sum wr acc = none := by
  unfold rwalkF
  rw [if_pos ⟨by omega, by omega⟩, Int.toNat_natCast, hd]
  simp only
  rw [if_neg hb]
theorem rwalkF_last {de size : Nat} {m : Mm} {k : Nat} {i : Nat} {sum : Nat} {wr : Bool} {acc : List Sg} {s : Sg} {nx : Int} (hi : i < size) (hd : rdesc m ((de + 16 * i) % 4294967296) = some (s, nx)) (hb : sum + s.n ≤ 1048576 ∧ (wr = true → s.wr = true)) (hx : nx < 0) : rwalkF de size m (k + 1) (i : Int) sum wr acc = some (acc ++ [s]) := by
  unfold rwalkF
  rw [if_pos ⟨by omega, by omega⟩, Int.toNat_natCast, hd]
  simp only
  rw [if_pos hb, if_pos hx]
theorem rwalkF_on {de size : Nat} {m : Mm} {k : Nat} {i : Nat} {sum : Nat} {wr : Bool} {acc : List Sg} {s : Sg} {nx : Int} (hi : i < size) (hd : rdesc m ((de + 16 * i) % 4294967296) = some (s, nx)) (hb : sum + s.n ≤ 1048576 ∧ (wr = true → s.wr = true)) (hx : ¬ nx < 0) : rwalkF de size m (k + 1) (i : Int) sum wr acc = rwalkF de size m k nx (sum + s.n) s.wr (acc ++ [s]) := by
  conv => lhs; unfold rwalkF
  rw [if_pos ⟨by omega, by omega⟩, Int.toNat_natCast, hd]
  simp only
  rw [if_pos hb, if_neg hx]
end Go.Proofs.YtcmbnkmbaghkdaaDoor

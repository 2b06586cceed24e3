/-
The state of a device (virtio), as cells; ring.Check, Queue.may, State.right, walked.
No condition.
-/
import Derived.Test.YtcmbnkmbaghkdaaDoorProg
import Derived.Test.YtcmbnkmbaghkdaaDoorG1

import Derived.ChangeKeysEq
import Derived.Laws.BitsAllLaws
namespace Go.Proofs.YtcmbnkmbaghkdaaDoor
open Go.RowKit

structure VQ where
  rdy : Bool
  size : Int
  (de av us la pu : Nat)
structure VS where
  (st fs ds se irq d0 d1 : Nat)
  (a b : VQ)
def VQ.rv (q : VQ) : Value := .agg #[.int .i64 q.size, .int .u32 q.de, .int .u32 q.av, .int .u32 q.us, .int .u16 q.la, .int .u16 q.pu]
def VQ.v (q : VQ) : Value := .agg #[.bool q.rdy, .int .i64 q.size, .int .u32 q.de, .int .u32 q.av, .int .u32 q.us, .int .u16 q.la, .int .u16 q.pu]
def VS.c (s : VS) : Array Value := #[.int .u32 s.st, .int .u32 s.fs, .int .u32 s.ds, .int .u32 s.se, .int .u32 s.irq, .int .u32 s.d0, .int .u32 s.d1,
  .bool s.a.rdy, .int .i64 s.a.size, .int .u32 s.a.de, .int .u32 s.a.av, .int .u32 s.a.us, .int .u16 s.a.la, .int .u16 s.a.pu,
  .bool s.b.rdy, .int .i64 s.b.size, .int .u32 s.b.de, .int .u32 s.b.av, .int .u32 s.b.us, .int .u16 s.b.la, .int .u16 s.b.pu]
def VS.v (s : VS) : Value := .agg s.c
structure VQ.wf (q : VQ) : Prop where
  lo : -9223372036854775808 ≤ q.size
  hi : q.size ≤ 9223372036854775807
  hde : q.de < 4294967296
  hav : q.av < 4294967296
  hus : q.us < 4294967296
  hla : q.la < 65536
  hpu : q.pu < 65536
structure VS.wf (s : VS) : Prop where
  hst : s.st < 4294967296
  hfs : s.fs < 4294967296
  hds : s.ds < 4294967296
  hse : s.se < 4294967296
  hirq : s.irq < 4294967296
  hd0 : s.d0 < 4294967296
  hd1 : s.d1 < 4294967296
  ha : s.a.wf
  hb : s.b.wf
/-- A ring that may be. -/
def VQ.ring (q : VQ) : Prop := 1 ≤ q.size ∧ q.size ≤ 256 ∧ (q.size.toNat &&& (q.size.toNat - 1)) = 0 ∧ q.de % 16 = 0 ∧ q.av % 2 = 0 ∧ q.us % 4 = 0
instance (q : VQ) : Decidable q.ring := by unfold VQ.ring; infer_instance
def VQ.may (q : VQ) : Prop := if q.rdy = true then q.ring else 0 ≤ q.size ∧ q.size ≤ 256
instance (q : VQ) : Decidable q.may := by unfold VQ.may; infer_instance

theorem vring_bits (m : Nat) (h1 : 1 ≤ m) (h2 : m ≤ 256) : bits BinOp.and IntKind.i64 (m : Int) ((m : Int) - 1) = ((m &&& (m - 1) : Nat) : Int) := by
  have key : ((List.range 257).all fun m => m == 0 || bits BinOp.and IntKind.i64 (m : Int) ((m : Int) - 1) == ((m &&& (m - 1) : Nat) : Int)) = true := by decide +kernel
  have := List.all_eq_true.1 key m (by simp; omega)
  simp only [Bool.or_eq_true, beq_iff_eq] at this
  rcases this with h | h
  · omega
  · exact h
theorem vmod_ne (a m : Nat) (h : ¬ a % m = 0) : (((a : Int) % (m : Int)) != 0) = true := by simp only [bne_iff_ne, ne_eq]; omega
theorem vmod_eq (a m : Nat) (h : a % m = 0) : (((a : Int) % (m : Int)) != 0) = false := by
  have : ((a : Int) % (m : Int)) = ((a % m : Nat) : Int) := by omega
  rw [this, h]; rfl

set_option maxRecDepth 100000 in
set_option maxHeartbeats 1000000 in
theorem vring_Check (q : VQ) (w : World) :
    Calls Tryd.prog 129 #[q.rv] w fun e w' => e = .returned (errV (if q.ring then 0 else 1)) ∧ Below w.heap.size w w' := by
  by_cases h1 : 1 ≤ q.size
  · by_cases h2 : q.size ≤ 256
    · obtain ⟨m, hm⟩ : ∃ m : Nat, q.size = (m : Int) := ⟨q.size.toNat, by omega⟩
      have hand := vring_bits m (by omega) (by omega)
      have hm1 : 1 ≤ m := by omega
      have hm2 : m ≤ 256 := by omega
      have HQ : Hid (q.ring ↔ ((m &&& (m - 1)) = 0 ∧ q.de % 16 = 0 ∧ q.av % 2 = 0 ∧ q.us % 4 = 0)) := Lib.hid (by
        unfold VQ.ring; rw [hm]; simp only [Int.toNat_natCast]; constructor
        · rintro ⟨_, _, h⟩; exact h
        · rintro h; exact ⟨by omega, by omega, h⟩)
      obtain ⟨x, hx⟩ : ∃ x, x = m &&& (m - 1) := ⟨_, rfl⟩
      rw [← hx] at hand HQ
      clear hx h1 h2
      have hl1 : ¬ ((m : Int) < 1) := by omega
      have hl2 : ¬ (256 < (m : Int)) := by omega
      have hl3 : decide ((m : Int) < 1) = false := by simp; omega
      have hl4 : decide (256 < (m : Int)) = false := by simp; omega
      unfold VQ.rv
      rw [hm]
      by_cases hp : x = 0
      · have bp : ((x : Int) != 0) = false := by simp [hp]
        by_cases hd : q.de % 16 = 0
        · have bd : (((q.de : Int) % 16) != 0) = false := vmod_eq q.de 16 hd
          by_cases ha : q.av % 2 = 0
          · have ba : (((q.av : Int) % 2) != 0) = false := vmod_eq q.av 2 ha
            by_cases hu : q.us % 4 = 0
            · have bu : (((q.us : Int) % 4) != 0) = false := vmod_eq q.us 4 hu
              have e : (if q.ring then 0 else 1) = 0 := if_pos (HQ.out.2 ⟨hp, hd, ha, hu⟩)
              rw [e]
              clear e hp hd ha hu
              go_enter Tryd.func129, Tryd.ntmps129
              go_wp2_with fail
              go_ret
              exact ⟨rfl, (Below.refl _ _).alloc (Nat.le_refl _) _⟩
            · have bu : (((q.us : Int) % 4) != 0) = true := vmod_ne q.us 4 hu
              have e : (if q.ring then 0 else 1) = 1 := if_neg fun h => hu (HQ.out.1 h).2.2.2
              rw [e]
              clear e hp hd ha hu
              go_enter Tryd.func129, Tryd.ntmps129
              go_wp2_with fail
              go_ret
              exact ⟨rfl, (Below.refl _ _).alloc (Nat.le_refl _) _⟩
          · have ba : (((q.av : Int) % 2) != 0) = true := vmod_ne q.av 2 ha
            have e : (if q.ring then 0 else 1) = 1 := if_neg fun h => ha (HQ.out.1 h).2.2.1
            rw [e]
            clear e hp hd ha
            go_enter Tryd.func129, Tryd.ntmps129
            go_wp2_with fail
            go_ret
            exact ⟨rfl, (Below.refl _ _).alloc (Nat.le_refl _) _⟩
        · have bd : (((q.de : Int) % 16) != 0) = true := vmod_ne q.de 16 hd
          have e : (if q.ring then 0 else 1) = 1 := if_neg fun h => hd (HQ.out.1 h).2.1
          rw [e]
          clear e hp hd
          go_enter Tryd.func129, Tryd.ntmps129
          go_wp2_with fail
          go_ret
          exact ⟨rfl, (Below.refl _ _).alloc (Nat.le_refl _) _⟩
      · have bp : ((x : Int) != 0) = true := by simp [hp]
        have e : (if q.ring then 0 else 1) = 1 := if_neg fun h => hp (HQ.out.1 h).1
        rw [e]
        clear e hp
        go_enter Tryd.func129, Tryd.ntmps129
        go_wp2_with fail
        go_ret
        exact ⟨rfl, (Below.refl _ _).alloc (Nat.le_refl _) _⟩
    · have e : (if q.ring then 0 else 1) = 1 := if_neg fun h => h2 h.2.1
      have h2b : 256 < q.size := by omega
      rw [e]
      unfold VQ.rv
      go_enter Tryd.func129, Tryd.ntmps129
      go_wp2_with fail
      go_ret
      exact ⟨rfl, (Below.refl _ _).alloc (Nat.le_refl _) _⟩
  · have e : (if q.ring then 0 else 1) = 1 := if_neg fun h => h1 h.1
    have h1b : q.size < 1 := by omega
    rw [e]
    unfold VQ.rv
    go_enter Tryd.func129, Tryd.ntmps129
    go_wp2_with fail
    go_ret
    exact ⟨rfl, (Below.refl _ _).alloc (Nat.le_refl _) _⟩

end Go.Proofs.YtcmbnkmbaghkdaaDoor

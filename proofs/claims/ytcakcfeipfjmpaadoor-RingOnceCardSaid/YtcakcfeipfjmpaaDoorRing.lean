/-
Package ring: Check, bad, place, load, store, walked.
Condition: the table of regions of package bus reads as its text lays it.
-/
import Derived.Test.YtcakcfeipfjmpaaDoorBusBase
import Derived.Test.YtcakcfeipfjmpaaDoorErrV
import Derived.Test.YtcakcfeipfjmpaaDoorMemLoad
import Derived.Test.YtcakcfeipfjmpaaDoorLawBase
import Derived.Laws.BitsAllLaws
namespace Go.Proofs.YtcakcfeipfjmpaaDoor
open Go.RowKit

/-- A ring. -/
structure Rg where
  size : Int
  (de av us la pu : Nat)
deriving DecidableEq
def Rg.c (q : Rg) : Array Value := #[.int .i64 q.size, .int .u32 q.de, .int .u32 q.av, .int .u32 q.us, .int .u16 q.la, .int .u16 q.pu]
def Rg.v (q : Rg) : Value := .agg #[.int .i64 q.size, .int .u32 q.de, .int .u32 q.av, .int .u32 q.us, .int .u16 q.la, .int .u16 q.pu]
theorem Rg.c_one (q : Rg) : q.c.all (·.oneCell') = true := by simp [Rg.c, Value.oneCell']
structure Rg.wf (q : Rg) : Prop where
  lo : -9223372036854775808 ≤ q.size
  hi : q.size ≤ 9223372036854775807
  hde : q.de < 4294967296
  hav : q.av < 4294967296
  hus : q.us < 4294967296
  hla : q.la < 65536
  hpu : q.pu < 65536
/-- A ring that may be. -/
def Rg.okP (q : Rg) : Prop := 1 ≤ q.size ∧ q.size ≤ 256 ∧ (q.size.toNat &&& (q.size.toNat - 1)) = 0 ∧ q.de % 16 = 0 ∧ q.av % 2 = 0 ∧ q.us % 4 = 0
instance (q : Rg) : Decidable q.okP := by unfold Rg.okP; infer_instance
def Rg.zero : Rg := ⟨0, 0, 0, 0, 0, 0⟩

theorem ring_bits (m : Nat) (h1 : 1 ≤ m) (h2 : m ≤ 256) : bits BinOp.and IntKind.i64 (m : Int) ((m : Int) - 1) = ((m &&& (m - 1) : Nat) : Int) := by
  have key : ((List.range 257).all fun m => m == 0 || bits BinOp.and IntKind.i64 (m : Int) ((m : Int) - 1) == ((m &&& (m - 1) : Nat) : Int)) = true := by decide +kernel
  have := List.all_eq_true.1 key m (by simp; omega)
  simp only [Bool.or_eq_true, beq_iff_eq] at this
  rcases this with h | h
  · omega
  · exact h
theorem mod_ne (a m : Nat) (h : ¬ a % m = 0) : (((a : Int) % (m : Int)) != 0) = true := by simp only [bne_iff_ne, ne_eq]; omega
theorem mod_eq (a m : Nat) (h : a % m = 0) : (((a : Int) % (m : Int)) != 0) = false := by
  have : ((a : Int) % (m : Int)) = ((a % m : Nat) : Int) := by omega
  rw [this, h]; rfl

set_option maxRecDepth 100000 in
set_option maxHeartbeats 1000000 in
theorem ring_Check (q : Rg) (w : World) :
    Calls Tryd.prog 95 #[q.v] w fun e w' => e = .returned (errV (if q.okP then 0 else 1)) ∧ Below w.heap.size w w' := by
  by_cases h1 : 1 ≤ q.size
  · by_cases h2 : q.size ≤ 256
    · obtain ⟨m, hm⟩ : ∃ m : Nat, q.size = (m : Int) := ⟨q.size.toNat, by omega⟩
      have hand := ring_bits m (by omega) (by omega)
      have hm1 : 1 ≤ m := by omega
      have hm2 : m ≤ 256 := by omega
      have HQ : Hid (q.okP ↔ ((m &&& (m - 1)) = 0 ∧ q.de % 16 = 0 ∧ q.av % 2 = 0 ∧ q.us % 4 = 0)) := Lib.hid (by
        unfold Rg.okP; rw [hm]; simp only [Int.toNat_natCast]; constructor
        · rintro ⟨_, _, h⟩; exact h
        · rintro h; exact ⟨by omega, by omega, h⟩)
      obtain ⟨x, hx⟩ : ∃ x, x = m &&& (m - 1) := ⟨_, rfl⟩
      rw [← hx] at hand HQ
      clear hx h1 h2
      have hl1 : ¬ ((m : Int) < 1) := by omega
      have hl2 : ¬ (256 < (m : Int)) := by omega
      have hl3 : decide ((m : Int) < 1) = false := by simp; omega
      have hl4 : decide (256 < (m : Int)) = false := by simp; omega
      unfold Rg.v
      rw [hm]
      by_cases hp : x = 0
      · have bp : ((x : Int) != 0) = false := by simp [hp]
        by_cases hd : q.de % 16 = 0
        · have bd : (((q.de : Int) % 16) != 0) = false := mod_eq q.de 16 hd
          by_cases ha : q.av % 2 = 0
          · have ba : (((q.av : Int) % 2) != 0) = false := mod_eq q.av 2 ha
            by_cases hu : q.us % 4 = 0
            · have bu : (((q.us : Int) % 4) != 0) = false := mod_eq q.us 4 hu
              have e : (if q.okP then 0 else 1) = 0 := if_pos (HQ.out.2 ⟨hp, hd, ha, hu⟩)
              rw [e]
              clear e hp hd ha hu
              go_enter Tryd.func95, Tryd.ntmps95
              go_wp2_with fail
              go_ret
              exact ⟨rfl, (Below.refl _ _).alloc (Nat.le_refl _) _⟩
            · have bu : (((q.us : Int) % 4) != 0) = true := mod_ne q.us 4 hu
              have e : (if q.okP then 0 else 1) = 1 := if_neg fun h => hu (HQ.out.1 h).2.2.2
              rw [e]
              clear e hp hd ha hu
              go_enter Tryd.func95, Tryd.ntmps95
              go_wp2_with fail
              go_ret
              exact ⟨rfl, (Below.refl _ _).alloc (Nat.le_refl _) _⟩
          · have ba : (((q.av : Int) % 2) != 0) = true := mod_ne q.av 2 ha
            have e : (if q.okP then 0 else 1) = 1 := if_neg fun h => ha (HQ.out.1 h).2.2.1
            rw [e]
            clear e hp hd ha
            go_enter Tryd.func95, Tryd.ntmps95
            go_wp2_with fail
            go_ret
            exact ⟨rfl, (Below.refl _ _).alloc (Nat.le_refl _) _⟩
        · have bd : (((q.de : Int) % 16) != 0) = true := mod_ne q.de 16 hd
          have e : (if q.okP then 0 else 1) = 1 := if_neg fun h => hd (HQ.out.1 h).2.1
          rw [e]
          clear e hp hd
          go_enter Tryd.func95, Tryd.ntmps95
          go_wp2_with fail
          go_ret
          exact ⟨rfl, (Below.refl _ _).alloc (Nat.le_refl _) _⟩
      · have bp : ((x : Int) != 0) = true := by simp [hp]
        have e : (if q.okP then 0 else 1) = 1 := if_neg fun h => hp (HQ.out.1 h).1
        rw [e]
        clear e hp
        go_enter Tryd.func95, Tryd.ntmps95
        go_wp2_with fail
        go_ret
        exact ⟨rfl, (Below.refl _ _).alloc (Nat.le_refl _) _⟩
    · have e : (if q.okP then 0 else 1) = 1 := if_neg fun h => h2 h.2.1
      have h2b : 256 < q.size := by omega
      rw [e]
      unfold Rg.v
      go_enter Tryd.func95, Tryd.ntmps95
      go_wp2_with fail
      go_ret
      exact ⟨rfl, (Below.refl _ _).alloc (Nat.le_refl _) _⟩
  · have e : (if q.okP then 0 else 1) = 1 := if_neg fun h => h1 h.1
    have h1b : q.size < 1 := by omega
    rw [e]
    unfold Rg.v
    go_enter Tryd.func95, Tryd.ntmps95
    go_wp2_with fail
    go_ret
    exact ⟨rfl, (Below.refl _ _).alloc (Nat.le_refl _) _⟩


set_option maxRecDepth 100000 in
theorem ring_bad (q : Rg) (g : Nat) (w : World) : Calls Tryd.prog 71 #[q.v, .pointer (some ⟨g, 0, none⟩)] w fun e w' => e = .returned (errV (if q.okP then 0 else 1)) ∧ Below w.heap.size w w' := by
  have HC := Lib.hid (fun W => ring_Check q W)
  unfold Rg.v at *
  have HB := Lib.hid ((Below.refl w.heap.size w).alloc (Nat.le_refl _) (.cells #[.int .i64 q.size, .int .u32 q.de, .int .u32 q.av, .int .u32 q.us, .int .u16 q.la, .int .u16 q.pu] 53))
  generalize errV (if q.okP then 0 else 1) = ev at HC
  go_enter Tryd.func71, Tryd.ntmps71
  go_wp2_with fail
  refine (HC.out _).mono ?_
  rintro e w1 ⟨rfl, hb⟩
  go_wp2_with fail
  go_ret
  exact ⟨rfl, HB.out.trans (hb.mono HB.out.size)⟩
set_option maxRecDepth 100000 in
set_option maxHeartbeats 1000000 in
theorem ring_place_raw (a : Nat) (w : World) (h31 : 2147483648 ≤ a) (hr : RegAt w) :
    Calls Tryd.prog 84 #[.int .u32 a] w fun e w' => e = .returned (.tuple #[.int .u32 (((a : Int) - 2147483648) % 4294967296), .nilIface]) ∧ Below w.heap.size w w' := by
  have HB := Lib.hid (bus_Base 7 0 w (by omega) hr)
  have e1 : ((7 : Int).toNat) = 7 := rfl
  rw [e1] at HB
  have e2 : ((fromD 7 : Nat) : Int) = 2147483648 := rfl
  have e3 : ((roomD 0 7 : Nat) : Int) = 0 := rfl
  rw [e2, e3] at HB
  have b1 : decide ((a : Int) < 2147483648) = false := decide_eq_false (by omega)
  clear hr e1 e2 e3 h31
  go_enter Tryd.func84, Tryd.ntmps84
  go_wp2_with fail
  refine (HB.out).mono ?_
  rintro e w1 ⟨rfl, hb⟩
  go_wp2_with fail
  go_ret2
  exact ⟨rfl, hb⟩
theorem ring_place_in (a : Nat) (w : World) (ha : a < 4294967296) (h31 : 2147483648 ≤ a) (hr : RegAt w) :
    Calls Tryd.prog 84 #[.int .u32 a] w fun e w' => e = .returned (.tuple #[.int .u32 ((a - 2147483648 : Nat) : Int), .nilIface]) ∧ Below w.heap.size w w' := by
  have h := ring_place_raw a w h31 hr
  rw [show ((a : Int) - 2147483648) % 4294967296 = ((a - 2147483648 : Nat) : Int) by omega] at h
  exact h
set_option maxRecDepth 100000 in
set_option maxHeartbeats 1000000 in
theorem ring_place_out (a : Nat) (w : World) (h31 : a < 2147483648) (hr : RegAt w) :
    Calls Tryd.prog 84 #[.int .u32 a] w fun e w' => e = .returned (.tuple #[.int .u32 0, .iface 109 (.int .i64 22)]) ∧ Below w.heap.size w w' := by
  have HB := Lib.hid (bus_Base 7 0 w (by omega) hr)
  have e1 : ((7 : Int).toNat) = 7 := rfl
  rw [e1] at HB
  have e2 : ((fromD 7 : Nat) : Int) = 2147483648 := rfl
  have e3 : ((roomD 0 7 : Nat) : Int) = 0 := rfl
  rw [e2, e3] at HB
  have b1 : decide ((a : Int) < 2147483648) = true := decide_eq_true (by omega)
  clear hr e1 e2 e3 h31
  go_enter Tryd.func84, Tryd.ntmps84
  go_wp2_with fail
  refine (HB.out).mono ?_
  rintro e w1 ⟨rfl, hb⟩
  go_wp2_with fail
  go_ret2
  exact ⟨rfl, hb⟩
set_option maxRecDepth 100000 in
set_option maxHeartbeats 1000000 in
theorem ring_load_ok {g : Nat} {m : Mm} {F : Nat → Prop} {w : World} (h : RamIs w g m F) (hr : RegAt w) (a k : Nat) (ai ki : Int) (ea : ai = a) (ek : ki = k) (ha : a < 4294967296) (h31 : 2147483648 ≤ a) (hk : okN k) (hs : a - 2147483648 + k ≤ 4096 * m.n) (hd : (a - 2147483648) % k = 0) :
    Calls Tryd.prog 72 #[.pointer (some ⟨g, 0, none⟩), .int .u32 ai, .int .i64 ki] w fun e w' => ∃ F', e = .returned (.tuple #[.int .u32 (gp m.f (a - 2147483648) k : Nat), .nilIface]) ∧ RamIs w' g m F' ∧ MemStep F F' w w' := by
  subst ea ek
  have HP := Lib.hid (ring_place_in a w ha h31 hr)
  have HLD := Lib.hid (fun W (hb : Below w.heap.size w W) => mem_Load_ok (h.below hb) (a - 2147483648) k (by omega) hk hs hd)
  clear h hr hs hd hk
  generalize a - 2147483648 = x at HP HLD ⊢
  go_enter Tryd.func72, Tryd.ntmps72
  go_wp2_with fail
  refine (HP.out).mono ?_
  rintro e w1 ⟨rfl, hb⟩
  have HL2 := Lib.hid (HLD.out w1 hb)
  go_wp2_with fail
  refine (HL2.out).mono ?_
  rintro e w2 ⟨F2, rfl, h1, h2⟩
  go_wp2_with fail
  go_ret2
  exact ⟨F2, rfl, h1, (MemStep.of_below hb).trans h2⟩
set_option maxRecDepth 100000 in
set_option maxHeartbeats 1000000 in
theorem ring_load_low (p : Option Addr) (a : Nat) (k : Int) (w : World) (h31 : a < 2147483648) (hr : RegAt w) :
    Calls Tryd.prog 72 #[.pointer p, .int .u32 a, .int .i64 k] w fun e w' => e = .returned (.tuple #[.int .u32 0, .iface 109 (.int .i64 22)]) ∧ Below w.heap.size w w' := by
  have HP := Lib.hid (ring_place_out a w h31 hr)
  clear hr h31
  go_enter Tryd.func72, Tryd.ntmps72
  go_wp2_with fail
  refine (HP.out).mono ?_
  rintro e w1 ⟨rfl, hb⟩
  go_wp2_with fail
  go_ret2
  exact ⟨rfl, hb⟩
set_option maxRecDepth 100000 in
set_option maxHeartbeats 1000000 in
theorem ring_store_ok {g : Nat} {m : Mm} {F : Nat → Prop} {w : World} (h : RamIs w g m F) (hr : RegAt w) (a k v : Nat) (ai ki vi : Int) (ea : ai = a) (ek : ki = k) (ev : vi = v) (ha : a < 4294967296) (h31 : 2147483648 ≤ a) (hk : okN k) (hs : a - 2147483648 + k ≤ 4096 * m.n) (hd : (a - 2147483648) % k = 0) :
    Calls Tryd.prog 73 #[.pointer (some ⟨g, 0, none⟩), .int .u32 ai, .int .i64 ki, .int .u32 vi] w fun e w' => ∃ F', e = .returned .nilIface ∧ RamIs w' g (m.store (a - 2147483648) k v) F' ∧ MemStep F F' w w' := by
  subst ea ek ev
  have HP := Lib.hid (ring_place_in a w ha h31 hr)
  have HST := Lib.hid (fun W (hb : Below w.heap.size w W) => mem_Store_ok (h.below hb) (a - 2147483648) k v (by omega) hk hs hd)
  clear h hr hs hd hk
  generalize a - 2147483648 = x at HP HST ⊢
  go_enter Tryd.func73, Tryd.ntmps73
  go_wp2_with fail
  refine (HP.out).mono ?_
  rintro e w1 ⟨rfl, hb⟩
  have HL2 := Lib.hid (HST.out w1 hb)
  go_wp2_with fail
  refine (HL2.out).mono ?_
  rintro e w2 ⟨F2, rfl, h1, h2⟩
  go_wp2_with fail
  go_ret
  exact ⟨F2, rfl, h1, (MemStep.of_below hb).trans h2⟩
end Go.Proofs.YtcakcfeipfjmpaaDoor

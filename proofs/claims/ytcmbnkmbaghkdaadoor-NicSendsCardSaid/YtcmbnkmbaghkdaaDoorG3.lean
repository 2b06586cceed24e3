/-
Package ring: Check, bad, place, load, store, walked.
Condition: the table of regions of package bus reads as its text lays it.
ring.load, ring.there, walked.
Condition: the table of regions of package bus reads as its text lays it.
ring.Next, walked where it does not fail.
Condition: the table of regions of package bus reads as its text lays it.
ring.Give, walked where it does not fail.
Condition: the table of regions of package bus reads as its text lays it.
-/
import Derived.Test.YtcmbnkmbaghkdaaDoorG1
import Derived.Test.YtcmbnkmbaghkdaaDoorG2
import Derived.Laws.BitsAllLaws
import Derived.Deep.RegionHeld
namespace Go.Proofs.YtcmbnkmbaghkdaaDoor
open Go.RowKit

/-- A ring. -/
structure Rg where
  size : Int
  (de av us la pu : Nat)
deriving DecidableEq
def Rg.c (q : Rg) : Array Value := #[.int .i64 q.size, .int .u32 q.de, .int .u32 q.av, .int .u32 q.us, .int .u16 q.la, .int .u16 q.pu]
def Rg.v (q : Rg) : Value := .agg #[.int .i64 q.size, .int .u32 q.de, .int .u32 q.av, .int .u32 q.us, .int .u16 q.la, .int .u16 q.pu]
theorem Rg.c_one (q : Rg) : q.c.all (·.oneCell') = true := by simp [Rg.c, Value.oneCell']
structure Rg.wf (q : Rg) : Prop where
  lo : -9223372036854775808 ≤ q.size
  hi : q.size ≤ 9223372036854775807
  hde : q.de < 4294967296
  hav : q.av < 4294967296
  hus : q.us < 4294967296
  hla : q.la < 65536
  hpu : q.pu < 65536
/-- A ring that may be. -/
def Rg.okP (q : Rg) : Prop := 1 ≤ q.size ∧ q.size ≤ 256 ∧ (q.size.toNat &&& (q.size.toNat - 1)) = 0 ∧ q.de % 16 = 0 ∧ q.av % 2 = 0 ∧ q.us % 4 = 0
instance (q : Rg) : Decidable q.okP := by unfold Rg.okP; infer_instance
def Rg.zero : Rg := ⟨0, 0, 0, 0, 0, 0⟩

theorem ring_bits (m : Nat) (h1 : 1 ≤ m) (h2 : m ≤ 256) : bits BinOp.and IntKind.i64 (m : Int) ((m : Int) - 1) = ((m &&& (m - 1) : Nat) : Int) := by
  have key : ((List.range 257).all fun m => m == 0 || bits BinOp.and IntKind.i64 (m : Int) ((m : Int) - 1) == ((m &&& (m - 1) : Nat) : Int)) = true := by decide +kernel
  have := List.all_eq_true.1 key m (by simp; omega)
  simp only [Bool.or_eq_true, beq_iff_eq] at this
  rcases this with h | h
  · omega
  · exact h
theorem mod_ne (a m : Nat) (h : ¬ a % m = 0) : (((a : Int) % (m : Int)) != 0) = true := by simp only [bne_iff_ne, ne_eq]; omega
theorem mod_eq (a m : Nat) (h : a % m = 0) : (((a : Int) % (m : Int)) != 0) = false := by
  have : ((a : Int) % (m : Int)) = ((a % m : Nat) : Int) := by omega
  rw [this, h]; rfl

set_option maxRecDepth 100000 in
set_option maxHeartbeats 1000000 in
theorem ring_Check (q : Rg) (w : World) :
    Calls Tryd.prog 129 #[q.v] w fun e w' => e = .returned (errV (if q.okP then 0 else 1)) ∧ Below w.heap.size w w' := by
  by_cases h1 : 1 ≤ q.size
  · by_cases h2 : q.size ≤ 256
    · obtain ⟨m, hm⟩ : ∃ m : Nat, q.size = (m : Int) := ⟨q.size.toNat, by omega⟩
      have hand := ring_bits m (by omega) (by omega)
      have hm1 : 1 ≤ m := by omega
      have hm2 : m ≤ 256 := by omega
      have HQ : Hid (q.okP ↔ ((m &&& (m - 1)) = 0 ∧ q.de % 16 = 0 ∧ q.av % 2 = 0 ∧ q.us % 4 = 0)) := Lib.hid (by
        unfold Rg.okP; rw [hm]; simp only [Int.toNat_natCast]; constructor
        · rintro ⟨_, _, h⟩; exact h
        · rintro h; exact ⟨by omega, by omega, h⟩)
      obtain ⟨x, hx⟩ : ∃ x, x = m &&& (m - 1) := ⟨_, rfl⟩
      rw [← hx] at hand HQ
      clear hx h1 h2
      have hl1 : ¬ ((m : Int) < 1) := by omega
      have hl2 : ¬ (256 < (m : Int)) := by omega
      have hl3 : decide ((m : Int) < 1) = false := by simp; omega
      have hl4 : decide (256 < (m : Int)) = false := by simp; omega
      unfold Rg.v
      rw [hm]
      by_cases hp : x = 0
      · have bp : ((x : Int) != 0) = false := by simp [hp]
        by_cases hd : q.de % 16 = 0
        · have bd : (((q.de : Int) % 16) != 0) = false := mod_eq q.de 16 hd
          by_cases ha : q.av % 2 = 0
          · have ba : (((q.av : Int) % 2) != 0) = false := mod_eq q.av 2 ha
            by_cases hu : q.us % 4 = 0
            · have bu : (((q.us : Int) % 4) != 0) = false := mod_eq q.us 4 hu
              have e : (if q.okP then 0 else 1) = 0 := if_pos (HQ.out.2 ⟨hp, hd, ha, hu⟩)
              rw [e]
              clear e hp hd ha hu
              go_enter Tryd.func129, Tryd.ntmps129
              go_wp2_with fail
              go_ret
              exact ⟨rfl, (Below.refl _ _).alloc (Nat.le_refl _) _⟩
            · have bu : (((q.us : Int) % 4) != 0) = true := mod_ne q.us 4 hu
              have e : (if q.okP then 0 else 1) = 1 := if_neg fun h => hu (HQ.out.1 h).2.2.2
              rw [e]
              clear e hp hd ha hu
              go_enter Tryd.func129, Tryd.ntmps129
              go_wp2_with fail
              go_ret
              exact ⟨rfl, (Below.refl _ _).alloc (Nat.le_refl _) _⟩
          · have ba : (((q.av : Int) % 2) != 0) = true := mod_ne q.av 2 ha
            have e : (if q.okP then 0 else 1) = 1 := if_neg fun h => ha (HQ.out.1 h).2.2.1
            rw [e]
            clear e hp hd ha
            go_enter Tryd.func129, Tryd.ntmps129
            go_wp2_with fail
            go_ret
            exact ⟨rfl, (Below.refl _ _).alloc (Nat.le_refl _) _⟩
        · have bd : (((q.de : Int) % 16) != 0) = true := mod_ne q.de 16 hd
          have e : (if q.okP then 0 else 1) = 1 := if_neg fun h => hd (HQ.out.1 h).2.1
          rw [e]
          clear e hp hd
          go_enter Tryd.func129, Tryd.ntmps129
          go_wp2_with fail
          go_ret
          exact ⟨rfl, (Below.refl _ _).alloc (Nat.le_refl _) _⟩
      · have bp : ((x : Int) != 0) = true := by simp [hp]
        have e : (if q.okP then 0 else 1) = 1 := if_neg fun h => hp (HQ.out.1 h).1
        rw [e]
        clear e hp
        go_enter Tryd.func129, Tryd.ntmps129
        go_wp2_with fail
        go_ret
        exact ⟨rfl, (Below.refl _ _).alloc (Nat.le_refl _) _⟩
    · have e : (if q.okP then 0 else 1) = 1 := if_neg fun h => h2 h.2.1
      have h2b : 256 < q.size := by omega
      rw [e]
      unfold Rg.v
      go_enter Tryd.func129, Tryd.ntmps129
      go_wp2_with fail
      go_ret
      exact ⟨rfl, (Below.refl _ _).alloc (Nat.le_refl _) _⟩
  · have e : (if q.okP then 0 else 1) = 1 := if_neg fun h => h1 h.1
    have h1b : q.size < 1 := by omega
    rw [e]
    unfold Rg.v
    go_enter Tryd.func129, Tryd.ntmps129
    go_wp2_with fail
    go_ret
    exact ⟨rfl, (Below.refl _ _).alloc (Nat.le_refl _) _⟩


set_option maxRecDepth 100000 in
theorem ring_bad (q : Rg) (g : Nat) (w : World) : Calls Tryd.prog 110 #[q.v, .pointer (some ⟨g, 0, none⟩)] w fun e w' => e = .returned (errV (if q.okP then 0 else 1)) ∧ Below w.heap.size w w' := by
  have HC := Lib.hid (fun W => ring_Check q W)
  unfold Rg.v at *
  have HB := Lib.hid ((Below.refl w.heap.size w).alloc (Nat.le_refl _) (.cells #[.int .i64 q.size, .int .u32 q.de, .int .u32 q.av, .int .u32 q.us, .int .u16 q.la, .int .u16 q.pu] 68))
  generalize errV (if q.okP then 0 else 1) = ev at HC
  go_enter Tryd.func110, Tryd.ntmps110
  go_wp2_with fail
  refine (HC.out _).mono ?_
  rintro e w1 ⟨rfl, hb⟩
  go_wp2_with fail
  go_ret
  exact ⟨rfl, HB.out.trans (hb.mono HB.out.size)⟩
set_option maxRecDepth 100000 in
set_option maxHeartbeats 1000000 in
theorem ring_place_raw (a : Nat) (w : World) (h31 : 2147483648 ≤ a) (hr : RegAt w) :
    Calls Tryd.prog 80 #[.int .u32 a] w fun e w' => e = .returned (.tuple #[.int .u32 (((a : Int) - 2147483648) % 4294967296), .nilIface]) ∧ Below w.heap.size w w' := by
  have HB := Lib.hid (bus_Base 7 0 w (by omega) hr)
  have e1 : ((7 : Int).toNat) = 7 := rfl
  rw [e1] at HB
  have e2 : ((fromD 7 : Nat) : Int) = 2147483648 := rfl
  have e3 : ((roomD 0 7 : Nat) : Int) = 0 := rfl
  rw [e2, e3] at HB
  have b1 : decide ((a : Int) < 2147483648) = false := decide_eq_false (by omega)
  clear hr e1 e2 e3 h31
  go_enter Tryd.func80, Tryd.ntmps80
  go_wp2_with fail
  refine (HB.out).mono ?_
  rintro e w1 ⟨rfl, hb⟩
  go_wp2_with fail
  go_ret2
  exact ⟨rfl, hb⟩
theorem ring_place_in (a : Nat) (w : World) (ha : a < 4294967296) (h31 : 2147483648 ≤ a) (hr : RegAt w) :
    Calls Tryd.prog 80 #[.int .u32 a] w fun e w' => e = .returned (.tuple #[.int .u32 ((a - 2147483648 : Nat) : Int), .nilIface]) ∧ Below w.heap.size w w' := by
  have h := ring_place_raw a w h31 hr
  rw [show ((a : Int) - 2147483648) % 4294967296 = ((a - 2147483648 : Nat) : Int) by omega] at h
  exact h
set_option maxRecDepth 100000 in
set_option maxHeartbeats 1000000 in
theorem ring_place_out (a : Nat) (w : World) (h31 : a < 2147483648) (hr : RegAt w) :
    Calls Tryd.prog 80 #[.int .u32 a] w fun e w' => e = .returned (.tuple #[.int .u32 0, .iface 104 (.int .i64 22)]) ∧ Below w.heap.size w w' := by
  have HB := Lib.hid (bus_Base 7 0 w (by omega) hr)
  have e1 : ((7 : Int).toNat) = 7 := rfl
  rw [e1] at HB
  have e2 : ((fromD 7 : Nat) : Int) = 2147483648 := rfl
  have e3 : ((roomD 0 7 : Nat) : Int) = 0 := rfl
  rw [e2, e3] at HB
  have b1 : decide ((a : Int) < 2147483648) = true := decide_eq_true (by omega)
  clear hr e1 e2 e3 h31
  go_enter Tryd.func80, Tryd.ntmps80
  go_wp2_with fail
  refine (HB.out).mono ?_
  rintro e w1 ⟨rfl, hb⟩
  go_wp2_with fail
  go_ret2
  exact ⟨rfl, hb⟩
set_option maxRecDepth 100000 in
set_option maxHeartbeats 1000000 in
theorem ring_load_ok {g : Nat} {m : Mm} {F : Nat → Prop} {w : World} (h : RamIs w g m F) (hr : RegAt w) (a k : Nat) (ai ki : Int) (ea : ai = a) (ek : ki = k) (ha : a < 4294967296) (h31 : 2147483648 ≤ a) (hk : okN k) (hs : a - 2147483648 + k ≤ 4096 * m.n) (hd : (a - 2147483648) % k = 0) :
    Calls Tryd.prog 111 #[.pointer (some ⟨g, 0, none⟩), .int .u32 ai, .int .i64 ki] w fun e w' => ∃ F', e = .returned (.tuple #[.int .u32 (gp m.f (a - 2147483648) k : Nat), .nilIface]) ∧ RamIs w' g m F' ∧ MemStep F F' w w' := by
  subst ea ek
  have HP := Lib.hid (ring_place_in a w ha h31 hr)
  have HLD := Lib.hid (fun W (hb : Below w.heap.size w W) => mem_Load_ok (h.below hb) (a - 2147483648) k (by omega) hk hs hd)
  clear h hr hs hd hk
  generalize a - 2147483648 = x at HP HLD ⊢
  go_enter Tryd.func111, Tryd.ntmps111
  go_wp2_with fail
  refine (HP.out).mono ?_
  rintro e w1 ⟨rfl, hb⟩
  have HL2 := Lib.hid (HLD.out w1 hb)
  go_wp2_with fail
  refine (HL2.out).mono ?_
  rintro e w2 ⟨F2, rfl, h1, h2⟩
  go_wp2_with fail
  go_ret2
  exact ⟨F2, rfl, h1, (MemStep.of_below hb).trans h2⟩
set_option maxRecDepth 100000 in
set_option maxHeartbeats 1000000 in
theorem ring_load_low (p : Option Addr) (a : Nat) (k : Int) (w : World) (h31 : a < 2147483648) (hr : RegAt w) :
    Calls Tryd.prog 111 #[.pointer p, .int .u32 a, .int .i64 k] w fun e w' => e = .returned (.tuple #[.int .u32 0, .iface 104 (.int .i64 22)]) ∧ Below w.heap.size w w' := by
  have HP := Lib.hid (ring_place_out a w h31 hr)
  clear hr h31
  go_enter Tryd.func111, Tryd.ntmps111
  go_wp2_with fail
  refine (HP.out).mono ?_
  rintro e w1 ⟨rfl, hb⟩
  go_wp2_with fail
  go_ret2
  exact ⟨rfl, hb⟩
set_option maxRecDepth 100000 in
set_option maxHeartbeats 1000000 in
theorem ring_store_ok {g : Nat} {m : Mm} {F : Nat → Prop} {w : World} (h : RamIs w g m F) (hr : RegAt w) (a k v : Nat) (ai ki vi : Int) (ea : ai = a) (ek : ki = k) (ev : vi = v) (ha : a < 4294967296) (h31 : 2147483648 ≤ a) (hk : okN k) (hs : a - 2147483648 + k ≤ 4096 * m.n) (hd : (a - 2147483648) % k = 0) :
    Calls Tryd.prog 114 #[.pointer (some ⟨g, 0, none⟩), .int .u32 ai, .int .i64 ki, .int .u32 vi] w fun e w' => ∃ F', e = .returned .nilIface ∧ RamIs w' g (m.store (a - 2147483648) k v) F' ∧ MemStep F F' w w' := by
  subst ea ek ev
  have HP := Lib.hid (ring_place_in a w ha h31 hr)
  have HST := Lib.hid (fun W (hb : Below w.heap.size w W) => mem_Store_ok (h.below hb) (a - 2147483648) k v (by omega) hk hs hd)
  clear h hr hs hd hk
  generalize a - 2147483648 = x at HP HST ⊢
  go_enter Tryd.func114, Tryd.ntmps114
  go_wp2_with fail
  refine (HP.out).mono ?_
  rintro e w1 ⟨rfl, hb⟩
  have HL2 := Lib.hid (HST.out w1 hb)
  go_wp2_with fail
  refine (HL2.out).mono ?_
  rintro e w2 ⟨F2, rfl, h1, h2⟩
  go_wp2_with fail
  go_ret
  exact ⟨F2, rfl, h1, (MemStep.of_below hb).trans h2⟩
end Go.Proofs.YtcmbnkmbaghkdaaDoor
namespace Go.Proofs.YtcmbnkmbaghkdaaDoor
open Go.RowKit
set_option linter.unusedVariables false

/-- A number of memory at a place of the machine. -/
def rload (m : Mm) (a k : Nat) : Option Nat := if 2147483648 ≤ a ∧ a - 2147483648 + k ≤ 4096 * m.n then some (gp m.f (a - 2147483648) k) else none
def loadV : Option Nat → Value
  | some v => .tuple #[.int .u32 (v : Nat), .nilIface]
  | none => .tuple #[.int .u32 0, .iface 104 (.int .i64 22)]
theorem reg_step {w w' : World} {F F' : Nat → Prop} (h : RegAt w) (hs : MemStep F F' w w') (hn : ¬ F 0) : RegAt w' ∧ ¬ F' 0 :=
  ⟨⟨Nat.lt_of_lt_of_le h.1 hs.kx.size, fun i hi => (hs.kx.cell (p := ⟨0, i, none⟩) h.1 hn).trans (h.2 i hi)⟩, hs.off h.1 hn⟩
theorem LawMem.regs {w0 W : World} {g : Nat} {m : Mm} {F : Nat → Prop} (h : LawMem w0 W g m F) (hr : RegAt w0) : RegAt W ∧ ¬ F 0 :=
  ⟨hr.below h.fr, fun hf => absurd (h.lo _ hf) (Nat.not_le_of_lt hr.1)⟩
set_option maxRecDepth 100000 in
set_option maxHeartbeats 1000000 in
theorem ring_load_far {g : Nat} {m : Mm} {F : Nat → Prop} {w : World} (h : RamIs w g m F) (hr : RegAt w) (a k : Nat) (ha : a < 4294967296) (h31 : 2147483648 ≤ a) (hk : okN k) (hs : 4096 * m.n < a - 2147483648 + k) :
    Calls Tryd.prog 111 #[.pointer (some ⟨g, 0, none⟩), .int .u32 a, .int .i64 k] w fun e w' => e = .returned (.tuple #[.int .u32 0, .iface 104 (.int .i64 22)]) ∧ Below w.heap.size w w' := by
  have HP := Lib.hid (ring_place_in a w ha h31 hr)
  have HLD := Lib.hid (fun W (hb : Below w.heap.size w W) => mem_Load_err (some ⟨g, 0, none⟩) (a - 2147483648) k 4 (by omega) (Lib.hid (mem_check_range (h.below hb) (a - 2147483648) k (by omega) hk hs)))
  rw [errV_val (q := 4) (by omega)] at HLD
  clear h hr hs hk
  generalize a - 2147483648 = x at HP HLD ⊢
  go_enter Tryd.func111, Tryd.ntmps111
  go_wp2_with fail
  refine (HP.out).mono ?_
  rintro e w1 ⟨rfl, hb⟩
  have HL2 := Lib.hid (HLD.out w1 hb)
  go_wp2_with fail
  refine (HL2.out).mono ?_
  rintro e w2 ⟨rfl, rfl⟩
  go_wp2_with fail
  go_ret2
  exact ⟨rfl, hb⟩
theorem ring_load {g : Nat} {m : Mm} {F : Nat → Prop} {w : World} (h : RamIs w g m F) (hr : RegAt w) (a k : Nat) (ai ki : Int) (ea : ai = a) (ek : ki = k) (ha : a < 4294967296) (hk : okN k) (hd : a % k = 0) :
    Calls Tryd.prog 111 #[.pointer (some ⟨g, 0, none⟩), .int .u32 ai, .int .i64 ki] w fun e w' => ∃ F', e = .returned (loadV (rload m a k)) ∧ RamIs w' g m F' ∧ MemStep F F' w w' := by
  subst ea ek
  by_cases h31 : 2147483648 ≤ a
  · by_cases hs : a - 2147483648 + k ≤ 4096 * m.n
    · rw [show rload m a k = some (gp m.f (a - 2147483648) k) from if_pos ⟨h31, hs⟩]
      exact ring_load_ok h hr a k _ _ rfl rfl ha h31 hk hs (by rcases hk with rfl | rfl | rfl <;> omega)
    · rw [show rload m a k = none from if_neg (fun h => hs h.2)]
      refine (ring_load_far h hr a k ha h31 hk (by omega)).mono ?_
      rintro e w' ⟨rfl, hb⟩
      exact ⟨F, rfl, h.below hb, MemStep.of_below hb⟩
  · rw [show rload m a k = none from if_neg (fun h => h31 h.1)]
    refine (ring_load_low _ a k w (by omega) hr).mono ?_
    rintro e w' ⟨rfl, hb⟩
    exact ⟨F, rfl, h.below hb, MemStep.of_below hb⟩
/-- Bytes lie in memory. -/
def lies (m : Mm) (a n : Nat) : Prop := n = 0 ∨ (2147483648 ≤ a ∧ a - 2147483648 + n ≤ 4096 * m.n)
instance (m : Mm) (a n : Nat) : Decidable (lies m a n) := by unfold lies; infer_instance
set_option maxRecDepth 100000 in
set_option maxHeartbeats 1000000 in
theorem ring_there_ok {g : Nat} {m : Mm} {F : Nat → Prop} {w : World} (h : RamIs w g m F) (hr : RegAt w) (a n : Nat) (ha : a < 4294967296) (hl : lies m a n) :
    Calls Tryd.prog 125 #[.pointer (some ⟨g, 0, none⟩), .int .u32 a, .int .i64 n] w fun e w' => e = .returned .nilIface ∧ Below w.heap.size w w' := by
  have hn2 := h.n2
  by_cases h0 : n = 0
  · subst h0
    have hz : ((0 : Nat) : Int) = 0 := rfl
    rw [hz]
    clear h hr hl hz
    go_enter Tryd.func125, Tryd.ntmps125
    go_wp2_with fail
    go_ret
    exact ⟨rfl, Below.refl _ _⟩
  · obtain ⟨h31, hs⟩ := hl.resolve_left h0
    have HP := Lib.hid (ring_place_in a w ha h31 hr)
    have HM := Lib.hid (fun W (hb : Below w.heap.size w W) => mem_Pages (h.below hb))
    obtain ⟨x, hx⟩ : ∃ x, x = a - 2147483648 := ⟨_, rfl⟩
    rw [← hx] at HP hs
    obtain ⟨mn, hmn⟩ : ∃ mn, mn = m.n := ⟨_, rfl⟩
    rw [← hmn] at HM hs hn2
    clear hmn h hr hx
    have c0 : ((n : Int) == 0) = false := by simp; omega
    have c1 : ¬ (mn : Int) * 4096 < (n : Int) := by omega
    have c2 : ¬ (mn : Int) * 4096 - (n : Int) < (x : Int) := by omega
    have c3 : (0 : Int) ≤ (mn : Int) := by omega
    have c4 : (mn : Int) ≤ 16384 := by omega
    have c5 : (0 : Int) ≤ (n : Int) := by omega
    have c6 : (0 : Int) ≤ (x : Int) := by omega
    clear h0 h31 hs hn2 ha
    go_enter Tryd.func125, Tryd.ntmps125
    go_wp2_with fail
    refine (HP.out).mono ?_
    rintro e w1 ⟨rfl, hb⟩
    have HM1 := Lib.hid (HM.out w1 hb)
    go_wp2_with fail
    refine (HM1.out).mono ?_
    rintro e w2 ⟨rfl, rfl⟩
    go_wp2_with fail
    refine (HM1.out).mono ?_
    rintro e w2 ⟨rfl, rfl⟩
    go_wp2_with fail
    go_ret
    exact ⟨rfl, hb⟩
set_option maxRecDepth 100000 in
set_option maxHeartbeats 1000000 in
theorem ring_there_no {g : Nat} {m : Mm} {F : Nat → Prop} {w : World} (h : RamIs w g m F) (hr : RegAt w) (a n : Nat) (ha : a < 4294967296) (hn : n < 4611686018427387904) (hl : ¬ lies m a n) :
    Calls Tryd.prog 125 #[.pointer (some ⟨g, 0, none⟩), .int .u32 a, .int .i64 n] w fun e w' => e = .returned (.iface 104 (.int .i64 22)) ∧ Below w.heap.size w w' := by
  have hn2 := h.n2
  have h0 : ¬ n = 0 := fun e => hl (.inl e)
  have c0 : ((n : Int) == 0) = false := by simp; omega
  have c5 : (0 : Int) ≤ (n : Int) := by omega
  by_cases h31 : a < 2147483648
  · have HP := Lib.hid (ring_place_out a w h31 hr)
    clear h hr hl h31
    go_enter Tryd.func125, Tryd.ntmps125
    go_wp2_with fail
    refine (HP.out).mono ?_
    rintro e w1 ⟨rfl, hb⟩
    go_wp2_with fail
    go_ret
    exact ⟨rfl, hb⟩
  · have hs : ¬ a - 2147483648 + n ≤ 4096 * m.n := fun e => hl (.inr ⟨by omega, e⟩)
    have HP := Lib.hid (ring_place_in a w ha (by omega) hr)
    have HM := Lib.hid (fun W (hb : Below w.heap.size w W) => mem_Pages (h.below hb))
    obtain ⟨x, hx⟩ : ∃ x, x = a - 2147483648 := ⟨_, rfl⟩
    rw [← hx] at HP hs
    obtain ⟨mn, hmn⟩ : ∃ mn, mn = m.n := ⟨_, rfl⟩
    rw [← hmn] at HM hs hn2
    have c3 : (0 : Int) ≤ (mn : Int) := by omega
    have c4 : (mn : Int) ≤ 16384 := by omega
    have c6 : (0 : Int) ≤ (x : Int) := by omega
    have c7 : (x : Int) < 4294967296 := by omega
    have c8 : (n : Int) < 4611686018427387904 := by omega
    clear hmn h hr hx hl
    by_cases hb1 : 4096 * mn < n
    · have c1 : (mn : Int) * 4096 < (n : Int) := by omega
      clear h0 hs hn2 ha hb1
      go_enter Tryd.func125, Tryd.ntmps125
      go_wp2_with fail
      refine (HP.out).mono ?_
      rintro e w1 ⟨rfl, hb⟩
      have HM1 := Lib.hid (HM.out w1 hb)
      go_wp2_with fail
      refine (HM1.out).mono ?_
      rintro e w2 ⟨rfl, rfl⟩
      go_wp2_with fail
      go_ret
      exact ⟨rfl, hb⟩
    · have c1 : ¬ (mn : Int) * 4096 < (n : Int) := by omega
      have c2 : (mn : Int) * 4096 - (n : Int) < (x : Int) := by omega
      clear h0 hs hn2 ha hb1
      go_enter Tryd.func125, Tryd.ntmps125
      go_wp2_with fail
      refine (HP.out).mono ?_
      rintro e w1 ⟨rfl, hb⟩
      have HM1 := Lib.hid (HM.out w1 hb)
      go_wp2_with fail
      refine (HM1.out).mono ?_
      rintro e w2 ⟨rfl, rfl⟩
      go_wp2_with fail
      refine (HM1.out).mono ?_
      rintro e w2 ⟨rfl, rfl⟩
      go_wp2_with fail
      go_ret
      exact ⟨rfl, hb⟩
end Go.Proofs.YtcmbnkmbaghkdaaDoor
namespace Go.Proofs.YtcmbnkmbaghkdaaDoor
open Go.RowKit
set_option linter.unusedVariables false

theorem results_cell_tmp3 {P : Program} {fn : Func} {p a b c : Tmp} {ty : TypeId} (h : fn.results = #[.cell p ty, .tmp a, .tmp b, .tmp c]) (tmps : Array Value) (w : World) (g : Nat) (t : TypeId) (cs : Array Value) (fr : Nat × Nat) (d : TypeDesc)
    (hp : tmps.getD p undef = .pointer (some ⟨g, 0, none⟩)) (hg : w.heap[g]? = some (.cells cs t fr))
    (hu : P.underlying ty = some d) (hd : (match d with | .struct _ | .array _ _ => true | _ => false) = true) (hi : (P.info? ty).map (·.size) = some cs.size) :
    (results fn tmps).run P w = .ok (.tuple #[.agg cs, tmps.getD a undef, tmps.getD b undef, tmps.getD c undef]) w := by
  have hp' : tmps[p]?.getD undef = .pointer (some ⟨g, 0, none⟩) := by simpa using hp
  simp [results, h, hp', asAddr, run_loadVar_row w g t ty cs fr d hg hu hd hi]

set_option maxRecDepth 100000 in
set_option maxHeartbeats 8000000 in
theorem ring_Next_none {g : Nat} {m : Mm} {F : Nat → Prop} {w : World} (size de av us la pu c : Nat) (h : RamIs w g m F) (hs1 : 1 ≤ size) (hs2 : size ≤ 256) (hla : la < 65536) (hc : c < 65536)
    (HC : Hid (∀ W, Calls Tryd.prog 110 #[.agg #[.int .i64 size, .int .u32 de, .int .u32 av, .int .u32 us, .int .u16 la, .int .u16 pu], .pointer (some ⟨g, 0, none⟩)] W fun e w' => e = .returned .nilIface ∧ Below W.heap.size W w'))
    (HL : Hid (∀ W F', RamIs W g m F' → Below w.heap.size w W ∨ True → MemStep F F' w W → Calls Tryd.prog 111 #[.pointer (some ⟨g, 0, none⟩), .int .u32 (((av : Int) + 2) % 4294967296), .int .i64 2] W fun e w' => ∃ F2, e = .returned (.tuple #[.int .u32 c, .nilIface]) ∧ RamIs w' g m F2 ∧ MemStep F' F2 W w')) (he : la = c) :
    Calls Tryd.prog 78 #[.agg #[.int .i64 size, .int .u32 de, .int .u32 av, .int .u32 us, .int .u16 la, .int .u16 pu], .pointer (some ⟨g, 0, none⟩)] w fun e w' => ∃ F2, e = .returned (.tuple #[.agg #[.int .i64 size, .int .u32 de, .int .u32 av, .int .u32 us, .int .u16 la, .int .u16 pu], .int .i64 0, .bool false, .nilIface]) ∧ RamIs w' g m F2 ∧ MemStep F F2 w w' := by
  have HF := Lib.hid h.lt
  have hla0 : (0 : Int) ≤ (la : Int) := by omega
  have hc0 : (0 : Int) ≤ (c : Int) := by omega
  have hcm : (c : Int) % 65536 = (c : Int) := by omega
  have hsz1 : (1 : Int) ≤ (size : Int) := by omega
  have hsz2 : (size : Int) ≤ 256 := by omega
  have heq : ((c : Int) == (la : Int)) = true := by rw [he]; exact beq_self_eq_true _
  clear he
  obtain ⟨k0, k1, hb0⟩ := two_new w (.cells #[.int .i64 size, .int .u32 de, .int .u32 av, .int .u32 us, .int .u16 la, .int .u16 pu] 68) (.cells #[.int .i64 0, .int .u32 0, .int .u32 0, .int .u32 0, .int .u16 0, .int .u16 0] 68)
  have K0 := Lib.hid k0
  have K1 := Lib.hid k1
  have HR0 := Lib.hid (And.intro (h.below hb0) (MemStep.of_below (F := F) hb0))
  have hn0 : ¬ F w.heap.size := fun hf => absurd (HF.out _ hf) (Nat.lt_irrefl _)
  have hn1 : ¬ F (w.heap.size + 1) := fun hf => by have := HF.out _ hf; omega
  have HN := Lib.hid (And.intro hn0 hn1)
  clear k0 k1 hb0 h hn0 hn1 hs1 hs2 hla hc
  go_enter Tryd.func78, Tryd.ntmps78
  go_wp2_with fail
  refine (HC.out _).mono ?_
  rintro e w1 ⟨rfl, hb⟩
  have K2 := Lib.hid (keepB K0.out hb)
  have K3 := Lib.hid (keepB K1.out hb)
  have HR1 := Lib.hid (And.intro (HR0.out.1.below hb) (HR0.out.2.below hb))
  clear hb K0 K1 HR0 HC
  have HL1 := Lib.hid (HL.out w1 F HR1.out.1 (.inr trivial) HR1.out.2)
  have c2 := (cell_of_row _ _ 2 _ _ _ K2.out).trans (rfl : _ = some (.int .u32 av : Value))
  go_wp2_with fail
  refine (HL1.out).mono ?_
  rintro e w2 ⟨F2, rfl, h1, h2⟩
  have K4 := Lib.hid (h2.heap K2.out HN.out.1)
  have K5 := Lib.hid (h2.heap K3.out HN.out.2)
  have HN2 := Lib.hid (And.intro (h2.off (lt_heap K2.out) HN.out.1) (h2.off (lt_heap K3.out) HN.out.2))
  have HR2 := Lib.hid (And.intro h1 (HR1.out.2.trans h2))
  clear h1 h2 HL1 c2 K2 K3 HR1
  have c4 := (cell_of_row _ _ 4 _ _ _ K4.out).trans (rfl : _ = some (.int .u16 la : Value))
  have c0 := (cell_of_row _ _ 0 _ _ _ K4.out).trans (rfl : _ = some (.int .i64 size : Value))
  have HO := Lib.hid (show (#[.int .i64 size, .int .u32 de, .int .u32 av, .int .u32 us, .int .u16 la, .int .u16 pu] : Array Value).all (·.oneCell') = true by simp [Value.oneCell'])
  go_wp2_with (first | go_skip | (refine wpList_load_row rfl 68 _ rfl w.heap.size rfl 68 #[.int .i64 size, .int .u32 de, .int .u32 av, .int .u32 us, .int .u16 la, .int .u16 pu] (0, 0) _ K4.out Tryd.underlying68 rfl (by kernel_rfl) ?_) | (refine wpList_store_to rfl 68 _ _ rfl (w.heap.size + 1) #[.int .i64 size, .int .u32 de, .int .u32 av, .int .u32 us, .int .u16 la, .int .u16 pu] rfl rfl 68 #[.int .i64 0, .int .u32 0, .int .u32 0, .int .u32 0, .int .u16 0, .int .u16 0] K5.out (by kernel_rfl) rfl HO.out ?_))
  intro w20 hx hk
  have HRF := Lib.hid (And.intro (HR2.out.1.kx hx.out (fun k _ hf e => by subst e; exact HN2.out.2 hf)) (HR2.out.2.own hx.out (by omega)))
  go_wp2_with fail
  exact bodyPost_ret (v := .tuple #[.agg #[.int .i64 size, .int .u32 de, .int .u32 av, .int .u32 us, .int .u16 la, .int .u16 pu], .int .i64 0, .bool false, .nilIface]) (results_cell_tmp3 Tryd.results78 _ _ (w.heap.size + 1) 68 #[.int .i64 size, .int .u32 de, .int .u32 av, .int .u32 us, .int .u16 la, .int .u16 pu] (0, 0) _ rfl hk Tryd.underlying68 rfl (by kernel_rfl)) rfl ⟨F2, rfl, HRF.out.1, HRF.out.2⟩
set_option maxRecDepth 100000 in
set_option maxHeartbeats 8000000 in
theorem ring_Next_some {g : Nat} {m : Mm} {F : Nat → Prop} {w : World} (size de av us la pu c : Nat) (h : RamIs w g m F) (hs1 : 1 ≤ size) (hs2 : size ≤ 256) (hla : la < 65536) (hc : c < 65536)
    (HC : Hid (∀ W, Calls Tryd.prog 110 #[.agg #[.int .i64 size, .int .u32 de, .int .u32 av, .int .u32 us, .int .u16 la, .int .u16 pu], .pointer (some ⟨g, 0, none⟩)] W fun e w' => e = .returned .nilIface ∧ Below W.heap.size W w'))
    (HL : Hid (∀ W F', RamIs W g m F' → Below w.heap.size w W ∨ True → MemStep F F' w W → Calls Tryd.prog 111 #[.pointer (some ⟨g, 0, none⟩), .int .u32 (((av : Int) + 2) % 4294967296), .int .i64 2] W fun e w' => ∃ F2, e = .returned (.tuple #[.int .u32 c, .nilIface]) ∧ RamIs w' g m F2 ∧ MemStep F' F2 W w')) (hd : Nat) (hne : ¬ c = la) (dd : Nat) (hdd : ((c : Int) - (la : Int)) % 65536 = (dd : Int)) (hah : dd ≤ size) (hdl : hd < size) (a2 : Int) (HARG : Hid (IntKind.u32.wrap (IntKind.u32.wrap ((av : Int) + 4) + IntKind.u32.wrap (2 * IntKind.u32.wrap ((IntKind.i64.wrap (la : Int)).tmod (size : Int)))) = a2))
    (HL2 : Hid (∀ W F', RamIs W g m F' → MemStep F F' w W → Calls Tryd.prog 111 #[.pointer (some ⟨g, 0, none⟩), .int .u32 a2, .int .i64 2] W fun e w' => ∃ F2, e = .returned (.tuple #[.int .u32 hd, .nilIface]) ∧ RamIs w' g m F2 ∧ MemStep F' F2 W w')) :
    Calls Tryd.prog 78 #[.agg #[.int .i64 size, .int .u32 de, .int .u32 av, .int .u32 us, .int .u16 la, .int .u16 pu], .pointer (some ⟨g, 0, none⟩)] w fun e w' => ∃ F2, e = .returned (.tuple #[.agg #[.int .i64 size, .int .u32 de, .int .u32 av, .int .u32 us, .int .u16 (IntKind.u16.wrap ((la : Int) + 1)), .int .u16 pu], .int .i64 hd, .bool true, .nilIface]) ∧ RamIs w' g m F2 ∧ MemStep F F2 w w' := by
  have HF := Lib.hid h.lt
  have hla0 : (0 : Int) ≤ (la : Int) := by omega
  have hc0 : (0 : Int) ≤ (c : Int) := by omega
  have hcm : (c : Int) % 65536 = (c : Int) := by omega
  have hsz1 : (1 : Int) ≤ (size : Int) := by omega
  have hsz2 : (size : Int) ≤ 256 := by omega
  have hne2 : ((c : Int) == (la : Int)) = false := by simp; omega
  have hddw : wrap64 (IntKind.u16.wrap ((c : Int) - (la : Int))) = (dd : Int) := by rw [IntKind.wrap_u16, hdd]; unfold wrap64; omega
  clear hdd
  have hah2 : ¬ (size : Int) < (dd : Int) := by omega
  have hdd0 : (0 : Int) ≤ (dd : Int) := by omega
  have hdd1 : (dd : Int) ≤ 256 := by omega
  have hsz0 : ¬ size = 0 := by omega
  have hd0 : (0 : Int) ≤ (hd : Int) := by omega
  have hd1 : (hd : Int) < (size : Int) := by omega
  clear hne hah hdl
  obtain ⟨k0, k1, hb0⟩ := two_new w (.cells #[.int .i64 size, .int .u32 de, .int .u32 av, .int .u32 us, .int .u16 la, .int .u16 pu] 68) (.cells #[.int .i64 0, .int .u32 0, .int .u32 0, .int .u32 0, .int .u16 0, .int .u16 0] 68)
  have K0 := Lib.hid k0
  have K1 := Lib.hid k1
  have HR0 := Lib.hid (And.intro (h.below hb0) (MemStep.of_below (F := F) hb0))
  have hn0 : ¬ F w.heap.size := fun hf => absurd (HF.out _ hf) (Nat.lt_irrefl _)
  have hn1 : ¬ F (w.heap.size + 1) := fun hf => by have := HF.out _ hf; omega
  have HN := Lib.hid (And.intro hn0 hn1)
  clear k0 k1 hb0 h hn0 hn1 hs1 hs2 hla hc
  go_enter Tryd.func78, Tryd.ntmps78
  go_wp2_with fail
  refine (HC.out _).mono ?_
  rintro e w1 ⟨rfl, hb⟩
  have K2 := Lib.hid (keepB K0.out hb)
  have K3 := Lib.hid (keepB K1.out hb)
  have HR1 := Lib.hid (And.intro (HR0.out.1.below hb) (HR0.out.2.below hb))
  clear hb K0 K1 HR0 HC
  have HL1 := Lib.hid (HL.out w1 F HR1.out.1 (.inr trivial) HR1.out.2)
  have c2 := (cell_of_row _ _ 2 _ _ _ K2.out).trans (rfl : _ = some (.int .u32 av : Value))
  go_wp2_with fail
  refine (HL1.out).mono ?_
  rintro e w2 ⟨F2, rfl, h1, h2⟩
  have K4 := Lib.hid (h2.heap K2.out HN.out.1)
  have K5 := Lib.hid (h2.heap K3.out HN.out.2)
  have HN2 := Lib.hid (And.intro (h2.off (lt_heap K2.out) HN.out.1) (h2.off (lt_heap K3.out) HN.out.2))
  have HR2 := Lib.hid (And.intro h1 (HR1.out.2.trans h2))
  clear h1 h2 HL1 c2 K2 K3 HR1
  have c4 := (cell_of_row _ _ 4 _ _ _ K4.out).trans (rfl : _ = some (.int .u16 la : Value))
  have c0 := (cell_of_row _ _ 0 _ _ _ K4.out).trans (rfl : _ = some (.int .i64 size : Value))
  go_upto_region 11 with fail
  clear c0 c4
  refine wp_region_held_drew (S := fun W => W.heap[w.heap.size]? = some (.cells #[.int .i64 size, .int .u32 de, .int .u32 av, .int .u32 us, .int .u16 la, .int .u16 pu] 68 (0, 0))) (by kernel_rfl) K4.out (fun hH0 => ?_)
  refine wpAnyH_take (i := 0) (v := ?v0) rfl (by kernel_rfl) (by kernel_rfl) (by kernel_rfl) (fun _ _ _ h => h) (Or.inl ⟨by rfl, ?hy0⟩) (by assumption) ?rest0
  case hy0 => (intro W hSw; go_simp; first | done | with_reducible rfl)
  simp only [Act.put, List.getElem_toArray, List.getElem_cons_zero, List.setIfInBounds_toArray, List.set_cons_zero, List.set_cons_succ]
  refine wpAnyH_take (i := 1) (v := ?v1) rfl (by kernel_rfl) (by kernel_rfl) (by kernel_rfl) (fun _ _ _ h => h) (Or.inl ⟨by rfl, ?hy1⟩) (by assumption) ?rest1
  case hy1 => (intro W hSw; go_simp; first | done | with_reducible rfl)
  simp only [Act.put, List.getElem_toArray, List.getElem_cons_zero, List.getElem_cons_succ, List.setIfInBounds_toArray, List.set_cons_zero, List.set_cons_succ]
  refine wpAnyH_take (i := 2) (v := ?v2) rfl (by kernel_rfl) (by kernel_rfl) (by kernel_rfl) (fun _ _ _ h => h) (Or.inl ⟨by rfl, ?hy2⟩) (by assumption) ?rest2
  case hy2 => (intro W hSw; have cj := (cell_of_row _ _ 2 _ _ _ hSw).trans (rfl : _ = some (.int .u32 av : Value)); go_simp; first | done | with_reducible rfl)
  simp only [Act.put, List.getElem_toArray, List.getElem_cons_zero, List.getElem_cons_succ, List.setIfInBounds_toArray, List.set_cons_zero, List.set_cons_succ]
  refine wpAnyH_take (i := 3) (v := ?v3) rfl (by kernel_rfl) (by kernel_rfl) (by kernel_rfl) (fun _ _ _ h => h) (Or.inl ⟨by rfl, ?hy3⟩) (by assumption) ?rest3
  case hy3 => (intro W hSw; go_simp; first | done | with_reducible rfl)
  simp only [Act.put, List.getElem_toArray, List.getElem_cons_zero, List.getElem_cons_succ, List.setIfInBounds_toArray, List.set_cons_zero, List.set_cons_succ]
  refine wpAnyH_take (i := 4) (v := ?v4) rfl (by kernel_rfl) (by kernel_rfl) (by kernel_rfl) (fun _ _ _ h => h) (Or.inl ⟨by rfl, ?hy4⟩) (by assumption) ?rest4
  case hy4 => (intro W hSw; go_simp; first | done | with_reducible rfl)
  simp only [Act.put, List.getElem_toArray, List.getElem_cons_zero, List.getElem_cons_succ, List.setIfInBounds_toArray, List.set_cons_zero, List.set_cons_succ]
  refine wpAnyH_take (i := 5) (v := ?v5) rfl (by kernel_rfl) (by kernel_rfl) (by kernel_rfl) (fun _ _ _ h => h) (Or.inl ⟨by rfl, ?hy5⟩) (by assumption) ?rest5
  case hy5 => (intro W hSw; have cj := (cell_of_row _ _ 4 _ _ _ hSw).trans (rfl : _ = some (.int .u16 la : Value)); go_simp; first | done | with_reducible rfl)
  simp only [Act.put, List.getElem_toArray, List.getElem_cons_zero, List.getElem_cons_succ, List.setIfInBounds_toArray, List.set_cons_zero, List.set_cons_succ]
  refine wpAnyH_take (i := 6) (v := ?v6) rfl (by kernel_rfl) (by kernel_rfl) (by kernel_rfl) (fun _ _ _ h => h) (Or.inl ⟨by rfl, ?hy6⟩) (by assumption) ?rest6
  case hy6 => (intro W hSw; go_simp; first | done | with_reducible rfl)
  simp only [Act.put, List.getElem_toArray, List.getElem_cons_zero, List.getElem_cons_succ, List.setIfInBounds_toArray, List.set_cons_zero, List.set_cons_succ]
  refine wpAnyH_take (i := 7) (v := ?v7) rfl (by kernel_rfl) (by kernel_rfl) (by kernel_rfl) (fun _ _ _ h => h) (Or.inl ⟨by rfl, ?hy7⟩) (by assumption) ?rest7
  case hy7 => (intro W hSw; go_simp; first | done | with_reducible rfl)
  simp only [Act.put, List.getElem_toArray, List.getElem_cons_zero, List.getElem_cons_succ, List.setIfInBounds_toArray, List.set_cons_zero, List.set_cons_succ]
  refine wpAnyH_take (i := 8) (v := ?v8) rfl (by kernel_rfl) (by kernel_rfl) (by kernel_rfl) (fun _ _ _ h => h) (Or.inl ⟨by rfl, ?hy8⟩) (by assumption) ?rest8
  case hy8 => (intro W hSw; have cj := (cell_of_row _ _ 0 _ _ _ hSw).trans (rfl : _ = some (.int .i64 size : Value)); go_simp; first | done | with_reducible rfl)
  simp only [Act.put, List.getElem_toArray, List.getElem_cons_zero, List.getElem_cons_succ, List.setIfInBounds_toArray, List.set_cons_zero, List.set_cons_succ]
  refine wpAnyH_take (i := 9) (v := ?v9) rfl (by kernel_rfl) (by kernel_rfl) (by kernel_rfl) (fun _ _ _ h => h) (Or.inl ⟨by rfl, ?hy9⟩) (by assumption) ?rest9
  case hy9 => (intro W hSw; go_simp; first | done | with_reducible rfl)
  simp only [Act.put, List.getElem_toArray, List.getElem_cons_zero, List.getElem_cons_succ, List.setIfInBounds_toArray, List.set_cons_zero, List.set_cons_succ]
  refine wpAnyH_take (i := 10) (v := ?v10) rfl (by kernel_rfl) (by kernel_rfl) (by kernel_rfl) (fun _ _ _ h => h) (Or.inl ⟨by rfl, ?hy10⟩) (by assumption) ?rest10
  case hy10 => (intro W hSw; go_simp; first | done | with_reducible rfl)
  simp only [Act.put, List.getElem_toArray, List.getElem_cons_zero, List.getElem_cons_succ, List.setIfInBounds_toArray, List.set_cons_zero, List.set_cons_succ]
  refine wpAnyH_take (i := 11) (v := ?v11) rfl (by kernel_rfl) (by kernel_rfl) (by kernel_rfl) (fun _ _ _ h => h) (Or.inl ⟨by rfl, ?hy11⟩) (by assumption) ?rest11
  case hy11 => (intro W hSw; go_simp; first | done | with_reducible rfl)
  simp only [Act.put, List.getElem_toArray, List.getElem_cons_zero, List.getElem_cons_succ, List.setIfInBounds_toArray, List.set_cons_zero, List.set_cons_succ]
  refine wpAnyH_take (i := 12) (v := ?v12) rfl (by kernel_rfl) (by kernel_rfl) (by kernel_rfl) (fun _ _ _ h => h) (Or.inl ⟨by rfl, ?hy12⟩) (by assumption) ?rest12
  case hy12 => (intro W hSw; go_simp; first | done | with_reducible rfl)
  simp only [Act.put, List.getElem_toArray, List.getElem_cons_zero, List.getElem_cons_succ, List.setIfInBounds_toArray, List.set_cons_zero, List.set_cons_succ]
  refine wpAnyH_ready (rs := [13]) (by kernel_rfl) (by simp) ?_
  refine AllReadyH.cons (o := _) rfl (fun K hK => ?_) (AllReadyH.nil)
  simp only [List.getElem_toArray, List.getElem_cons_zero, List.getElem_cons_succ]
  go_simp
  rw [HARG.out]
  have HL3 := Lib.hid (HL2.out w2.drew F2 (HR2.out.1.below (Below.refl _ _).drew) HR2.out.2.drew)
  refine (HL3.out).mono ?_
  rintro e w3 ⟨F3, rfl, h1, h2⟩
  have h2' : MemStep F2 F3 w2 w3 := (MemStep.of_below ((Below.refl w2.heap.size w2).drew)).trans h2
  have K6 := Lib.hid (h2'.heap K4.out HN2.out.1)
  have K7 := Lib.hid (h2'.heap K5.out HN2.out.2)
  have HN3 := Lib.hid (And.intro (h2'.off (lt_heap K4.out) HN2.out.1) (h2'.off (lt_heap K5.out) HN2.out.2))
  have HR3 := Lib.hid (And.intro h1 (HR2.out.2.trans h2'))
  refine hK.out _ _ K6.out (fun hH1 => ?_)
  clear hK K hH0 h1 h2 h2' HL3 K4 K5 HN2 HR2 HL2 HARG
  try simp only [Act.put, List.setIfInBounds_toArray, List.set_cons_zero, List.set_cons_succ]
  refine wpAnyH_take (i := 14) (v := ?v14) rfl (by kernel_rfl) (by kernel_rfl) (by kernel_rfl) (fun _ _ _ h => h) (Or.inl ⟨by rfl, ?hy14⟩) (by assumption) ?rest14
  case hy14 => (intro W hSw; go_simp; first | done | with_reducible rfl)
  simp only [Act.put, List.getElem_toArray, List.getElem_cons_zero, List.getElem_cons_succ, List.setIfInBounds_toArray, List.set_cons_zero, List.set_cons_succ]
  refine wpAnyH_take (i := 15) (v := ?v15) rfl (by kernel_rfl) (by kernel_rfl) (by kernel_rfl) (fun _ _ _ h => h) (Or.inl ⟨by rfl, ?hy15⟩) (by assumption) ?rest15
  case hy15 => (intro W hSw; go_simp; first | done | with_reducible rfl)
  simp only [Act.put, List.getElem_toArray, List.getElem_cons_zero, List.getElem_cons_succ, List.setIfInBounds_toArray, List.set_cons_zero, List.set_cons_succ]
  refine wpAnyH_take (i := 16) (v := ?v16) rfl (by kernel_rfl) (by kernel_rfl) (by kernel_rfl) (fun _ _ _ h => h) (Or.inl ⟨by rfl, ?hy16⟩) (by assumption) ?rest16
  case hy16 => (intro W hSw; go_simp; first | done | with_reducible rfl)
  simp only [Act.put, List.getElem_toArray, List.getElem_cons_zero, List.getElem_cons_succ, List.setIfInBounds_toArray, List.set_cons_zero, List.set_cons_succ]
  refine wpAnyH_take (i := 17) (v := ?v17) rfl (by kernel_rfl) (by kernel_rfl) (by kernel_rfl) (fun _ _ _ h => h) (Or.inl ⟨by rfl, ?hy17⟩) (by assumption) ?rest17
  case hy17 => (intro W hSw; go_simp; first | done | with_reducible rfl)
  simp only [Act.put, List.getElem_toArray, List.getElem_cons_zero, List.getElem_cons_succ, List.setIfInBounds_toArray, List.set_cons_zero, List.set_cons_succ]
  refine wpAnyH_take (i := 18) (v := ?v18) rfl (by kernel_rfl) (by kernel_rfl) (by kernel_rfl) (fun _ _ _ h => h) (Or.inl ⟨by rfl, ?hy18⟩) (by assumption) ?rest18
  case hy18 => (intro W hSw; go_simp; first | done | with_reducible rfl)
  simp only [Act.put, List.getElem_toArray, List.getElem_cons_zero, List.getElem_cons_succ, List.setIfInBounds_toArray, List.set_cons_zero, List.set_cons_succ]
  refine wpAnyH_done (by kernel_rfl) ?_ _
  clear hH1
  have c0 := (cell_of_row _ _ 0 _ _ _ K6.out).trans (rfl : _ = some (.int .i64 size : Value))
  have c4 := (cell_of_row _ _ 4 _ _ _ K6.out).trans (rfl : _ = some (.int .u16 la : Value))
  have f4 := fun j => frozen_of_row _ _ j _ _ K6.out
  have hkk : (w3.setCell ⟨w.heap.size, 4, none⟩ (.int .u16 (IntKind.u16.wrap ((la : Int) + 1)))).heap[w.heap.size]? = some (.cells #[.int .i64 size, .int .u32 de, .int .u32 av, .int .u32 us, .int .u16 (IntKind.u16.wrap ((la : Int) + 1)), .int .u16 pu] 68 (0, 0)) := (set_cells K6.out).trans rfl
  have hx := Lib.hid (show KX (fun k => k = w.heap.size) w3 (w3.setCell ⟨w.heap.size, 4, none⟩ (.int .u16 (IntKind.u16.wrap ((la : Int) + 1)))) from (KX.refl (fun k => k = w.heap.size) w3).setCell (p := ⟨w.heap.size, 4, none⟩) (.inl rfl) _)
  go_upto_region 15 with fail
  generalize (w3.setCell ⟨w.heap.size, 4, none⟩ (.int .u16 (IntKind.u16.wrap ((la : Int) + 1)))) = w4 at hkk hx ⊢
  clear c0 c4 f4
  have K8 := Lib.hid hkk
  have K9 := Lib.hid (hx.out.heap K7.out (by omega))
  have HR4 := Lib.hid (And.intro (HR3.out.1.kx hx.out (fun k _ hf e => by subst e; exact HN3.out.1 hf)) (HR3.out.2.own hx.out (by omega)))
  clear hkk hx K6 K7 HR3
  have HO := Lib.hid (show (#[.int .i64 size, .int .u32 de, .int .u32 av, .int .u32 us, .int .u16 (IntKind.u16.wrap ((la : Int) + 1)), .int .u16 pu] : Array Value).all (·.oneCell') = true by simp [Value.oneCell'])
  go_wp2_with (first | go_skip | (refine wpList_load_row rfl 68 _ rfl w.heap.size rfl 68 #[.int .i64 size, .int .u32 de, .int .u32 av, .int .u32 us, .int .u16 (IntKind.u16.wrap ((la : Int) + 1)), .int .u16 pu] (0, 0) _ K8.out Tryd.underlying68 rfl (by kernel_rfl) ?_) | (refine wpList_store_to rfl 68 _ _ rfl (w.heap.size + 1) #[.int .i64 size, .int .u32 de, .int .u32 av, .int .u32 us, .int .u16 (IntKind.u16.wrap ((la : Int) + 1)), .int .u16 pu] rfl rfl 68 #[.int .i64 0, .int .u32 0, .int .u32 0, .int .u32 0, .int .u16 0, .int .u16 0] K9.out (by kernel_rfl) rfl HO.out ?_))
  intro w20 hx hk
  have HRF := Lib.hid (And.intro (HR4.out.1.kx hx.out (fun k _ hf e => by subst e; exact HN3.out.2 hf)) (HR4.out.2.own hx.out (by omega)))
  go_wp2_with fail
  exact bodyPost_ret (v := .tuple #[.agg #[.int .i64 size, .int .u32 de, .int .u32 av, .int .u32 us, .int .u16 (IntKind.u16.wrap ((la : Int) + 1)), .int .u16 pu], .int .i64 hd, .bool true, .nilIface]) (results_cell_tmp3 Tryd.results78 _ _ (w.heap.size + 1) 68 #[.int .i64 size, .int .u32 de, .int .u32 av, .int .u32 us, .int .u16 (IntKind.u16.wrap ((la : Int) + 1)), .int .u16 pu] (0, 0) _ rfl hk Tryd.underlying68 rfl (by kernel_rfl)) rfl ⟨F3, rfl, HRF.out.1, HRF.out.2⟩
end Go.Proofs.YtcmbnkmbaghkdaaDoor
namespace Go.Proofs.YtcmbnkmbaghkdaaDoor
open Go.RowKit
set_option linter.unusedVariables false

set_option maxRecDepth 100000 in
set_option maxHeartbeats 8000000 in
theorem ring_Give_ok {g : Nat} {m m1 m2 m3 : Mm} {F : Nat → Prop} {w : World} (size de av us la pu hd n p1 : Nat) (a3 : Int) (h : RamIs w g m F) (hs1 : 1 ≤ size) (hs2 : size ≤ 256) (hdl : hd < size) (hp1 : IntKind.u16.wrap ((pu : Int) + 1) = (p1 : Int)) (hp2 : p1 < 65536)
    (HARG : Hid (IntKind.u32.wrap (IntKind.u32.wrap ((us : Int) + 4) + IntKind.u32.wrap (8 * IntKind.u32.wrap ((IntKind.i64.wrap (pu : Int)).tmod (size : Int)))) = a3))
    (HC : Hid (∀ W, Calls Tryd.prog 110 #[.agg #[.int .i64 size, .int .u32 de, .int .u32 av, .int .u32 us, .int .u16 la, .int .u16 pu], .pointer (some ⟨g, 0, none⟩)] W fun e w' => e = .returned .nilIface ∧ Below W.heap.size W w'))
    (HS1 : Hid (∀ W F', RamIs W g m F' → MemStep F F' w W → Calls Tryd.prog 114 #[.pointer (some ⟨g, 0, none⟩), .int .u32 (a3), .int .i64 4, .int .u32 (hd : Nat)] W fun e w' => ∃ F2, e = .returned .nilIface ∧ RamIs w' g m1 F2 ∧ MemStep F' F2 W w'))
    (HS2 : Hid (∀ W F', RamIs W g m1 F' → MemStep F F' w W → Calls Tryd.prog 114 #[.pointer (some ⟨g, 0, none⟩), .int .u32 ((a3 + 4) % 4294967296), .int .i64 4, .int .u32 (n : Nat)] W fun e w' => ∃ F2, e = .returned .nilIface ∧ RamIs w' g m2 F2 ∧ MemStep F' F2 W w'))
    (HS3 : Hid (∀ W F', RamIs W g m2 F' → MemStep F F' w W → Calls Tryd.prog 114 #[.pointer (some ⟨g, 0, none⟩), .int .u32 (((us : Int) + 2) % 4294967296), .int .i64 2, .int .u32 (p1 : Nat)] W fun e w' => ∃ F2, e = .returned .nilIface ∧ RamIs w' g m3 F2 ∧ MemStep F' F2 W w')) :
    Calls Tryd.prog 81 #[.agg #[.int .i64 size, .int .u32 de, .int .u32 av, .int .u32 us, .int .u16 la, .int .u16 pu], .pointer (some ⟨g, 0, none⟩), .int .i64 hd, .int .u32 n] w fun e w' => ∃ F2, e = .returned (.tuple #[.agg #[.int .i64 size, .int .u32 de, .int .u32 av, .int .u32 us, .int .u16 la, .int .u16 (p1 : Nat)], .nilIface]) ∧ RamIs w' g m3 F2 ∧ MemStep F F2 w w' := by
  have HF := Lib.hid h.lt
  have hsz1 : (1 : Int) ≤ (size : Int) := by omega
  have hsz2 : (size : Int) ≤ 256 := by omega
  have hsz0 : ¬ size = 0 := by omega
  have hd0 : (0 : Int) ≤ (hd : Int) := by omega
  have hd1 : (hd : Int) < (size : Int) := by omega
  have hd2 : (hd : Int) ≤ 256 := by omega
  have hpz : (0 : Int) ≤ (p1 : Int) := by omega
  have hpy : (p1 : Int) ≤ 65535 := by omega
  obtain ⟨k0, k1, hb0⟩ := two_new w (.cells #[.int .i64 size, .int .u32 de, .int .u32 av, .int .u32 us, .int .u16 la, .int .u16 pu] 68) (.cells #[.int .i64 0, .int .u32 0, .int .u32 0, .int .u32 0, .int .u16 0, .int .u16 0] 68)
  have K0 := Lib.hid k0
  have K1 := Lib.hid k1
  have HR0 := Lib.hid (And.intro (h.below hb0) (MemStep.of_below (F := F) hb0))
  have hn0 : ¬ F w.heap.size := fun hf => absurd (HF.out _ hf) (Nat.lt_irrefl _)
  have hn1 : ¬ F (w.heap.size + 1) := fun hf => by have := HF.out _ hf; omega
  have HN := Lib.hid (And.intro hn0 hn1)
  clear k0 k1 hb0 h hn0 hn1 hs1 hs2 hdl hp2
  go_enter Tryd.func81, Tryd.ntmps81
  go_wp2_with fail
  refine (HC.out _).mono ?_
  rintro e w1 ⟨rfl, hb⟩
  have K2 := Lib.hid (keepB K0.out hb)
  have K3 := Lib.hid (keepB K1.out hb)
  have HR1 := Lib.hid (And.intro (HR0.out.1.below hb) (HR0.out.2.below hb))
  clear hb K0 K1 HR0 HC
  go_upto_region 4 with fail
  refine wp_region_held_drew (S := fun W => W.heap[w.heap.size]? = some (.cells #[.int .i64 size, .int .u32 de, .int .u32 av, .int .u32 us, .int .u16 la, .int .u16 pu] 68 (0, 0))) (by kernel_rfl) K2.out (fun hH0 => ?_)
  refine wpAnyH_take (i := 0) (v := ?v0) rfl (by kernel_rfl) (by kernel_rfl) (by kernel_rfl) (fun _ _ _ h => h) (Or.inl ⟨by rfl, ?hy0⟩) (by assumption) ?rest0
  case hy0 => (intro W hSw; go_simp; first | done | with_reducible rfl)
  simp only [Act.put, List.getElem_toArray, List.getElem_cons_zero, List.setIfInBounds_toArray, List.set_cons_zero, List.set_cons_succ]
  refine wpAnyH_take (i := 1) (v := ?v1) rfl (by kernel_rfl) (by kernel_rfl) (by kernel_rfl) (fun _ _ _ h => h) (Or.inl ⟨by rfl, ?hy1⟩) (by assumption) ?rest1
  case hy1 => (intro W hSw; have cj := (cell_of_row _ _ 3 _ _ _ hSw).trans (rfl : _ = some (.int .u32 us : Value)); go_simp; first | done | with_reducible rfl)
  simp only [Act.put, List.getElem_toArray, List.getElem_cons_zero, List.getElem_cons_succ, List.setIfInBounds_toArray, List.set_cons_zero, List.set_cons_succ]
  refine wpAnyH_take (i := 2) (v := ?v2) rfl (by kernel_rfl) (by kernel_rfl) (by kernel_rfl) (fun _ _ _ h => h) (Or.inl ⟨by rfl, ?hy2⟩) (by assumption) ?rest2
  case hy2 => (intro W hSw; go_simp; first | done | with_reducible rfl)
  simp only [Act.put, List.getElem_toArray, List.getElem_cons_zero, List.getElem_cons_succ, List.setIfInBounds_toArray, List.set_cons_zero, List.set_cons_succ]
  refine wpAnyH_take (i := 3) (v := ?v3) rfl (by kernel_rfl) (by kernel_rfl) (by kernel_rfl) (fun _ _ _ h => h) (Or.inl ⟨by rfl, ?hy3⟩) (by assumption) ?rest3
  case hy3 => (intro W hSw; go_simp; first | done | with_reducible rfl)
  simp only [Act.put, List.getElem_toArray, List.getElem_cons_zero, List.getElem_cons_succ, List.setIfInBounds_toArray, List.set_cons_zero, List.set_cons_succ]
  refine wpAnyH_take (i := 4) (v := ?v4) rfl (by kernel_rfl) (by kernel_rfl) (by kernel_rfl) (fun _ _ _ h => h) (Or.inl ⟨by rfl, ?hy4⟩) (by assumption) ?rest4
  case hy4 => (intro W hSw; have cj := (cell_of_row _ _ 5 _ _ _ hSw).trans (rfl : _ = some (.int .u16 pu : Value)); go_simp; first | done | with_reducible rfl)
  simp only [Act.put, List.getElem_toArray, List.getElem_cons_zero, List.getElem_cons_succ, List.setIfInBounds_toArray, List.set_cons_zero, List.set_cons_succ]
  refine wpAnyH_take (i := 5) (v := ?v5) rfl (by kernel_rfl) (by kernel_rfl) (by kernel_rfl) (fun _ _ _ h => h) (Or.inl ⟨by rfl, ?hy5⟩) (by assumption) ?rest5
  case hy5 => (intro W hSw; go_simp; first | done | with_reducible rfl)
  simp only [Act.put, List.getElem_toArray, List.getElem_cons_zero, List.getElem_cons_succ, List.setIfInBounds_toArray, List.set_cons_zero, List.set_cons_succ]
  refine wpAnyH_take (i := 6) (v := ?v6) rfl (by kernel_rfl) (by kernel_rfl) (by kernel_rfl) (fun _ _ _ h => h) (Or.inl ⟨by rfl, ?hy6⟩) (by assumption) ?rest6
  case hy6 => (intro W hSw; go_simp; first | done | with_reducible rfl)
  simp only [Act.put, List.getElem_toArray, List.getElem_cons_zero, List.getElem_cons_succ, List.setIfInBounds_toArray, List.set_cons_zero, List.set_cons_succ]
  refine wpAnyH_take (i := 7) (v := ?v7) rfl (by kernel_rfl) (by kernel_rfl) (by kernel_rfl) (fun _ _ _ h => h) (Or.inl ⟨by rfl, ?hy7⟩) (by assumption) ?rest7
  case hy7 => (intro W hSw; have cj := (cell_of_row _ _ 0 _ _ _ hSw).trans (rfl : _ = some (.int .i64 size : Value)); go_simp; first | done | with_reducible rfl)
  simp only [Act.put, List.getElem_toArray, List.getElem_cons_zero, List.getElem_cons_succ, List.setIfInBounds_toArray, List.set_cons_zero, List.set_cons_succ]
  refine wpAnyH_take (i := 8) (v := ?v8) rfl (by kernel_rfl) (by kernel_rfl) (by kernel_rfl) (fun _ _ _ h => h) (Or.inl ⟨by rfl, ?hy8⟩) (by assumption) ?rest8
  case hy8 => (intro W hSw; go_simp; first | done | with_reducible rfl)
  simp only [Act.put, List.getElem_toArray, List.getElem_cons_zero, List.getElem_cons_succ, List.setIfInBounds_toArray, List.set_cons_zero, List.set_cons_succ]
  refine wpAnyH_take (i := 9) (v := ?v9) rfl (by kernel_rfl) (by kernel_rfl) (by kernel_rfl) (fun _ _ _ h => h) (Or.inl ⟨by rfl, ?hy9⟩) (by assumption) ?rest9
  case hy9 => (intro W hSw; go_simp; first | done | with_reducible rfl)
  simp only [Act.put, List.getElem_toArray, List.getElem_cons_zero, List.getElem_cons_succ, List.setIfInBounds_toArray, List.set_cons_zero, List.set_cons_succ]
  refine wpAnyH_take (i := 10) (v := ?v10) rfl (by kernel_rfl) (by kernel_rfl) (by kernel_rfl) (fun _ _ _ h => h) (Or.inl ⟨by rfl, ?hy10⟩) (by assumption) ?rest10
  case hy10 => (intro W hSw; go_simp; first | done | with_reducible rfl)
  simp only [Act.put, List.getElem_toArray, List.getElem_cons_zero, List.getElem_cons_succ, List.setIfInBounds_toArray, List.set_cons_zero, List.set_cons_succ]
  refine wpAnyH_take (i := 11) (v := ?v11) rfl (by kernel_rfl) (by kernel_rfl) (by kernel_rfl) (fun _ _ _ h => h) (Or.inl ⟨by rfl, ?hy11⟩) (by assumption) ?rest11
  case hy11 => (intro W hSw; go_simp; first | done | with_reducible rfl)
  simp only [Act.put, List.getElem_toArray, List.getElem_cons_zero, List.getElem_cons_succ, List.setIfInBounds_toArray, List.set_cons_zero, List.set_cons_succ]
  refine wpAnyH_take (i := 12) (v := ?v12) rfl (by kernel_rfl) (by kernel_rfl) (by kernel_rfl) (fun _ _ _ h => h) (Or.inl ⟨by rfl, ?hy12⟩) (by assumption) ?rest12
  case hy12 => (intro W hSw; go_simp; first | done | with_reducible rfl)
  simp only [Act.put, List.getElem_toArray, List.getElem_cons_zero, List.getElem_cons_succ, List.setIfInBounds_toArray, List.set_cons_zero, List.set_cons_succ]
  refine wpAnyH_done (by kernel_rfl) ?_ _
  clear hH0
  rw [HARG.out]
  have HRD : Hid (RamIs w1.drew g m F ∧ MemStep F F w w1.drew) := Lib.hid (And.intro (HR1.out.1.below (Below.refl _ _).drew) HR1.out.2.drew)
  have K2d : Hid (w1.drew.heap[w.heap.size]? = some (.cells #[.int .i64 size, .int .u32 de, .int .u32 av, .int .u32 us, .int .u16 la, .int .u16 pu] 68 (0, 0))) := K2
  have K3d : Hid (w1.drew.heap[w.heap.size + 1]? = some (.cells #[.int .i64 0, .int .u32 0, .int .u32 0, .int .u32 0, .int .u16 0, .int .u16 0] 68 (0, 0))) := K3
  clear K2 K3 HR1 HARG
  generalize w1.drew = w2 at HRD K2d K3d ⊢
  have c0 := (cell_of_row _ _ 0 _ _ _ K2d.out).trans (rfl : _ = some (.int .i64 size : Value))
  have c3 := (cell_of_row _ _ 3 _ _ _ K2d.out).trans (rfl : _ = some (.int .u32 us : Value))
  have c5 := (cell_of_row _ _ 5 _ _ _ K2d.out).trans (rfl : _ = some (.int .u16 pu : Value))
  have HQ := Lib.hid (HS1.out w2 F HRD.out.1 HRD.out.2)
  go_wp2_with fail
  refine (HQ.out).mono ?_
  rintro e w3 ⟨F3, rfl, h1, h2⟩
  have K0a := Lib.hid (h2.heap K2d.out HN.out.1)
  have K1a := Lib.hid (h2.heap K3d.out HN.out.2)
  have HNa := Lib.hid (And.intro (h2.off (lt_heap K2d.out) HN.out.1) (h2.off (lt_heap K3d.out) HN.out.2))
  have HRa := Lib.hid (And.intro h1 (HRD.out.2.trans h2))
  clear h1 h2 HQ HS1 c0 c3 c5 K2d K3d HN HRD
  have c0 := (cell_of_row _ _ 0 _ _ _ K0a.out).trans (rfl : _ = some (.int .i64 size : Value))
  have c3 := (cell_of_row _ _ 3 _ _ _ K0a.out).trans (rfl : _ = some (.int .u32 us : Value))
  have c5 := (cell_of_row _ _ 5 _ _ _ K0a.out).trans (rfl : _ = some (.int .u16 pu : Value))
  have HQ := Lib.hid (HS2.out w3 F3 HRa.out.1 HRa.out.2)
  go_wp2_with fail
  refine (HQ.out).mono ?_
  rintro e w4 ⟨F4, rfl, h1, h2⟩
  have K0b := Lib.hid (h2.heap K0a.out HNa.out.1)
  have K1b := Lib.hid (h2.heap K1a.out HNa.out.2)
  have HNb := Lib.hid (And.intro (h2.off (lt_heap K0a.out) HNa.out.1) (h2.off (lt_heap K1a.out) HNa.out.2))
  have HRb := Lib.hid (And.intro h1 (HRa.out.2.trans h2))
  clear h1 h2 HQ HS2 c0 c3 c5 K0a K1a HNa HRa
  have c0 := (cell_of_row _ _ 0 _ _ _ K0b.out).trans (rfl : _ = some (.int .i64 size : Value))
  have c3 := (cell_of_row _ _ 3 _ _ _ K0b.out).trans (rfl : _ = some (.int .u32 us : Value))
  have c5 := (cell_of_row _ _ 5 _ _ _ K0b.out).trans (rfl : _ = some (.int .u16 pu : Value))
  have HQ := Lib.hid (HS3.out w4 F4 HRb.out.1 HRb.out.2)
  go_wp2_with fail
  refine (HQ.out).mono ?_
  rintro e w5 ⟨F5, rfl, h1, h2⟩
  have K0c := Lib.hid (h2.heap K0b.out HNb.out.1)
  have K1c := Lib.hid (h2.heap K1b.out HNb.out.2)
  have HNc := Lib.hid (And.intro (h2.off (lt_heap K0b.out) HNb.out.1) (h2.off (lt_heap K1b.out) HNb.out.2))
  have HRc := Lib.hid (And.intro h1 (HRb.out.2.trans h2))
  clear h1 h2 HQ HS3 c0 c3 c5 K0b K1b HNb HRb
  have c5 := (cell_of_row _ _ 5 _ _ _ K0c.out).trans (rfl : _ = some (.int .u16 pu : Value))
  have f4 := fun j => frozen_of_row _ _ j _ _ K0c.out
  have hkk : (w5.setCell ⟨w.heap.size, 5, none⟩ (.int .u16 (p1 : Nat))).heap[w.heap.size]? = some (.cells #[.int .i64 size, .int .u32 de, .int .u32 av, .int .u32 us, .int .u16 la, .int .u16 (p1 : Nat)] 68 (0, 0)) := (set_cells K0c.out).trans rfl
  have hx := Lib.hid (show KX (fun k => k = w.heap.size) w5 (w5.setCell ⟨w.heap.size, 5, none⟩ (.int .u16 (p1 : Nat))) from (KX.refl (fun k => k = w.heap.size) w5).setCell (p := ⟨w.heap.size, 5, none⟩) (.inl rfl) _)
  go_upto_region 10 with fail
  generalize (w5.setCell ⟨w.heap.size, 5, none⟩ (.int .u16 (p1 : Nat))) = w6 at hkk hx ⊢
  clear c5 f4
  have K8 := Lib.hid hkk
  have K9 := Lib.hid (hx.out.heap K1c.out (by omega))
  have HR4 := Lib.hid (And.intro (HRc.out.1.kx hx.out (fun k _ hf e => by subst e; exact HNc.out.1 hf)) (HRc.out.2.own hx.out (by omega)))
  clear hkk hx K0c K1c HRc
  have HO := Lib.hid (show (#[.int .i64 size, .int .u32 de, .int .u32 av, .int .u32 us, .int .u16 la, .int .u16 (p1 : Nat)] : Array Value).all (·.oneCell') = true by simp [Value.oneCell'])
  go_wp2_with (first | go_skip | (refine wpList_load_row rfl 68 _ rfl w.heap.size rfl 68 #[.int .i64 size, .int .u32 de, .int .u32 av, .int .u32 us, .int .u16 la, .int .u16 (p1 : Nat)] (0, 0) _ K8.out Tryd.underlying68 rfl (by kernel_rfl) ?_) | (refine wpList_store_to rfl 68 _ _ rfl (w.heap.size + 1) #[.int .i64 size, .int .u32 de, .int .u32 av, .int .u32 us, .int .u16 la, .int .u16 (p1 : Nat)] rfl rfl 68 #[.int .i64 0, .int .u32 0, .int .u32 0, .int .u32 0, .int .u16 0, .int .u16 0] K9.out (by kernel_rfl) rfl HO.out ?_))
  intro w20 hx hk
  have HRF := Lib.hid (And.intro (HR4.out.1.kx hx.out (fun k _ hf e => by subst e; exact HNc.out.2 hf)) (HR4.out.2.own hx.out (by omega)))
  go_wp2_with fail
  exact bodyPost_ret (v := .tuple #[.agg #[.int .i64 size, .int .u32 de, .int .u32 av, .int .u32 us, .int .u16 la, .int .u16 (p1 : Nat)], .nilIface]) (results_cell_tmp Tryd.results81 _ _ (w.heap.size + 1) 68 #[.int .i64 size, .int .u32 de, .int .u32 av, .int .u32 us, .int .u16 la, .int .u16 (p1 : Nat)] (0, 0) _ rfl hk Tryd.underlying68 rfl (by kernel_rfl)) rfl ⟨F5, rfl, HRF.out.1, HRF.out.2⟩
end Go.Proofs.YtcmbnkmbaghkdaaDoor

/-
ring.load, ring.there, walked.
Condition: the table of regions of package bus reads as its text lays it.
-/
import Derived.Test.YtcakcfeipfjmpaaDoorRing
import Derived.Test.YtcakcfeipfjmpaaDoorRowAuto
namespace Go.Proofs.YtcakcfeipfjmpaaDoor
open Go.RowKit
set_option linter.unusedVariables false

/-- A number of memory at a place of the machine. -/
def rload (m : Mm) (a k : Nat) : Option Nat := if 2147483648 ≤ a ∧ a - 2147483648 + k ≤ 4096 * m.n then some (gp m.f (a - 2147483648) k) else none
def loadV : Option Nat → Value
  | some v => .tuple #[.int .u32 (v : Nat), .nilIface]
  | none => .tuple #[.int .u32 0, .iface 109 (.int .i64 22)]
theorem reg_step {w w' : World} {F F' : Nat → Prop} (h : RegAt w) (hs : MemStep F F' w w') (hn : ¬ F 1) : RegAt w' ∧ ¬ F' 1 :=
  ⟨⟨Nat.lt_of_lt_of_le h.1 hs.kx.size, fun i hi => (hs.kx.cell (p := ⟨1, i, none⟩) h.1 hn).trans (h.2 i hi)⟩, hs.off h.1 hn⟩
theorem LawMem.regs {w0 W : World} {g : Nat} {m : Mm} {F : Nat → Prop} (h : LawMem w0 W g m F) (hr : RegAt w0) : RegAt W ∧ ¬ F 1 :=
  ⟨hr.below h.fr, fun hf => absurd (h.lo _ hf) (Nat.not_le_of_lt hr.1)⟩
set_option maxRecDepth 100000 in
set_option maxHeartbeats 1000000 in
theorem ring_load_far {g : Nat} {m : Mm} {F : Nat → Prop} {w : World} (h : RamIs w g m F) (hr : RegAt w) (a k : Nat) (ha : a < 4294967296) (h31 : 2147483648 ≤ a) (hk : okN k) (hs : 4096 * m.n < a - 2147483648 + k) :
    Calls Tryd.prog 72 #[.pointer (some ⟨g, 0, none⟩), .int .u32 a, .int .i64 k] w fun e w' => e = .returned (.tuple #[.int .u32 0, .iface 109 (.int .i64 22)]) ∧ Below w.heap.size w w' := by
  have HP := Lib.hid (ring_place_in a w ha h31 hr)
  have HLD := Lib.hid (fun W (hb : Below w.heap.size w W) => mem_Load_err (some ⟨g, 0, none⟩) (a - 2147483648) k 4 (by omega) (Lib.hid (mem_check_range (h.below hb) (a - 2147483648) k (by omega) hk hs)))
  rw [errV_val (q := 4) (by omega)] at HLD
  clear h hr hs hk
  generalize a - 2147483648 = x at HP HLD ⊢
  go_enter Tryd.func72, Tryd.ntmps72
  go_wp2_with fail
  refine (HP.out).mono ?_
  rintro e w1 ⟨rfl, hb⟩
  have HL2 := Lib.hid (HLD.out w1 hb)
  go_wp2_with fail
  refine (HL2.out).mono ?_
  rintro e w2 ⟨rfl, rfl⟩
  go_wp2_with fail
  go_ret2
  exact ⟨rfl, hb⟩
theorem ring_load {g : Nat} {m : Mm} {F : Nat → Prop} {w : World} (h : RamIs w g m F) (hr : RegAt w) (a k : Nat) (ai ki : Int) (ea : ai = a) (ek : ki = k) (ha : a < 4294967296) (hk : okN k) (hd : a % k = 0) :
    Calls Tryd.prog 72 #[.pointer (some ⟨g, 0, none⟩), .int .u32 ai, .int .i64 ki] w fun e w' => ∃ F', e = .returned (loadV (rload m a k)) ∧ RamIs w' g m F' ∧ MemStep F F' w w' := by
  subst ea ek
  by_cases h31 : 2147483648 ≤ a
  · by_cases hs : a - 2147483648 + k ≤ 4096 * m.n
    · rw [show rload m a k = some (gp m.f (a - 2147483648) k) from if_pos ⟨h31, hs⟩]
      exact ring_load_ok h hr a k _ _ rfl rfl ha h31 hk hs (by rcases hk with rfl | rfl | rfl <;> omega)
    · rw [show rload m a k = none from if_neg (fun h => hs h.2)]
      refine (ring_load_far h hr a k ha h31 hk (by omega)).mono ?_
      rintro e w' ⟨rfl, hb⟩
      exact ⟨F, rfl, h.below hb, MemStep.of_below hb⟩
  · rw [show rload m a k = none from if_neg (fun h => h31 h.1)]
    refine (ring_load_low _ a k w (by omega) hr).mono ?_
    rintro e w' ⟨rfl, hb⟩
    exact ⟨F, rfl, h.below hb, MemStep.of_below hb⟩
/-- Bytes lie in memory. -/
def lies (m : Mm) (a n : Nat) : Prop := n = 0 ∨ (2147483648 ≤ a ∧ a - 2147483648 + n ≤ 4096 * m.n)
instance (m : Mm) (a n : Nat) : Decidable (lies m a n) := by unfold lies; infer_instance
set_option maxRecDepth 100000 in
set_option maxHeartbeats 1000000 in
theorem ring_there_ok {g : Nat} {m : Mm} {F : Nat → Prop} {w : World} (h : RamIs w g m F) (hr : RegAt w) (a n : Nat) (ha : a < 4294967296) (hl : lies m a n) :
    Calls Tryd.prog 102 #[.pointer (some ⟨g, 0, none⟩), .int .u32 a, .int .i64 n] w fun e w' => e = .returned .nilIface ∧ Below w.heap.size w w' := by
  have hn2 := h.n2
  by_cases h0 : n = 0
  · subst h0
    have hz : ((0 : Nat) : Int) = 0 := rfl
    rw [hz]
    clear h hr hl hz
    go_enter Tryd.func102, Tryd.ntmps102
    go_wp2_with fail
    go_ret
    exact ⟨rfl, Below.refl _ _⟩
  · obtain ⟨h31, hs⟩ := hl.resolve_left h0
    have HP := Lib.hid (ring_place_in a w ha h31 hr)
    have HM := Lib.hid (fun W (hb : Below w.heap.size w W) => mem_Pages (h.below hb))
    obtain ⟨x, hx⟩ : ∃ x, x = a - 2147483648 := ⟨_, rfl⟩
    rw [← hx] at HP hs
    obtain ⟨mn, hmn⟩ : ∃ mn, mn = m.n := ⟨_, rfl⟩
    rw [← hmn] at HM hs hn2
    clear hmn h hr hx
    have c0 : ((n : Int) == 0) = false := by simp; omega
    have c1 : ¬ (mn : Int) * 4096 < (n : Int) := by omega
    have c2 : ¬ (mn : Int) * 4096 - (n : Int) < (x : Int) := by omega
    have c3 : (0 : Int) ≤ (mn : Int) := by omega
    have c4 : (mn : Int) ≤ 16384 := by omega
    have c5 : (0 : Int) ≤ (n : Int) := by omega
    have c6 : (0 : Int) ≤ (x : Int) := by omega
    clear h0 h31 hs hn2 ha
    go_enter Tryd.func102, Tryd.ntmps102
    go_wp2_with fail
    refine (HP.out).mono ?_
    rintro e w1 ⟨rfl, hb⟩
    have HM1 := Lib.hid (HM.out w1 hb)
    go_wp2_with fail
    refine (HM1.out).mono ?_
    rintro e w2 ⟨rfl, rfl⟩
    go_wp2_with fail
    refine (HM1.out).mono ?_
    rintro e w2 ⟨rfl, rfl⟩
    go_wp2_with fail
    go_ret
    exact ⟨rfl, hb⟩
set_option maxRecDepth 100000 in
set_option maxHeartbeats 1000000 in
theorem ring_there_no {g : Nat} {m : Mm} {F : Nat → Prop} {w : World} (h : RamIs w g m F) (hr : RegAt w) (a n : Nat) (ha : a < 4294967296) (hn : n < 4611686018427387904) (hl : ¬ lies m a n) :
    Calls Tryd.prog 102 #[.pointer (some ⟨g, 0, none⟩), .int .u32 a, .int .i64 n] w fun e w' => e = .returned (.iface 109 (.int .i64 22)) ∧ Below w.heap.size w w' := by
  have hn2 := h.n2
  have h0 : ¬ n = 0 := fun e => hl (.inl e)
  have c0 : ((n : Int) == 0) = false := by simp; omega
  have c5 : (0 : Int) ≤ (n : Int) := by omega
  by_cases h31 : a < 2147483648
  · have HP := Lib.hid (ring_place_out a w h31 hr)
    clear h hr hl h31
    go_enter Tryd.func102, Tryd.ntmps102
    go_wp2_with fail
    refine (HP.out).mono ?_
    rintro e w1 ⟨rfl, hb⟩
    go_wp2_with fail
    go_ret
    exact ⟨rfl, hb⟩
  · have hs : ¬ a - 2147483648 + n ≤ 4096 * m.n := fun e => hl (.inr ⟨by omega, e⟩)
    have HP := Lib.hid (ring_place_in a w ha (by omega) hr)
    have HM := Lib.hid (fun W (hb : Below w.heap.size w W) => mem_Pages (h.below hb))
    obtain ⟨x, hx⟩ : ∃ x, x = a - 2147483648 := ⟨_, rfl⟩
    rw [← hx] at HP hs
    obtain ⟨mn, hmn⟩ : ∃ mn, mn = m.n := ⟨_, rfl⟩
    rw [← hmn] at HM hs hn2
    have c3 : (0 : Int) ≤ (mn : Int) := by omega
    have c4 : (mn : Int) ≤ 16384 := by omega
    have c6 : (0 : Int) ≤ (x : Int) := by omega
    have c7 : (x : Int) < 4294967296 := by omega
    have c8 : (n : Int) < 4611686018427387904 := by omega
    clear hmn h hr hx hl
    by_cases hb1 : 4096 * mn < n
    · have c1 : (mn : Int) * 4096 < (n : Int) := by omega
      clear h0 hs hn2 ha hb1
      go_enter Tryd.func102, Tryd.ntmps102
      go_wp2_with fail
      refine (HP.out).mono ?_
      rintro e w1 ⟨rfl, hb⟩
      have HM1 := Lib.hid (HM.out w1 hb)
      go_wp2_with fail
      refine (HM1.out).mono ?_
      rintro e w2 ⟨rfl, rfl⟩
      go_wp2_with fail
      go_ret
      exact ⟨rfl, hb⟩
    · have c1 : ¬ (mn : Int) * 4096 < (n : Int) := by omega
      have c2 : (mn : Int) * 4096 - (n : Int) < (x : Int) := by omega
      clear h0 hs hn2 ha hb1
      go_enter Tryd.func102, Tryd.ntmps102
      go_wp2_with fail
      refine (HP.out).mono ?_
      rintro e w1 ⟨rfl, hb⟩
      have HM1 := Lib.hid (HM.out w1 hb)
      go_wp2_with fail
      refine (HM1.out).mono ?_
      rintro e w2 ⟨rfl, rfl⟩
      go_wp2_with fail
      refine (HM1.out).mono ?_
      rintro e w2 ⟨rfl, rfl⟩
      go_wp2_with fail
      go_ret
      exact ⟨rfl, hb⟩
end Go.Proofs.YtcakcfeipfjmpaaDoor

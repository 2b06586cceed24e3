/-
pinnaceref13's Check and there, walked.
No condition.
-/
import Derived.Test.YtcmbnkmbaghkdaaDoorRef13
namespace Go.Proofs.YtcmbnkmbaghkdaaDoor
open Go.RowKit
set_option linter.unusedVariables false

/-- One of the first k powers of two. -/
def powB (size : Int) : Nat → Bool
  | 0 => false
  | k + 1 => powB size k || (size == ((2 ^ k : Nat) : Int))
theorem powB_nat (n : Nat) (hn : n ≤ 256) : powB (n : Int) 9 = decide (1 ≤ n ∧ (n &&& (n - 1)) = 0) := by
  have key : ∀ n : Fin 257, powB (n.val : Int) 9 = decide (1 ≤ n.val ∧ (n.val &&& (n.val - 1)) = 0) := by decide +kernel
  exact key ⟨n, by omega⟩
theorem powB_far (size : Int) (h : size < 1 ∨ 256 < size) : powB size 9 = false := by
  simp only [powB, Bool.false_or, Bool.or_eq_false_iff, beq_eq_false_iff_ne, ne_eq]
  refine ⟨⟨⟨⟨⟨⟨⟨⟨?_, ?_⟩, ?_⟩, ?_⟩, ?_⟩, ?_⟩, ?_⟩, ?_⟩, ?_⟩ <;> (simp; omega)
theorem powB_ok (q : Rg) : powB q.size 9 = decide (1 ≤ q.size ∧ q.size ≤ 256 ∧ (q.size.toNat &&& (q.size.toNat - 1)) = 0) := by
  by_cases h : 1 ≤ q.size ∧ q.size ≤ 256
  · obtain ⟨n, hn⟩ : ∃ n : Nat, q.size = (n : Int) := ⟨q.size.toNat, by omega⟩
    rw [hn, powB_nat n (by omega)]
    congr 1
    simp only [Int.toNat_natCast, eq_iff_iff]
    constructor
    · rintro ⟨a, b⟩; exact ⟨by omega, by omega, b⟩
    · rintro ⟨a, b, c⟩; exact ⟨by omega, c⟩
  · rw [powB_far q.size (by omega)]
    symm
    rw [decide_eq_false_iff_not]
    exact fun x => h ⟨x.1, x.2.1⟩
set_option maxRecDepth 100000 in
set_option maxHeartbeats 4000000 in
theorem ref13_Check (q : Rg) (w : World) : Calls Tryd.prog 84 #[.agg q.c] w fun e w' => e = .returned (.int .i64 ((if q.okP then 0 else 1 : Nat) : Int)) ∧ Below w.heap.size w w' := by
  have HB := Lib.hid ((Below.refl w.heap.size w).alloc (Nat.le_refl _) (.cells q.c 52))
  have K0 := Lib.hid (heap_alloc_new w (.cells q.c 52))
  have HOK := Lib.hid (powB_ok q)
  have c0 := (cell_of_row _ _ 0 _ _ _ K0.out).trans (rfl : _ = some (.int .i64 q.size : Value))
  have c1 := (cell_of_row _ _ 1 _ _ _ K0.out).trans (rfl : _ = some (.int .u32 q.de : Value))
  have c2 := (cell_of_row _ _ 2 _ _ _ K0.out).trans (rfl : _ = some (.int .u32 q.av : Value))
  have c3 := (cell_of_row _ _ 3 _ _ _ K0.out).trans (rfl : _ = some (.int .u32 q.us : Value))
  have HQP : Hid (q.okP ↔ (powB q.size 9 = true ∧ q.de % 16 = 0 ∧ q.av % 2 = 0 ∧ q.us % 4 = 0)) := Lib.hid (by
    rw [HOK.out]
    simp only [decide_eq_true_eq, Rg.okP]
    constructor
    · rintro ⟨a, b, c, d⟩; exact ⟨⟨a, b, c⟩, d⟩
    · rintro ⟨⟨a, b, c⟩, d⟩; exact ⟨a, b, c, d⟩)
  clear HOK
  generalize hr : (if q.okP then 0 else 1 : Nat) = r
  have HR := Lib.hid hr
  clear hr
  go_enter Tryd.func84, Tryd.ntmps84
  go_wp2_with fail
  change Code.wp _ _ _ _ (w.alloc (.cells q.c 52))
  generalize w.alloc (.cells q.c 52) = w1 at HB K0 c0 c1 c2 c3 ⊢
  go_loop [3, 4] (fun b n => ∃ (k p : Nat), Hid (k ≤ 9 ∧ p = 2 ^ k) ∧ n = .int .i64 p ∧ b = .bool (powB q.size k)) (fun _ n => (600 - intOf n).toNat)
  case atStart => exact ⟨0, 1, Lib.hid ⟨by omega, rfl⟩, rfl, rfl⟩
  case round =>
    obtain ⟨k, p, hk, rfl, rfl⟩ := hrel
    have hp : 1 ≤ p ∧ p ≤ 512 ∧ (p ≤ 256 ↔ k < 9) := by
      obtain ⟨h1, rfl⟩ := hk.out
      have : k = 0 ∨ k = 1 ∨ k = 2 ∨ k = 3 ∨ k = 4 ∨ k = 5 ∨ k = 6 ∨ k = 7 ∨ k = 8 ∨ k = 9 := by omega
      rcases this with rfl | rfl | rfl | rfl | rfl | rfl | rfl | rfl | rfl | rfl <;> decide
    have hp1 : (1 : Int) ≤ (p : Int) := by omega
    have hp2 : (p : Int) ≤ 512 := by omega
    have HIFF := Lib.hid hp.2.2
    clear hp
    by_cases hlt : (p : Int) ≤ 256
    · have HK9 : Hid (k < 9) := Lib.hid (HIFF.out.1 (by omega))
      have HSTEP : Hid (powB q.size (k + 1) = (powB q.size k || (q.size == (p : Int)))) := Lib.hid (by rw [hk.out.2]; rfl)
      have hm : IntKind.i64.wrap (2 * (p : Int)) = ((2 * p : Nat) : Int) := by rw [IntKind.wrap_i64]; omega
      generalize powB q.size k = b at HSTEP ⊢
      cases b
      all_goals
        go_wp2_with fail
        go_round
        case rel => exact ⟨k + 1, 2 * p, Lib.hid ⟨HK9.out, by rw [hk.out.2, Nat.pow_succ, Nat.mul_comm]⟩, by first | rfl | go_num, by rw [HSTEP.out]; first | rfl | simp⟩
        case measure => simp [intOf]; omega
    · obtain rfl : k = 9 := by have h1 := HIFF.out; have h2 := hk.out.1; omega
      clear HIFF
      by_cases hpw : powB q.size 9 = true
      · rw [hpw] at HQP ⊢
        by_cases hd : q.de % 16 = 0
        · have bd : (((q.de : Int) % 16) != 0) = false := mod_eq q.de 16 hd
          by_cases ha : q.av % 2 = 0
          · have ba : (((q.av : Int) % 2) != 0) = false := mod_eq q.av 2 ha
            by_cases hu : q.us % 4 = 0
            · have bu : (((q.us : Int) % 4) != 0) = false := mod_eq q.us 4 hu
              have HE := Lib.hid (HR.out.symm.trans (if_pos (HQP.out.2 ⟨rfl, hd, ha, hu⟩)))
              go_wp2_with fail
              go_ret
              exact ⟨by rw [HE.out]; rfl, HB.out⟩
            · have bu : (((q.us : Int) % 4) != 0) = true := mod_ne q.us 4 hu
              have HE := Lib.hid (HR.out.symm.trans (if_neg (fun h => hu (HQP.out.1 h).2.2.2)))
              go_wp2_with fail
              go_ret
              exact ⟨by rw [HE.out]; rfl, HB.out⟩
          · have ba : (((q.av : Int) % 2) != 0) = true := mod_ne q.av 2 ha
            have HE := Lib.hid (HR.out.symm.trans (if_neg (fun h => ha (HQP.out.1 h).2.2.1)))
            go_wp2_with fail
            go_ret
            exact ⟨by rw [HE.out]; rfl, HB.out⟩
        · have bd : (((q.de : Int) % 16) != 0) = true := mod_ne q.de 16 hd
          have HE := Lib.hid (HR.out.symm.trans (if_neg (fun h => hd (HQP.out.1 h).2.1)))
          go_wp2_with fail
          go_ret
          exact ⟨by rw [HE.out]; rfl, HB.out⟩
      · have hpf : powB q.size 9 = false := by simpa using hpw
        have HE := Lib.hid (HR.out.symm.trans (if_neg (fun h => hpw (HQP.out.1 h).1)))
        rw [hpf]
        clear hpw hpf
        go_wp2_with fail
        go_ret
        exact ⟨by rw [HE.out]; rfl, HB.out⟩
set_option maxRecDepth 100000 in
set_option maxHeartbeats 4000000 in
theorem ref13_there (N b1 c1 b2 n2 c2 : Nat) (q : Int) (a n : Nat) (w : World) (ha : a < 4294967296) (hn : n ≤ 1048576) (hN : N ≤ 67108864) :
    Calls Tryd.prog 86 #[.agg (refC b1 N c1 b2 n2 c2 q), .int .u32 a, .int .i64 n] w fun e w' => e = .returned (.bool (decide (n = 0 ∨ (2147483648 ≤ a ∧ a - 2147483648 + n ≤ N)))) ∧ Below w.heap.size w w' := by
  have HB := Lib.hid ((Below.refl w.heap.size w).alloc (Nat.le_refl _) (.cells (refC b1 N c1 b2 n2 c2 q) 65))
  have K0 := Lib.hid (heap_alloc_new w (.cells (refC b1 N c1 b2 n2 c2 q) 65))
  unfold refC at *
  have cb := (cell_of_row _ _ 0 _ _ _ K0.out).trans (rfl : _ = some (Value.slice (some ⟨b1, 0, none⟩) N c1))
  have HA := Lib.hid (And.intro ha (And.intro hn hN))
  clear ha hn hN
  by_cases h0 : n = 0
  · subst h0
    rw [show decide ((0 : Nat) = 0 ∨ (2147483648 ≤ a ∧ a - 2147483648 + 0 ≤ N)) = true from decide_eq_true (.inl rfl)]
    go_enter Tryd.func86, Tryd.ntmps86
    go_wp2_with fail
    go_ret
    exact ⟨rfl, HB.out⟩
  · have e0 : decide (n = 0) = false := by simpa using h0
    have e0' : ((n : Int) == 0) = false := by simp; omega
    have hn0 : ¬ (n : Int) = 0 := by omega
    by_cases h1 : 2147483648 ≤ a
    · obtain ⟨y, hy⟩ : ∃ y, y = a - 2147483648 := ⟨_, rfl⟩
      have hge : decide ((2147483648 : Int) ≤ (a : Int)) = true := by simp; omega
      have hsub : IntKind.u32.wrap ((a : Int) - 2147483648) = (y : Int) := by rw [IntKind.wrap_u32]; have := HA.out; omega
      have hcv : IntKind.i64.wrap (y : Int) = (y : Int) := by rw [IntKind.wrap_i64]; have := HA.out; omega
      have HY := Lib.hid hy
      have HL := Lib.hid h1
      clear hy h1
      by_cases h2 : n ≤ N
      · have e2 : decide (n ≤ N) = true := by simpa using h2
        obtain ⟨d, hd⟩ : ∃ d, d = N - n := ⟨_, rfl⟩
        have hdn : IntKind.i64.wrap ((N : Int) - (n : Int)) = (d : Int) := by rw [IntKind.wrap_i64]; have := HA.out; omega
        by_cases h3 : y ≤ d
        · have e3 : decide (y ≤ d) = true := by simpa using h3
          rw [show decide (n = 0 ∨ (2147483648 ≤ a ∧ a - 2147483648 + n ≤ N)) = true from decide_eq_true (.inr ⟨HL.out, by rw [← HY.out]; omega⟩)]
          clear h2 h3 hd h0
          go_enter Tryd.func86, Tryd.ntmps86
          go_wp2_with fail
          go_ret
          exact ⟨rfl, HB.out⟩
        · have e3 : decide (y ≤ d) = false := by simpa using h3
          rw [show decide (n = 0 ∨ (2147483648 ≤ a ∧ a - 2147483648 + n ≤ N)) = false from decide_eq_false (fun h => h.elim h0 (fun h => by have h := h.2; rw [← HY.out] at h; omega))]
          clear h2 h3 hd h0
          go_enter Tryd.func86, Tryd.ntmps86
          go_wp2_with fail
          go_ret
          exact ⟨rfl, HB.out⟩
      · have e2 : decide (n ≤ N) = false := by simpa using h2
        rw [show decide (n = 0 ∨ (2147483648 ≤ a ∧ a - 2147483648 + n ≤ N)) = false from decide_eq_false (fun h => h.elim h0 (fun h => by have h := h.2; omega))]
        clear h2 h0
        go_enter Tryd.func86, Tryd.ntmps86
        go_wp2_with fail
        go_ret
        exact ⟨rfl, HB.out⟩
    · have hge : decide ((2147483648 : Int) ≤ (a : Int)) = false := by simp; omega
      rw [show decide (n = 0 ∨ (2147483648 ≤ a ∧ a - 2147483648 + n ≤ N)) = false from decide_eq_false (fun h => h.elim h0 (fun h => h1 h.1))]
      clear h1 h0
      go_enter Tryd.func86, Tryd.ntmps86
      go_wp2_with fail
      go_ret
      exact ⟨rfl, HB.out⟩
end Go.Proofs.YtcmbnkmbaghkdaaDoor

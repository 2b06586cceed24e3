/-
The plain law of DmaRound: a list that goes round fails behind 64 orders.
No condition.
-/
import Derived.Test.YtocbfchmngcgkaaDoorWord4
namespace Go.Proofs.YtocbfchmngcgkaaDoor
open Go.RowKit

theorem off_of {a y : Nat} (h : a = 2147483648 + y) : off a = y := by rw [← off_eq]; omega
/-- The first i orders are laid. -/
def RoundTo (m : Mm) (L k i : Nat) : Prop := m.n = 2 ∧ ∀ j, j < i → rd4 m.f (16 * j) = 2147484672 ∧ rd4 m.f (16 * j + 4) = 2147485696 ∧ rd4 m.f (16 * j + 8) = L ∧ rd4 m.f (16 * j + 12) = 2147483648 + 16 * ((j + 1) % k)
theorem RoundTo.next {m : Mm} {L k i : Nat} (h : RoundTo m L k i) (hL : L < 4294967296) (hk : 0 < k) (hk4 : k ≤ 4) : RoundTo ((((m.store (16 * i) 4 2147484672).store (16 * i + 4) 4 2147485696).store (16 * i + 8) 4 L).store (16 * i + 12) 4 (2147483648 + 16 * ((i + 1) % k))) L k (i + 1) := by
  refine ⟨h.1, fun j hj => ?_⟩
  have hv : 2147483648 + 16 * ((i + 1) % k) < 4294967296 := by have := Nat.mod_lt (i + 1) hk; omega
  have l4 : ∀ v, (leB 4 v).length = 4 := fun v => leB_length 4 v
  show rd4 (putL (putL (putL (putL m.f (16 * i) (leB 4 2147484672)) (16 * i + 4) (leB 4 2147485696)) (16 * i + 8) (leB 4 L)) (16 * i + 12) (leB 4 (2147483648 + 16 * ((i + 1) % k)))) (16 * j) = _ ∧ rd4 (putL (putL (putL (putL m.f (16 * i) (leB 4 2147484672)) (16 * i + 4) (leB 4 2147485696)) (16 * i + 8) (leB 4 L)) (16 * i + 12) (leB 4 (2147483648 + 16 * ((i + 1) % k)))) (16 * j + 4) = _ ∧ rd4 (putL (putL (putL (putL m.f (16 * i) (leB 4 2147484672)) (16 * i + 4) (leB 4 2147485696)) (16 * i + 8) (leB 4 L)) (16 * i + 12) (leB 4 (2147483648 + 16 * ((i + 1) % k)))) (16 * j + 8) = _ ∧ rd4 (putL (putL (putL (putL m.f (16 * i) (leB 4 2147484672)) (16 * i + 4) (leB 4 2147485696)) (16 * i + 8) (leB 4 L)) (16 * i + 12) (leB 4 (2147483648 + 16 * ((i + 1) % k)))) (16 * j + 12) = _
  rcases Nat.lt_or_eq_of_le (Nat.lt_succ_iff.1 hj) with hlt | rfl
  · obtain ⟨a, b, c, d⟩ := h.2 j hlt
    refine ⟨?_, ?_, ?_, ?_⟩
    all_goals
      rw [rd4_out _ _ _ _ (by rw [l4]; omega), rd4_out _ _ _ _ (by rw [l4]; omega), rd4_out _ _ _ _ (by rw [l4]; omega), rd4_out _ _ _ _ (by rw [l4]; omega)]
      assumption
  · refine ⟨?_, ?_, ?_, ?_⟩
    · rw [rd4_out _ _ _ _ (by rw [l4]; omega), rd4_out _ _ _ _ (by rw [l4]; omega), rd4_out _ _ _ _ (by rw [l4]; omega)]
      exact rd4_put _ _ _ (by omega)
    · rw [rd4_out _ _ _ _ (by rw [l4]; omega), rd4_out _ _ _ _ (by rw [l4]; omega)]
      exact rd4_put _ _ _ (by omega)
    · rw [rd4_out _ _ _ _ (by rw [l4]; omega)]
      exact rd4_put _ _ _ hL
    · exact rd4_put _ _ _ hv
theorem RoundTo.again {m : Mm} {L : Nat} (h : RoundTo m L 1 1) : RoundTo (m.store 12 4 2147483648) L 1 1 := by
  refine ⟨h.1, fun j hj => ?_⟩
  obtain rfl : j = 0 := by omega
  obtain ⟨a, b, c, d⟩ := h.2 0 (by omega)
  have l4 : ∀ v, (leB 4 v).length = 4 := fun v => leB_length 4 v
  show rd4 (putL m.f 12 (leB 4 2147483648)) (16 * 0) = _ ∧ rd4 (putL m.f 12 (leB 4 2147483648)) (16 * 0 + 4) = _ ∧ rd4 (putL m.f 12 (leB 4 2147483648)) (16 * 0 + 8) = _ ∧ rd4 (putL m.f 12 (leB 4 2147483648)) (16 * 0 + 12) = _
  refine ⟨?_, ?_, ?_, ?_⟩
  · rw [rd4_out _ _ _ _ (by rw [l4]; omega)]; exact a
  · rw [rd4_out _ _ _ _ (by rw [l4]; omega)]; exact b
  · rw [rd4_out _ _ _ _ (by rw [l4]; omega)]; exact c
  · exact rd4_put _ _ _ (by omega)
theorem RoundTo.write {m : Mm} {L k : Nat} (h : RoundTo m L k k) (hk4 : k ≤ 4) (a : Nat) (l : List UInt8) (ha : 64 ≤ a) : RoundTo (m.write a l) L k k := by
  refine ⟨h.1, fun j hj => ?_⟩
  obtain ⟨p, q, r, s⟩ := h.2 j hj
  show rd4 (putL m.f a l) (16 * j) = _ ∧ rd4 (putL m.f a l) (16 * j + 4) = _ ∧ rd4 (putL m.f a l) (16 * j + 8) = _ ∧ rd4 (putL m.f a l) (16 * j + 12) = _
  refine ⟨?_, ?_, ?_, ?_⟩
  all_goals
    rw [rd4_out _ _ _ _ (by omega)]
    assumption

def rdA (L k j : Nat) : Dst := ⟨1, 2147483648, 2147483648 + 16 * (j % k), j, j * L, false, 0, 0, 0, 0, false⟩
def rdB (L k j : Nat) : Dst := ⟨1, 2147483648, 2147483648 + 16 * (j % k), j + 1, j * L, true, 2147484672, 2147485696, L, 2147483648 + 16 * ((j + 1) % k), false⟩
def rdC (L k j : Nat) : Dst := ⟨1, 2147483648, 2147483648 + 16 * (j % k), j + 1, j * L + 64, true, 2147484736, 2147485760, L - 64, 2147483648 + 16 * ((j + 1) % k), false⟩
def RoundAt (L k t : Nat) (s : Dst) (m : Mm) : Prop := RoundTo m L k k ∧
  ((∃ j, j ≤ 64 ∧ t = j * (1 + (L + 63) / 64) ∧ s = rdA L k j) ∨ (∃ j, j < 64 ∧ t = j * (1 + (L + 63) / 64) + 1 ∧ s = rdB L k j) ∨ (∃ j, j < 64 ∧ 64 < L ∧ t = j * (1 + (L + 63) / 64) + 2 ∧ s = rdC L k j) ∨
    (s.code = 3 ∧ s.moved = 64 * L ∧ t = 64 * (1 + (L + 63) / 64) + 1 ∧ s.wf))

theorem rd_bounds {L k j : Nat} (hL : L ≤ 100) (hk : 0 < k) (hk4 : k ≤ 4) (hj : j ≤ 64) : j * L ≤ 6400 ∧ j % k < 4 ∧ (j + 1) % k < 4 :=
  ⟨Nat.le_trans (Nat.mul_le_mul hj hL) (by omega), Nat.lt_of_lt_of_le (Nat.mod_lt _ hk) hk4, Nat.lt_of_lt_of_le (Nat.mod_lt _ hk) hk4⟩
theorem RoundAt.wf {L k t : Nat} {s : Dst} {m : Mm} (h : RoundAt L k t s m) (hL : L ≤ 100) (hk : 0 < k) (hk4 : k ≤ 4) : s.wf := by
  rcases h.2 with ⟨j, hj, _, rfl⟩ | ⟨j, hj, _, rfl⟩ | ⟨j, hj, _, _, rfl⟩ | ⟨_, _, _, h⟩
  · obtain ⟨b1, b2, b3⟩ := rd_bounds hL hk hk4 hj
    constructor <;> simp only [rdA] <;> omega
  · obtain ⟨b1, b2, b3⟩ := rd_bounds hL hk hk4 (Nat.le_of_lt hj)
    constructor <;> simp only [rdB] <;> omega
  · obtain ⟨b1, b2, b3⟩ := rd_bounds hL hk hk4 (Nat.le_of_lt hj)
    constructor <;> simp only [rdC] <;> omega
  · exact h
theorem RoundAt.step {L k t : Nat} {s : Dst} {m : Mm} (h : RoundAt L k t s m) (h1 : 1 ≤ L) (hL : L ≤ 100) (hk : 0 < k) (hk4 : k ≤ 4) (hc : s.code = 1) : RoundAt L k (t + 1) (s.tick m) (s.after m) := by
  obtain ⟨hr, hs⟩ := h
  have hn := hr.1
  rcases hs with ⟨j, hj, rfl, rfl⟩ | ⟨j, hj, rfl, rfl⟩ | ⟨j, hj, h64, rfl, rfl⟩ | ⟨h3, _⟩
  · obtain ⟨b1, b2, b3⟩ := rd_bounds hL hk hk4 hj
    have hg : (rdA L k j).goes := ⟨⟨by simp [rdA], by simp [rdA], by simp [rdA], hj, by simp [rdA], by simp [rdA]⟩, rfl⟩
    have ht : (rdA L k j).tick m = (rdA L k j).fetch m := by unfold Dst.tick; rw [if_neg (not_not_intro hg), if_neg (by simp [rdA])]
    have ha : (rdA L k j).after m = m := by unfold Dst.after; rw [if_neg (by simp [rdA])]
    rw [ht, ha]
    refine ⟨hr, ?_⟩
    by_cases h64 : j = 64
    · subst h64
      right; right; right
      have e : (rdA L k 64).fetch m = (rdA L k 64).ended 3 := by unfold Dst.fetch; rw [if_pos (.inl rfl)]
      rw [e]
      refine ⟨rfl, rfl, rfl, ?_⟩
      constructor <;> simp only [rdA, Dst.ended, Dst.without] <;> omega
    · right; left
      refine ⟨j, by omega, rfl, ?_⟩
      have ho : off (2147483648 + 16 * (j % k)) = 16 * (j % k) := off_of rfl
      have hjk := Nat.mod_lt j hk
      obtain ⟨w0, w1, w2, w3⟩ := hr.2 (j % k) hjk
      have e0 : wordAt m.f (rdA L k j).at_ 0 = 2147484672 := by
        show wordAt m.f (2147483648 + 16 * (j % k)) 0 = _
        rw [wordAt_rd4 _ _ _ (by omega), ho]; exact w0
      have e1 : wordAt m.f (rdA L k j).at_ 1 = 2147485696 := by
        show wordAt m.f (2147483648 + 16 * (j % k)) 1 = _
        rw [wordAt_rd4 _ _ _ (by omega), ho]; exact w1
      have e2 : wordAt m.f (rdA L k j).at_ 2 = L := by
        show wordAt m.f (2147483648 + 16 * (j % k)) 2 = _
        rw [wordAt_rd4 _ _ _ (by omega), ho]; exact w2
      have e3 : wordAt m.f (rdA L k j).at_ 3 = 2147483648 + 16 * ((j + 1) % k) := by
        show wordAt m.f (2147483648 + 16 * (j % k)) 3 = _
        rw [wordAt_rd4 _ _ _ (by omega), ho]
        rw [Nat.mod_add_mod] at w3
        exact w3
      unfold Dst.fetch
      rw [if_neg (by
        rintro (h | h | h)
        · exact h64 h
        · simp only [rdA] at h; omega
        · exact h ⟨by simp only [rdA]; omega, by simp only [rdA]; rw [ho, hn]; omega⟩)]
      rw [if_neg (by rw [e2]; omega), e0, e1, e2, e3]
      rfl
  · obtain ⟨b1, b2, b3⟩ := rd_bounds hL hk hk4 (Nat.le_of_lt hj)
    have hg : (rdB L k j).goes := ⟨⟨by simp [rdB], by simp [rdB], by simp [rdB], by simp [rdB]; omega, by simp [rdB]; omega, by simp [rdB]⟩, rfl⟩
    have ht : (rdB L k j).tick m = (rdB L k j).move m := by unfold Dst.tick; rw [if_neg (not_not_intro hg), if_pos (show (rdB L k j).have_ = true from rfl)]
    have ha : (rdB L k j).after m = (rdB L k j).wrote m := by unfold Dst.after; rw [if_pos ⟨hg, rfl⟩]
    have hbu : (rdB L k j).burst ≤ 64 := by unfold Dst.burst; split <;> simp only [rdB] at * <;> omega
    have hm : (rdB L k j).moves m := ⟨⟨by simp [rdB], by rw [hn, off_of (a := (rdB L k j).from_) (y := 1024) rfl]; omega⟩, ⟨by simp [rdB], by rw [hn, off_of (a := (rdB L k j).to_) (y := 2048) rfl]; omega⟩⟩
    have hr' : RoundTo ((rdB L k j).wrote m) L k k := by
      unfold Dst.wrote
      rw [if_pos hm]
      exact hr.write hk4 _ _ (by rw [off_of (a := (rdB L k j).to_) (y := 2048) rfl]; omega)
    rw [ht, ha]
    refine ⟨hr', ?_⟩
    unfold Dst.move
    rw [if_neg (not_not_intro hm)]
    by_cases h64 : 64 < L
    · right; right; left
      refine ⟨j, hj, h64, rfl, ?_⟩
      rw [if_pos (show 64 < (rdB L k j).left from h64)]
      simp only [rdB, rdC, Dst.mk.injEq, true_and, and_true]
      omega
    · left
      refine ⟨j + 1, by omega, ?_, ?_⟩
      · rw [show (L + 63) / 64 = 1 by omega, Nat.add_mul]
      · rw [if_neg (show ¬ 64 < (rdB L k j).left from h64), if_neg (by simp [rdB])]
        simp only [rdB, rdA, Dst.without, Dst.mk.injEq, true_and, and_true]
        rw [Nat.add_mul, Nat.one_mul]
        omega
  · obtain ⟨b1, b2, b3⟩ := rd_bounds hL hk hk4 (Nat.le_of_lt hj)
    have hg : (rdC L k j).goes := ⟨⟨by simp [rdC], by simp [rdC], by simp [rdC], by simp [rdC]; omega, by simp [rdC]; omega, by simp [rdC]⟩, rfl⟩
    have ht : (rdC L k j).tick m = (rdC L k j).move m := by unfold Dst.tick; rw [if_neg (not_not_intro hg), if_pos (show (rdC L k j).have_ = true from rfl)]
    have ha : (rdC L k j).after m = (rdC L k j).wrote m := by unfold Dst.after; rw [if_pos ⟨hg, rfl⟩]
    have hl : ¬ 64 < (rdC L k j).left := by simp only [rdC]; omega
    have hbu : (rdC L k j).burst ≤ 64 := by unfold Dst.burst; rw [if_neg hl]; omega
    have hm : (rdC L k j).moves m := ⟨⟨by simp [rdC], by rw [hn, off_of (a := (rdC L k j).from_) (y := 1088) rfl]; omega⟩, ⟨by simp [rdC], by rw [hn, off_of (a := (rdC L k j).to_) (y := 2112) rfl]; omega⟩⟩
    have hr' : RoundTo ((rdC L k j).wrote m) L k k := by
      unfold Dst.wrote
      rw [if_pos hm]
      exact hr.write hk4 _ _ (by rw [off_of (a := (rdC L k j).to_) (y := 2112) rfl]; omega)
    rw [ht, ha]
    refine ⟨hr', ?_⟩
    unfold Dst.move
    rw [if_neg (not_not_intro hm)]
    left
    refine ⟨j + 1, by omega, ?_, ?_⟩
    · rw [show (L + 63) / 64 = 2 by omega, Nat.add_mul]
    · rw [if_neg hl, if_neg (by simp [rdC])]
      simp only [rdC, rdA, Dst.without, Dst.mk.injEq, true_and, and_true]
      rw [Nat.add_mul, Nat.one_mul]
      omega
  · exact absurd (h3.symm.trans hc) (by decide)
theorem RoundAt.few {L k t : Nat} {s : Dst} {m : Mm} (h : RoundAt L k t s m) (h1 : 1 ≤ L) (hL : L ≤ 100) : t < 300 := by
  have hc : (L + 63) / 64 ≤ 2 := by omega
  generalize (L + 63) / 64 = c at hc
  have key : ∀ j, j ≤ 64 → j * (1 + (L + 63) / 64) ≤ 192 := fun j hj => Nat.le_trans (Nat.mul_le_mul hj (show 1 + (L + 63) / 64 ≤ 3 by omega)) (by omega)
  rcases h.2 with ⟨j, hj, rfl, _⟩ | ⟨j, hj, rfl, _⟩ | ⟨j, hj, _, rfl, _⟩ | ⟨_, _, rfl, _⟩
  · have := key j hj; omega
  · have := key j (by omega); omega
  · have := key j (by omega); omega
  · have := key 64 (by omega); omega
theorem RoundAt.last {L k t : Nat} {s : Dst} {m : Mm} (h : RoundAt L k t s m) (hc : s.code ≠ 1) : s.code = 3 ∧ s.moved = 64 * L ∧ t = 64 * (1 + (L + 63) / 64) + 1 := by
  rcases h.2 with ⟨j, hj, _, rfl⟩ | ⟨j, hj, _, rfl⟩ | ⟨j, hj, _, _, rfl⟩ | ⟨a, b, c, _⟩
  · exact absurd rfl hc
  · exact absurd rfl hc
  · exact absurd rfl hc
  · exact ⟨a, b, c⟩
end Go.Proofs.YtocbfchmngcgkaaDoor

/-
What virtio.Write keeps, in plain Lean: a state that may be stays one.
No condition.
-/
import Derived.Test.YtcbjlpkkebcmjaaDoorVioWrAll
namespace Go.Proofs.YtcbjlpkkebcmjaaDoor
open Go.RowKit
theorem or_and (a b c : Nat) : (a ||| b) &&& c = (a &&& c) ||| (b &&& c) := by
  apply Nat.eq_of_testBit_eq; intro i; simp only [Nat.testBit_and, Nat.testBit_or]; cases a.testBit i <;> cases b.testBit i <;> cases c.testBit i <;> rfl
theorem or_zero_iff {a b : Nat} (ha : a = 0) (hb : b = 0) : a ||| b = 0 := by subst ha; subst hb; rfl
theorem and_sub (v m c : Nat) (h : m &&& c = 0) : v &&& m &&& c = 0 := by rw [Nat.and_assoc, h, Nat.and_zero]
theorem m64 : 64 &&& (4294967295 - 207) = 0 := by decide +kernel
theorem m143 : 143 &&& (4294967295 - 207) = 0 := by decide +kernel
theorem m64_8 : 64 &&& 8 = 0 := by decide +kernel
theorem n8_8 : (4294967295 - 8) &&& 8 = 0 := by decide +kernel
theorem fail_ok (s : VS) (h : s.ok) : s.fail.ok := by
  obtain ⟨h1, h2, h3, h4, h5⟩ := h
  refine ⟨?_, ?_, h3, h4, fun h => h5 fun e => h ?_⟩
  · show (s.st ||| 64) &&& (4294967295 - 207) = 0
    rw [or_and, h1, m64]; rfl
  · show s.irq ||| 2 ≤ 3
    have : s.irq ||| 2 < 2 ^ 2 := Nat.or_lt_two_pow (by omega) (by omega)
    omega
  · show (s.st ||| 64) &&& 8 = 0
    rw [or_and, e, m64_8]; rfl
theorem live_and8 (s : VS) (h : s.live) : s.st &&& 8 ≠ 0 := by
  have e : s.st &&& 8 = (s.st &&& 76) &&& 8 := by rw [Nat.and_assoc, show 76 &&& 8 = 8 by decide +kernel]
  have h' : s.st &&& 76 = 12 := h
  rw [e, h']; decide
theorem statN_ok (s : VS) (v : Nat) (h : s.ok) : (s.put (statN s v) s.irq).ok := by
  obtain ⟨h1, h2, h3, h4, h5⟩ := h
  have k1 : ∀ x : Nat, (s.st ||| (v &&& 143 &&& x)) &&& (4294967295 - 207) = 0 := fun x => by
    rw [or_and, h1, Nat.and_assoc, Nat.and_comm x, ← Nat.and_assoc, and_sub v 143 _ m143]; simp
  have k2 : (s.st ||| (v &&& 143)) &&& (4294967295 - 207) = 0 := by rw [or_and, h1, and_sub v 143 _ m143]; rfl
  have k3 : statN s v &&& (4294967295 - 207) = 0 := by
    unfold statN
    repeat' split
    · exact k1 _
    · exact k2
    · rw [Nat.and_assoc (v &&& 143)]; exact k1 _
    · exact k1 _
  refine ⟨k3, h2, h3, h4, fun h => ?_⟩
  by_cases hr : s.right
  · exact hr
  · exfalso
    have e8 : s.st &&& 8 = 0 := by
      by_cases e : s.st &&& 8 = 0
      · exact e
      · exact absurd (h5 e) hr
    apply h
    show statN s v &&& 8 = 0
    unfold statN
    rw [if_neg hr]
    split
    · rw [or_and, e8, Nat.and_assoc (v &&& 143), Nat.and_assoc (v &&& 143), Nat.and_comm ((4294967295 - 8)), Nat.and_assoc (4294967295 - 4), n8_8]; simp
    · rw [or_and, e8, Nat.and_assoc (v &&& 143), n8_8]; simp
theorem may_size (q : VQ) (h : q.may) : 0 ≤ q.size ∧ q.size ≤ 256 := by
  unfold VQ.may at h
  split at h
  · exact ⟨by have := h.1; omega, h.2.1⟩
  · exact h
theorem may_off (q : VQ) (hr : q.rdy = false) (h : 0 ≤ q.size ∧ q.size ≤ 256) : q.may := by
  unfold VQ.may; rw [if_neg (by simp [hr])]; exact h
theorem may_on (q : VQ) (h : q.ring) : ({ q with rdy := true, la := 0, pu := 0 } : VQ).may := by
  unfold VQ.may; rw [if_pos rfl]; exact h
theorem ready_ok (s : VS) (v : Nat) (h : s.ok) : (s.ready v).ok := by
  have hf := fail_ok s h
  have h0 := h
  obtain ⟨h1, h2, h3, h4, h5⟩ := h
  unfold VS.ready
  repeat' split
  · exact ⟨h1, h2, may_off _ rfl (may_size s.a h3), h4, h5⟩
  · rename_i hr; exact ⟨h1, h2, may_on _ hr, h4, h5⟩
  · exact hf
  · exact h0
  · exact ⟨h1, h2, h3, may_off _ rfl (may_size s.b h4), h5⟩
  · rename_i hr; exact ⟨h1, h2, h3, may_on _ hr, h5⟩
  · exact hf
  · exact h0
theorem queue_ok (s : VS) (at_ v : Nat) (h : s.ok) : (s.queue at_ v).ok := by
  have hf := fail_ok s h
  have h0 := h
  obtain ⟨h1, h2, h3, h4, h5⟩ := h
  unfold VS.queue
  by_cases hs2 : 2 ≤ s.se
  · rw [if_pos hs2]; exact h0
  rw [if_neg hs2]
  by_cases h68 : at_ = 68
  · rw [if_pos h68]; exact ready_ok s v h0
  rw [if_neg h68]
  by_cases hse : s.se = 0
  · rw [if_pos hse]
    cases hr : s.a.rdy
    · rw [if_neg (by simp)]
      repeat' split
      · exact ⟨h1, h2, may_off _ hr ⟨by show (0 : Int) ≤ (v : Int); omega, by show (v : Int) ≤ 256; omega⟩, h4, h5⟩
      · exact h0
      · exact ⟨h1, h2, may_off _ hr (may_size s.a h3), h4, h5⟩
      · exact ⟨h1, h2, may_off _ hr (may_size s.a h3), h4, h5⟩
      · exact ⟨h1, h2, may_off _ hr (may_size s.a h3), h4, h5⟩
      · exact hf
      · exact h0
    · rw [if_pos rfl]; exact h0
  · rw [if_neg hse]
    cases hr : s.b.rdy
    · rw [if_neg (by simp)]
      repeat' split
      · exact ⟨h1, h2, h3, may_off _ hr ⟨by show (0 : Int) ≤ (v : Int); omega, by show (v : Int) ≤ 256; omega⟩, h5⟩
      · exact h0
      · exact ⟨h1, h2, h3, may_off _ hr (may_size s.b h4), h5⟩
      · exact ⟨h1, h2, h3, may_off _ hr (may_size s.b h4), h5⟩
      · exact ⟨h1, h2, h3, may_off _ hr (may_size s.b h4), h5⟩
      · exact hf
      · exact h0
    · rw [if_pos rfl]; exact h0
theorem zero_ok : VS.zero.ok := by decide +kernel
theorem write_ok (s : VS) (at_ v : Nat) (h : s.ok) : (s.write at_ v).ok := by
  have h0 := h
  obtain ⟨h1, h2, h3, h4, h5⟩ := h
  unfold VS.write
  repeat' split
  · exact ⟨h1, h2, h3, h4, h5⟩
  · exact ⟨h1, h2, h3, h4, h5⟩
  · rename_i hy _; exact ⟨h1, h2, h3, h4, fun e => absurd hy e⟩
  · rename_i hy _ _; exact ⟨h1, h2, h3, h4, fun e => absurd hy e⟩
  · exact h0
  · exact h0
  · exact ⟨h1, h2, h3, h4, h5⟩
  · exact h0
  · exact ⟨h1, Nat.le_trans Nat.and_le_left h2, h3, h4, h5⟩
  · unfold VS.status
    split
    · exact zero_ok
    · exact statN_ok s v h0
  · exact queue_ok s at_ v h0
theorem may_ring (q : VQ) (hr : q.rdy = true) (h : q.may) : q.ring := by
  unfold VQ.may at h; rw [if_pos hr] at h; exact h
theorem live_right (s : VS) (h : s.ok) (hl : s.live) : s.d0 = 0 ∧ s.d1 = 1 := h.2.2.2.2 (live_and8 s hl)
theorem write_80 (s : VS) (v : Nat) : s.write 80 v = s := rfl
theorem told_ok (s : VS) (at_ v : Nat) (h : s.ok) : s.told at_ v = -1 ∨ (s.told at_ v = 0 ∧ s.write at_ v = s ∧ s.a.rdy = true ∧ s.live ∧ s.a.ring) ∨ (s.told at_ v = 1 ∧ s.write at_ v = s ∧ s.b.rdy = true ∧ s.live ∧ s.b.ring) := by
  obtain ⟨h1, h2, h3, h4, h5⟩ := h
  unfold VS.told
  by_cases h80 : at_ = 80
  · rw [if_pos h80]
    subst h80
    unfold VS.notify
    by_cases h0 : v = 0
    · rw [if_pos h0]
      by_cases hc : s.a.rdy = true ∧ s.live
      · rw [if_pos hc]; exact .inr (.inl ⟨rfl, rfl, hc.1, hc.2, may_ring _ hc.1 h3⟩)
      · rw [if_neg hc]; exact .inl rfl
    · rw [if_neg h0]
      by_cases h1' : v = 1
      · rw [if_pos h1']
        by_cases hc : s.b.rdy = true ∧ s.live
        · rw [if_pos hc]; exact .inr (.inr ⟨rfl, rfl, hc.1, hc.2, may_ring _ hc.1 h4⟩)
        · rw [if_neg hc]; exact .inl rfl
      · rw [if_neg h1']; exact .inl rfl
  · rw [if_neg h80]; exact .inl rfl
theorem reset_zero (s : VS) : s.write 112 0 = VS.zero := rfl
theorem fail_dead (s : VS) : ¬ s.fail.live := by
  intro h
  have h' : (s.st ||| 64) &&& 76 = 12 := h
  have := congrArg (fun x => x.testBit 6) h'
  simp only [Nat.testBit_and, Nat.testBit_or] at this
  have e1 : (64 : Nat).testBit 6 = true := by decide
  have e2 : (76 : Nat).testBit 6 = true := by decide
  have e3 : (12 : Nat).testBit 6 = false := by decide
  rw [e1, e2, e3] at this
  simp at this
end Go.Proofs.YtcbjlpkkebcmjaaDoor

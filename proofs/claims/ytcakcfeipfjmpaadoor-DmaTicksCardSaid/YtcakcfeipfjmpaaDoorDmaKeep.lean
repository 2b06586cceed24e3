/-
What a tick of package dma keeps: a state that may be stays one, the head, the bytes where nothing was told moved.
No condition.
-/
import Derived.Test.YtcakcfeipfjmpaaDoorDmaSure
import Derived.Test.YtcakcfeipfjmpaaDoorWord4
namespace Go.Proofs.YtcakcfeipfjmpaaDoor
open Go.RowKit

theorem wordAt_lt (f : Nat → UInt8) (a j : Nat) (hj : j < 4) : wordAt f a j < 4294967296 := by
  rw [wordAt_rd4 _ _ _ hj]
  unfold rd4
  have h0 := (f (off a + 4 * j)).toNat_lt
  have h1 := (f (off a + 4 * j + 1)).toNat_lt
  have h2 := (f (off a + 4 * j + 2)).toNat_lt
  have h3 := (f (off a + 4 * j + 3)).toNat_lt
  omega
theorem keep_write_n (m : Mm) (a : Nat) (l : List UInt8) : (m.write a l).n = m.n := by unfold Mm.write; rfl
theorem ended_wf (s : Dst) (hs : s.wf) (k : Nat) (hk : k < 4294967296) : (s.ended k).wf := ⟨hk, hs.head, hs.at_, hs.steps, hs.moved, by show (0 : Nat) < _; omega, by show (0 : Nat) < _; omega, by show (0 : Nat) < _; omega, by show (0 : Nat) < _; omega⟩
theorem ended_ok (s : Dst) (hst : s.steps ≤ 64) (k : Nat) (h2 : 2 ≤ k) (h3 : k ≤ 3) : (s.ended k).okP := ⟨h3, fun h => (by cases h), fun _ => h2, hst, fun h => (by cases h), fun _ => ⟨rfl, rfl, rfl, rfl⟩⟩
/-- What a tick does to a state that may be. -/
structure Kept (s y : Dst) (m m2 : Mm) : Prop where
  ok : y.okP
  wf : y.wf
  head : y.head = s.head
  far : (y.moved = s.moved ∧ m2 = m) ∨ ∃ k, 1 ≤ k ∧ k ≤ 64 ∧ y.moved = (s.moved + k) % 4294967296
  idle : s.code ≠ 1 → y = s
  busy : s.code = 1 → y ≠ s
  n : m2.n = m.n
theorem tick_kept (s : Dst) (m : Mm) (hw : s.wf) (ho : s.okP) : Kept s (s.tick m) m (s.after m) := by
  by_cases hc : s.code = 1
  · have hg : s.goes := ⟨ho, hc⟩
    by_cases hv : s.have_ = true
    · have e1 : s.tick m = s.move m := by unfold Dst.tick; rw [if_neg (not_not_intro hg), if_pos hv]
      have e2 : s.after m = s.wrote m := by unfold Dst.after; rw [if_pos ⟨hg, hv⟩]
      rw [e1, e2]
      obtain ⟨hl1, hl2⟩ := ho.l hv
      have hmo := hw.moved
      by_cases hm : s.moves m
      · have e3 : s.move m = if 64 < s.left then { s with from_ := (s.from_ + 64) % 4294967296, to_ := (s.to_ + 64) % 4294967296, left := s.left - 64, moved := (s.moved + 64) % 4294967296 }
            else if s.next = 0 then { s with moved := (s.moved + s.left) % 4294967296 }.ended 2
            else { s with moved := (s.moved + s.left) % 4294967296, at_ := s.next }.without := by unfold Dst.move; rw [if_neg (not_not_intro hm)]
        have e4 : s.wrote m = m.write (off s.to_) (cut m.f (off s.from_) s.burst) := by unfold Dst.wrote; rw [if_pos hm]
        have hn : (s.wrote m).n = m.n := by rw [e4]; exact keep_write_n _ _ _
        rw [e3]
        by_cases hl : 64 < s.left
        · rw [if_pos hl]
          refine ⟨⟨ho.c, ho.h, ho.a, ho.st, fun _ => ⟨?_, ?_⟩, fun h => ?_⟩, ⟨hw.code, hw.head, hw.at_, hw.steps, ?_, ?_, ?_, ?_, hw.next⟩, rfl, .inr ⟨64, by omega, by omega, rfl⟩, fun h => absurd hc h, fun _ e => ?_, hn⟩
          · show 1 ≤ s.left - 64; omega
          · show s.left - 64 ≤ 65536; omega
          · have h' : s.have_ = false := h
            rw [hv] at h'; cases h'
          · show (s.moved + 64) % 4294967296 < 4294967296; omega
          · show (s.from_ + 64) % 4294967296 < 4294967296; omega
          · show (s.to_ + 64) % 4294967296 < 4294967296; omega
          · have := hw.left; show s.left - 64 < 4294967296; omega
          · have h5 : (s.moved + 64) % 4294967296 = s.moved := congrArg Dst.moved e
            omega
        · rw [if_neg hl]
          by_cases hx : s.next = 0
          · rw [if_pos hx]
            refine ⟨ended_ok { s with moved := (s.moved + s.left) % 4294967296 } ho.st 2 (by omega) (by omega), ended_wf { s with moved := (s.moved + s.left) % 4294967296 } ⟨hw.code, hw.head, hw.at_, hw.steps, ?_, hw.from_, hw.to_, hw.left, hw.next⟩ 2 (by omega), rfl, .inr ⟨s.left, hl1, by omega, rfl⟩, fun h => absurd hc h, fun _ e => ?_, hn⟩
            · show (s.moved + s.left) % 4294967296 < 4294967296; omega
            · have h5 : 2 = s.code := congrArg Dst.code e
              omega
          · rw [if_neg hx]
            refine ⟨⟨ho.c, fun h => (by cases h), ho.a, ho.st, fun h => (by cases h), fun _ => ⟨rfl, rfl, rfl, rfl⟩⟩, ⟨hw.code, hw.head, hw.next, hw.steps, ?_, ?_, ?_, ?_, ?_⟩, rfl, .inr ⟨s.left, hl1, by omega, rfl⟩, fun h => absurd hc h, fun _ e => ?_, hn⟩
            · show (s.moved + s.left) % 4294967296 < 4294967296; omega
            · show (0 : Nat) < 4294967296; omega
            · show (0 : Nat) < 4294967296; omega
            · show (0 : Nat) < 4294967296; omega
            · show (0 : Nat) < 4294967296; omega
            · have h5 : false = s.have_ := congrArg Dst.have_ e
              rw [hv] at h5; cases h5
      · have e3 : s.move m = s.ended 3 := by unfold Dst.move; rw [if_pos hm]
        have e4 : s.wrote m = m := by unfold Dst.wrote; rw [if_neg hm]
        rw [e3, e4]
        refine ⟨ended_ok _ ho.st 3 (by omega) (by omega), ended_wf _ hw 3 (by omega), rfl, .inl ⟨rfl, rfl⟩, fun h => absurd hc h, fun _ e => ?_, rfl⟩
        have h5 : 3 = s.code := congrArg Dst.code e
        omega
    · have e1 : s.tick m = s.fetch m := by unfold Dst.tick; rw [if_neg (not_not_intro hg), if_neg hv]
      have e2 : s.after m = m := by unfold Dst.after; rw [if_neg (fun h => hv h.2)]
      have hst := ho.st
      rw [e1, e2]
      unfold Dst.fetch
      by_cases h1 : s.steps = 64 ∨ s.at_ % 4 ≠ 0 ∨ ¬ inM m.n s.at_ 16
      · rw [if_pos h1]
        refine ⟨ended_ok _ ho.st 3 (by omega) (by omega), ended_wf _ hw 3 (by omega), rfl, .inl ⟨rfl, rfl⟩, fun h => absurd hc h, fun _ e => ?_, rfl⟩
        have h5 : 3 = s.code := congrArg Dst.code e
        omega
      · rw [if_neg h1]
        have h64 : s.steps < 64 := by
          rcases Nat.lt_or_ge s.steps 64 with h | h
          · exact h
          · exact absurd (.inl (by omega)) h1
        by_cases h2 : wordAt m.f s.at_ 2 < 1 ∨ 65536 < wordAt m.f s.at_ 2
        · rw [if_pos h2]
          refine ⟨ended_ok { s with steps := s.steps + 1 } (by show s.steps + 1 ≤ 64; omega) 3 (by omega) (by omega), ended_wf { s with steps := s.steps + 1 } ⟨hw.code, hw.head, hw.at_, ?_, hw.moved, hw.from_, hw.to_, hw.left, hw.next⟩ 3 (by omega), rfl, .inl ⟨rfl, rfl⟩, fun h => absurd hc h, fun _ e => ?_, rfl⟩
          · show s.steps + 1 < 4294967296; omega
          · have h5 : 3 = s.code := congrArg Dst.code e
            omega
        · rw [if_neg h2]
          refine ⟨⟨ho.c, fun _ => hc, ho.a, ?_, fun _ => ?_, fun h => (by cases h)⟩, ⟨hw.code, hw.head, hw.at_, ?_, hw.moved, wordAt_lt _ _ _ (by omega), wordAt_lt _ _ _ (by omega), wordAt_lt _ _ _ (by omega), wordAt_lt _ _ _ (by omega)⟩, rfl, .inl ⟨rfl, rfl⟩, fun h => absurd hc h, fun _ e => ?_, rfl⟩
          · show s.steps + 1 ≤ 64; omega
          · show 1 ≤ wordAt m.f s.at_ 2 ∧ wordAt m.f s.at_ 2 ≤ 65536
            omega
          · show s.steps + 1 < 4294967296; omega
          · have h5 : s.steps + 1 = s.steps := congrArg Dst.steps e
            omega
  · have hg : ¬ s.goes := fun h => hc h.code
    have e1 : s.tick m = s := by unfold Dst.tick; rw [if_pos hg]
    have e2 : s.after m = m := by unfold Dst.after; rw [if_neg (fun h => hg h.1)]
    rw [e1, e2]
    exact ⟨ho, hw, rfl, .inl ⟨rfl, rfl⟩, fun _ => rfl, fun h => absurd h hc, rfl⟩
/-- Told to stop: idle. -/
theorem stop_eq (s : Dst) : s.wr 0 2 = { Dst.zero with head := s.head, moved := s.moved } := by
  unfold Dst.wr
  rw [if_neg (by omega), if_pos ⟨rfl, rfl⟩]
theorem stop_wf (s : Dst) (hs : s.wf) : (s.wr 0 2).wf := by
  rw [stop_eq]
  have h0 : (0 : Nat) < 4294967296 := by omega
  exact ⟨h0, hs.head, h0, h0, hs.moved, h0, h0, h0, h0⟩
theorem stop_ok (s : Dst) : (s.wr 0 2).okP := by
  rw [stop_eq]
  exact ⟨by show 0 ≤ 3; omega, fun h => (by cases h), fun h => (by cases h), by show 0 ≤ 64; omega, fun h => (by cases h), fun _ => ⟨rfl, rfl, rfl, rfl⟩⟩
end Go.Proofs.YtcakcfeipfjmpaaDoor

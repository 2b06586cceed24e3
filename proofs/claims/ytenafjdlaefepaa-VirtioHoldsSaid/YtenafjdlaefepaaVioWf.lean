/-
What virtio.Write keeps, in plain Lean: each number keeps its width.
No condition.
-/
import Derived.Test.YtenafjdlaefepaaVioOk
namespace Go.Proofs.Ytenafjdlaefepaa
open Go.RowKit
theorem or32 {a b : Nat} (ha : a < 4294967296) (hb : b < 4294967296) : a ||| b < 4294967296 := Nat.or_lt_two_pow (n := 32) ha hb
theorem and32 {a b : Nat} (ha : a < 4294967296) : a &&& b < 4294967296 := Nat.lt_of_le_of_lt Nat.and_le_left ha
theorem statN_lt (s : VS) (v : Nat) (hs : s.st < 4294967296) (hv : v < 4294967296) : statN s v < 4294967296 := by
  have h1 : ∀ x, v &&& 143 &&& x < 4294967296 := fun x => and32 (and32 hv)
  have h2 : v &&& 143 < 4294967296 := and32 hv
  unfold statN
  repeat' split
  all_goals first
    | exact or32 hs (h1 _)
    | exact or32 hs h2
    | exact or32 hs (and32 (h1 _))
    | exact or32 hs (and32 h2)
theorem fail_wf (s : VS) (hs : s.wf) : s.fail.wf := ⟨or32 hs.hst (by decide), hs.hfs, hs.hds, hs.hse, or32 hs.hirq (by decide), hs.hd0, hs.hd1, hs.ha, hs.hb⟩
theorem zero_wf : VS.zero.wf := ⟨by decide, by decide, by decide, by decide, by decide, by decide, by decide, ⟨by decide, by decide, by decide, by decide, by decide, by decide, by decide⟩, ⟨by decide, by decide, by decide, by decide, by decide, by decide, by decide⟩⟩
theorem ready_wf (s : VS) (v : Nat) (hs : s.wf) : (s.ready v).wf := by
  have hf := fail_wf s hs
  obtain ⟨h1, h2, h3, h4, h5, h6, h7, ⟨a1, a2, a3, a4, a5, a6, a7⟩, ⟨b1, b2, b3, b4, b5, b6, b7⟩⟩ := hs
  unfold VS.ready
  repeat' split
  all_goals first
    | exact hf
    | exact ⟨h1, h2, h3, h4, h5, h6, h7, ⟨a1, a2, a3, a4, a5, a6, a7⟩, ⟨b1, b2, b3, b4, b5, b6, b7⟩⟩
    | exact ⟨h1, h2, h3, h4, h5, h6, h7, ⟨a1, a2, a3, a4, a5, (show (0 : Nat) < 65536 by decide), (show (0 : Nat) < 65536 by decide)⟩, ⟨b1, b2, b3, b4, b5, b6, b7⟩⟩
    | exact ⟨h1, h2, h3, h4, h5, h6, h7, ⟨a1, a2, a3, a4, a5, a6, a7⟩, ⟨b1, b2, b3, b4, b5, (show (0 : Nat) < 65536 by decide), (show (0 : Nat) < 65536 by decide)⟩⟩
theorem queue_wf (s : VS) (at_ v : Nat) (hs : s.wf) (hv : v < 4294967296) : (s.queue at_ v).wf := by
  have hf := fail_wf s hs
  have hr := ready_wf s v hs
  have hlo : (-9223372036854775808 : Int) ≤ (v : Int) := by omega
  have hhi : (v : Int) ≤ 9223372036854775807 := by omega
  unfold VS.queue
  by_cases hs2 : 2 ≤ s.se
  · rw [if_pos hs2]; exact hs
  rw [if_neg hs2]
  by_cases h68 : at_ = 68
  · rw [if_pos h68]; exact hr
  rw [if_neg h68]
  by_cases hse : s.se = 0
  · rw [if_pos hse]
    cases hrd : s.a.rdy
    · rw [if_neg (by simp)]
      repeat' split
      · exact ⟨hs.hst, hs.hfs, hs.hds, hs.hse, hs.hirq, hs.hd0, hs.hd1, ⟨hlo, hhi, hs.ha.hde, hs.ha.hav, hs.ha.hus, hs.ha.hla, hs.ha.hpu⟩, hs.hb⟩
      · exact hs
      · exact ⟨hs.hst, hs.hfs, hs.hds, hs.hse, hs.hirq, hs.hd0, hs.hd1, ⟨hs.ha.lo, hs.ha.hi, hv, hs.ha.hav, hs.ha.hus, hs.ha.hla, hs.ha.hpu⟩, hs.hb⟩
      · exact ⟨hs.hst, hs.hfs, hs.hds, hs.hse, hs.hirq, hs.hd0, hs.hd1, ⟨hs.ha.lo, hs.ha.hi, hs.ha.hde, hv, hs.ha.hus, hs.ha.hla, hs.ha.hpu⟩, hs.hb⟩
      · exact ⟨hs.hst, hs.hfs, hs.hds, hs.hse, hs.hirq, hs.hd0, hs.hd1, ⟨hs.ha.lo, hs.ha.hi, hs.ha.hde, hs.ha.hav, hv, hs.ha.hla, hs.ha.hpu⟩, hs.hb⟩
      · exact hf
      · exact hs
    · rw [if_pos rfl]; exact hs
  · rw [if_neg hse]
    cases hrd : s.b.rdy
    · rw [if_neg (by simp)]
      repeat' split
      · exact ⟨hs.hst, hs.hfs, hs.hds, hs.hse, hs.hirq, hs.hd0, hs.hd1, hs.ha, ⟨hlo, hhi, hs.hb.hde, hs.hb.hav, hs.hb.hus, hs.hb.hla, hs.hb.hpu⟩⟩
      · exact hs
      · exact ⟨hs.hst, hs.hfs, hs.hds, hs.hse, hs.hirq, hs.hd0, hs.hd1, hs.ha, ⟨hs.hb.lo, hs.hb.hi, hv, hs.hb.hav, hs.hb.hus, hs.hb.hla, hs.hb.hpu⟩⟩
      · exact ⟨hs.hst, hs.hfs, hs.hds, hs.hse, hs.hirq, hs.hd0, hs.hd1, hs.ha, ⟨hs.hb.lo, hs.hb.hi, hs.hb.hde, hv, hs.hb.hus, hs.hb.hla, hs.hb.hpu⟩⟩
      · exact ⟨hs.hst, hs.hfs, hs.hds, hs.hse, hs.hirq, hs.hd0, hs.hd1, hs.ha, ⟨hs.hb.lo, hs.hb.hi, hs.hb.hde, hs.hb.hav, hv, hs.hb.hla, hs.hb.hpu⟩⟩
      · exact hf
      · exact hs
    · rw [if_pos rfl]; exact hs
theorem write_wf (s : VS) (at_ v : Nat) (hs : s.wf) (hv : v < 4294967296) : (s.write at_ v).wf := by
  have hq := queue_wf s at_ v hs hv
  have hst : (s.status v).wf := by
    unfold VS.status
    split
    · exact zero_wf
    · exact ⟨statN_lt s v hs.hst hv, hs.hfs, hs.hds, hs.hse, hs.hirq, hs.hd0, hs.hd1, hs.ha, hs.hb⟩
  obtain ⟨h1, h2, h3, h4, h5, h6, h7, h8, h9⟩ := hs
  unfold VS.write
  repeat' split
  all_goals first
    | exact hst
    | exact hq
    | exact ⟨h1, h2, h3, h4, h5, h6, h7, h8, h9⟩
    | exact ⟨h1, hv, h3, h4, h5, h6, h7, h8, h9⟩
    | exact ⟨h1, h2, hv, h4, h5, h6, h7, h8, h9⟩
    | exact ⟨h1, h2, h3, hv, h5, h6, h7, h8, h9⟩
    | exact ⟨h1, h2, h3, h4, h5, hv, h7, h8, h9⟩
    | exact ⟨h1, h2, h3, h4, h5, h6, hv, h8, h9⟩
    | exact ⟨h1, h2, h3, h4, and32 h5, h6, h7, h8, h9⟩
end Go.Proofs.Ytenafjdlaefepaa

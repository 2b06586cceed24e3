/-
What a tick of package dma does, told of a state and of memory; fetch and move answer so.
Condition: the table of regions of package bus reads as its text lays it.
-/
import Derived.Test.YtcakcfeipfjmpaaDoorDmaMove
namespace Go.Proofs.YtcakcfeipfjmpaaDoor
open Go.RowKit

def off (a : Nat) : Nat := a - 2147483648
theorem off_eq (a : Nat) : a - 2147483648 = off a := rfl
attribute [irreducible] off
def inM (n a k : Nat) : Prop := 2147483648 ≤ a ∧ off a + k ≤ 4096 * n
instance (n a k : Nat) : Decidable (inM n a k) := by unfold inM; infer_instance
def wordAt (f : Nat → UInt8) (a j : Nat) : Nat := pw (fun x => f (off a + x)) 16 j
theorem wordAt_eq (f : Nat → UInt8) (a j : Nat) : wordAt f a j = pw (fun x => f (off a + x)) 16 j := rfl
attribute [irreducible] wordAt
def Dst.fetch (s : Dst) (m : Mm) : Dst :=
  if s.steps = 64 ∨ s.at_ % 4 ≠ 0 ∨ ¬ inM m.n s.at_ 16 then s.ended 3
  else if wordAt m.f s.at_ 2 < 1 ∨ 65536 < wordAt m.f s.at_ 2 then { s with steps := s.steps + 1 }.ended 3
  else { s with steps := s.steps + 1, have_ := true, from_ := wordAt m.f s.at_ 0, to_ := wordAt m.f s.at_ 1, left := wordAt m.f s.at_ 2, next := wordAt m.f s.at_ 3 }
def Dst.burst (s : Dst) : Nat := if 64 < s.left then 64 else s.left
def Dst.moves (s : Dst) (m : Mm) : Prop := inM m.n s.from_ s.burst ∧ inM m.n s.to_ s.burst
instance (s : Dst) (m : Mm) : Decidable (s.moves m) := by unfold Dst.moves; infer_instance
def Dst.move (s : Dst) (m : Mm) : Dst :=
  if ¬ s.moves m then s.ended 3
  else if 64 < s.left then { s with from_ := (s.from_ + 64) % 4294967296, to_ := (s.to_ + 64) % 4294967296, left := s.left - 64, moved := (s.moved + 64) % 4294967296 }
  else if s.next = 0 then { s with moved := (s.moved + s.left) % 4294967296 }.ended 2
  else { s with moved := (s.moved + s.left) % 4294967296, at_ := s.next }.without
def Dst.wrote (s : Dst) (m : Mm) : Mm := if s.moves m then m.write (off s.to_) (cut m.f (off s.from_) s.burst) else m
structure Dst.goes (s : Dst) : Prop where
  ok : s.okP
  code : s.code = 1
instance (s : Dst) : Decidable s.goes := decidable_of_iff (s.okP ∧ s.code = 1) ⟨fun h => ⟨h.1, h.2⟩, fun h => ⟨h.1, h.2⟩⟩
def Dst.tick (s : Dst) (m : Mm) : Dst := if ¬ s.goes then s else if s.have_ = true then s.move m else s.fetch m
def Dst.after (s : Dst) (m : Mm) : Mm := if s.goes ∧ s.have_ = true then s.wrote m else m

theorem rd_any {g : Nat} {m : Mm} {F : Nat → Prop} {w : World} (h : RamIs w g m F) (hr : RegAt w) (a n : Nat) (ha : a < 4294967296) (hn : n < 4294967296) :
    Calls Tryd.prog 87 #[.pointer (some ⟨g, 0, none⟩), .int .u32 a, .int .u32 n] w fun e w' => ∃ v F', e = .returned (.tuple #[v, .bool (decide (inM m.n a n))]) ∧ RamIs w' g m F' ∧ MemStep F F' w w' := by
  by_cases h1 : 2147483648 ≤ a
  · by_cases h2 : a - 2147483648 + n ≤ 4096 * m.n
    · rw [decide_eq_true (show inM m.n a n from ⟨h1, by rw [← off_eq]; exact h2⟩)]
      refine (dma_read_ok h a n ha hn h1 h2 hr).mono ?_
      rintro e w' ⟨v, F', rfl, h1, h2, _⟩
      exact ⟨v, F', rfl, h1, h2⟩
    · rw [decide_eq_false (fun hh : inM m.n a n => h2 (by rw [off_eq]; exact hh.2))]
      refine (dma_read_far h a n ha hn h1 (by omega) hr).mono ?_
      rintro e w' ⟨rfl, hb⟩
      exact ⟨_, F, rfl, h.below hb, MemStep.of_below hb⟩
  · rw [decide_eq_false (fun hh : inM m.n a n => h1 hh.1)]
    refine (dma_read_low _ a n w (by omega) hr).mono ?_
    rintro e w' ⟨rfl, hb⟩
    exact ⟨_, F, rfl, h.below hb, MemStep.of_below hb⟩
theorem dma_fetch {g : Nat} {m : Mm} {F : Nat → Prop} {w : World} (s : Dst) (hs : s.wf) (h64 : s.steps ≤ 64) (h : RamIs w g m F) (hr : RegAt w) :
    Calls Tryd.prog 53 #[.agg s.c, .pointer (some ⟨g, 0, none⟩)] w fun e w' => e = .returned (.agg (s.fetch m).c) ∧ ∃ F', RamIs w' g m F' ∧ MemStep F F' w w' := by
  have HRD := Lib.hid (fun W (hb : Below w.heap.size w W) => rd_any (h.below hb) (hr.below hb) s.at_ 16 hs.at_ (by omega))
  have HF := Lib.hid h.lt
  have hat := hs.at_
  obtain ⟨code, head, at_, steps, moved, have_, from_, to_, left, next, asks⟩ := s
  unfold Dst.fetch
  dsimp only at h64 hat HRD ⊢
  by_cases h1 : steps = 64
  · rw [if_pos (.inl h1)]
    exact dma_fetch_s64 head at_ steps moved have_ from_ to_ left next code asks _ HF hat h1 HRD
  · by_cases h2 : at_ % 4 = 0
    · by_cases h3 : inM m.n at_ 16
      · rw [if_neg (by rintro (h | h | h); exact h1 h; exact h h2; exact h h3)]
        have hxe := off_eq at_
        have hst : steps < 64 := by omega
        have hW : Hid (wrow (fun x => m.f (off at_ + x)) 16 = #[.int .u32 (wordAt m.f at_ 0 : Nat), .int .u32 (wordAt m.f at_ 1 : Nat), .int .u32 (wordAt m.f at_ 2 : Nat), .int .u32 (wordAt m.f at_ 3 : Nat)]) := Lib.hid (by rw [wordAt_eq, wordAt_eq, wordAt_eq, wordAt_eq]; rfl)
        generalize wordAt m.f at_ 0 = W0 at hW ⊢
        generalize wordAt m.f at_ 1 = W1 at hW ⊢
        generalize wordAt m.f at_ 2 = W2 at hW ⊢
        generalize wordAt m.f at_ 3 = W3 at hW ⊢
        by_cases h4 : W2 < 1
        · rw [if_pos (.inl h4)]
          exact dma_fetch_zero head at_ steps moved have_ from_ to_ left next code asks (off at_) W0 W1 W2 W3 h hr hst hat h3.1 hxe h2 h3.2 hW h4
        · by_cases h5 : 65536 < W2
          · rw [if_pos (.inr h5)]
            exact dma_fetch_long head at_ steps moved have_ from_ to_ left next code asks (off at_) W0 W1 W2 W3 h hr hst hat h3.1 hxe h2 h3.2 hW h5
          · rw [if_neg (by rintro (h | h); exact h4 h; exact h5 h)]
            exact dma_fetch_ok head at_ steps moved have_ from_ to_ left next code asks (off at_) W0 W1 W2 W3 h hr hst hat h3.1 hxe h2 h3.2 hW (by omega) (by omega)
      · rw [if_pos (.inr (.inr h3))]
        rw [decide_eq_false h3] at HRD
        exact dma_fetch_no head at_ steps moved have_ from_ to_ left next code asks HF hat h1 h2 HRD
    · rw [if_pos (.inr (.inl h2))]
      exact dma_fetch_odd head at_ steps moved have_ from_ to_ left next code asks _ HF hat h1 h2 HRD
theorem pl_any (a : Nat) (w : World) (ha : a < 4294967296) (hr : RegAt w) :
    Calls Tryd.prog 88 #[.int .u32 a] w fun e w' => (∃ x : Nat, x < 4294967296 ∧ e = .returned (.tuple #[.int .u32 x, .bool (decide (2147483648 ≤ a))])) ∧ Below w.heap.size w w' := by
  by_cases h1 : 2147483648 ≤ a
  · rw [decide_eq_true h1]
    exact (dma_place_in a w ha h1 hr).mono fun e w' ⟨h2, h3⟩ => ⟨⟨_, by omega, h2⟩, h3⟩
  · rw [decide_eq_false h1]
    exact dma_place_out a w (by omega) hr
theorem dma_move {g : Nat} {m : Mm} {F : Nat → Prop} {w : World} (s : Dst) (hs : s.wf) (h : RamIs w g m F) (hr : RegAt w) (hrf : ¬ F 1) :
    Calls Tryd.prog 52 #[.agg s.c, .pointer (some ⟨g, 0, none⟩)] w fun e w' => e = .returned (.agg (s.move m).c) ∧ ∃ F', RamIs w' g (s.wrote m) F' ∧ MemStep F F' w w' := by
  have HF := Lib.hid h.lt
  have hf := hs.from_
  have ht := hs.to_
  have hm := hs.moved
  have hll := hs.left
  obtain ⟨code, head, at_, steps, moved, have_, from_, to_, left, next, asks⟩ := s
  unfold Dst.move Dst.wrote
  dsimp only at hf ht hm hll ⊢
  by_cases hl : 64 < left
  · skip
    have HRD := Lib.hid (fun W (hb : Below w.heap.size w W) => rd_any (h.below hb) (hr.below hb) from_ 64 hf (by omega))
    have hbu : (if 64 < left then 64 else left) = 64 := if_pos hl
    have HPL := Lib.hid (fun W (hW : RegAt W) => pl_any to_ W ht hW)
    by_cases h1 : inM m.n from_ 64
    · have HRD2 := Lib.hid (fun W (hb : Below w.heap.size w W) => (dma_read_ok (h.below hb) from_ 64 hf (by omega) h1.1 (by rw [off_eq]; exact h1.2) (hr.below hb)))
      rw [off_eq] at HRD2
      by_cases h2 : 2147483648 ≤ to_
      · have HPL2 := Lib.hid (fun W (hW : RegAt W) => dma_place_in to_ W ht h2 hW)
        rw [off_eq] at HPL2
        have hol : off to_ < 4294967296 := by rw [← off_eq]; omega
        by_cases h3 : off to_ + 64 ≤ 4096 * m.n
        · have hmv : Dst.moves ⟨code, head, at_, steps, moved, have_, from_, to_, left, next, asks⟩ m := by
            unfold Dst.moves Dst.burst
            rw [hbu]
            exact ⟨h1, h2, h3⟩
          rw [if_neg (not_not_intro hmv), if_pos hmv]
          unfold Dst.burst
          rw [hbu]
          rw [if_pos hl]
          generalize off to_ = x at HPL2 hol h3 ⊢
          have e1 : (((moved + 64) % 4294967296 : Nat) : Int) = ((moved : Int) + 64) % 4294967296 := by omega
          have e2 : (((from_ + 64) % 4294967296 : Nat) : Int) = ((from_ : Int) + 64) % 4294967296 := by omega
          have e3 : (((to_ + 64) % 4294967296 : Nat) : Int) = ((to_ : Int) + 64) % 4294967296 := by omega
          have e4 : ((left - 64 : Nat) : Int) = (left : Int) - 64 := by omega
          simp only [Dst.c]
          rw [e1, e2, e3, e4]
          exact dma_move_more_b head at_ steps moved have_ from_ to_ left next code asks HF hl hf ht hm hll (cut m.f (off from_) 64) HRD2 hr hrf x hol HPL2 h3
        · have hmv : ¬ Dst.moves ⟨code, head, at_, steps, moved, have_, from_, to_, left, next, asks⟩ m := by
            unfold Dst.moves Dst.burst
            rw [hbu]
            exact fun h => h3 h.2.2
          rw [if_pos hmv, if_neg hmv]
          generalize off to_ = x at HPL2 hol h3 ⊢
          exact dma_move_nowrite_b head at_ steps moved have_ from_ to_ left next code asks HF hl hf ht hm hll (cut m.f (off from_) 64) HRD2 hr hrf x hol HPL2 (Nat.lt_of_not_le h3)
      · have hmv : ¬ Dst.moves ⟨code, head, at_, steps, moved, have_, from_, to_, left, next, asks⟩ m := by
          unfold Dst.moves Dst.burst
          rw [hbu]
          exact fun h => h2 h.2.1
        rw [if_pos hmv, if_neg hmv]
        rw [decide_eq_false h2] at HPL
        exact dma_move_noplace_b head at_ steps moved have_ from_ to_ left next code asks HF hl hf ht hm hll (cut m.f (off from_) 64) HRD2 hr hrf HPL
    · have hmv : ¬ Dst.moves ⟨code, head, at_, steps, moved, have_, from_, to_, left, next, asks⟩ m := by
        unfold Dst.moves Dst.burst
        rw [hbu]
        exact fun h => h1 h.1
      rw [if_pos hmv, if_neg hmv]
      rw [decide_eq_false h1] at HRD
      exact dma_move_norange_b head at_ steps moved have_ from_ to_ left next code asks HF hl hf ht hm hll HRD hr hrf _ HPL
  · skip
    have HRD := Lib.hid (fun W (hb : Below w.heap.size w W) => rd_any (h.below hb) (hr.below hb) from_ left hf (by omega))
    have hbu : (if 64 < left then 64 else left) = left := if_neg hl
    have HPL := Lib.hid (fun W (hW : RegAt W) => pl_any to_ W ht hW)
    by_cases h1 : inM m.n from_ left
    · have HRD2 := Lib.hid (fun W (hb : Below w.heap.size w W) => (dma_read_ok (h.below hb) from_ left hf (by omega) h1.1 (by rw [off_eq]; exact h1.2) (hr.below hb)))
      rw [off_eq] at HRD2
      by_cases h2 : 2147483648 ≤ to_
      · have HPL2 := Lib.hid (fun W (hW : RegAt W) => dma_place_in to_ W ht h2 hW)
        rw [off_eq] at HPL2
        have hol : off to_ < 4294967296 := by rw [← off_eq]; omega
        by_cases h3 : off to_ + left ≤ 4096 * m.n
        · have hmv : Dst.moves ⟨code, head, at_, steps, moved, have_, from_, to_, left, next, asks⟩ m := by
            unfold Dst.moves Dst.burst
            rw [hbu]
            exact ⟨h1, h2, h3⟩
          rw [if_neg (not_not_intro hmv), if_pos hmv]
          unfold Dst.burst
          rw [hbu]
          rw [if_neg hl]
          generalize off to_ = x at HPL2 hol h3 ⊢
          by_cases h4 : next = 0
          · rw [if_pos h4]
            have e1 : (((moved + left) % 4294967296 : Nat) : Int) = ((moved : Int) + (left : Int)) % 4294967296 := by omega
            simp only [Dst.c, Dst.ended, Dst.without]
            rw [e1]
            exact dma_move_done_s head at_ steps moved have_ from_ to_ left next code asks HF (Nat.le_of_not_lt hl) hf ht hm hll (cut m.f (off from_) left) HRD2 hr hrf x hol HPL2 h3 h4
          · rw [if_neg h4]
            have e1 : (((moved + left) % 4294967296 : Nat) : Int) = ((moved : Int) + (left : Int)) % 4294967296 := by omega
            simp only [Dst.c, Dst.without]
            rw [e1]
            exact dma_move_chain_s head at_ steps moved have_ from_ to_ left next code asks HF (Nat.le_of_not_lt hl) hf ht hm hll (cut m.f (off from_) left) HRD2 hr hrf x hol HPL2 h3 h4
        · have hmv : ¬ Dst.moves ⟨code, head, at_, steps, moved, have_, from_, to_, left, next, asks⟩ m := by
            unfold Dst.moves Dst.burst
            rw [hbu]
            exact fun h => h3 h.2.2
          rw [if_pos hmv, if_neg hmv]
          generalize off to_ = x at HPL2 hol h3 ⊢
          exact dma_move_nowrite_s head at_ steps moved have_ from_ to_ left next code asks HF (Nat.le_of_not_lt hl) hf ht hm hll (cut m.f (off from_) left) HRD2 hr hrf x hol HPL2 (Nat.lt_of_not_le h3)
      · have hmv : ¬ Dst.moves ⟨code, head, at_, steps, moved, have_, from_, to_, left, next, asks⟩ m := by
          unfold Dst.moves Dst.burst
          rw [hbu]
          exact fun h => h2 h.2.1
        rw [if_pos hmv, if_neg hmv]
        rw [decide_eq_false h2] at HPL
        exact dma_move_noplace_s head at_ steps moved have_ from_ to_ left next code asks HF (Nat.le_of_not_lt hl) hf ht hm hll (cut m.f (off from_) left) HRD2 hr hrf HPL
    · have hmv : ¬ Dst.moves ⟨code, head, at_, steps, moved, have_, from_, to_, left, next, asks⟩ m := by
        unfold Dst.moves Dst.burst
        rw [hbu]
        exact fun h => h1 h.1
      rw [if_pos hmv, if_neg hmv]
      rw [decide_eq_false h1] at HRD
      exact dma_move_norange_s head at_ steps moved have_ from_ to_ left next code asks HF (Nat.le_of_not_lt hl) hf ht hm hll HRD hr hrf _ HPL
end Go.Proofs.YtcakcfeipfjmpaaDoor

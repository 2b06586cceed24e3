/-
What PlicOnce watches, in plain Lean: the state may be, what is busy was served, what waits was asked for.
No condition.
-/
import Derived.Test.YtenafjdlaefepaaDoorPlicBest
import Derived.Test.YtenafjdlaefepaaDoorPlicWrite
namespace Go.Proofs.YtenafjdlaefepaaDoor
open Go.RowKit

theorem bit254 (i : Nat) : (254 : Nat).testBit i = decide (1 ≤ i ∧ i < 8) := by
  by_cases hi : i < 8
  · have : i = 0 ∨ i = 1 ∨ i = 2 ∨ i = 3 ∨ i = 4 ∨ i = 5 ∨ i = 6 ∨ i = 7 := by omega
    rcases this with rfl | rfl | rfl | rfl | rfl | rfl | rfl | rfl <;> decide
  · have : (254 : Nat).testBit i = false := Nat.testBit_lt_two_pow (Nat.lt_of_lt_of_le (by decide : 254 < 2 ^ 8) (Nat.pow_le_pow_right (by omega) (by omega)))
    rw [this]; symm; simp; omega
/-- Only the bits of the sources 1 to 7. -/
def Src (x : Nat) : Prop := ∀ i, x.testBit i = true → 1 ≤ i ∧ i < 8
theorem src_iff (x : Nat) (hx : x < 4294967296) : x &&& (4294967295 - 254) = 0 ↔ Src x := by
  constructor
  · intro h i hi
    have h2 := congrArg (fun y => y.testBit i) h
    simp only [Nat.testBit_and, testBit_not32 254 i (by decide), bit254, Nat.zero_testBit, hi, Bool.true_and] at h2
    by_cases h32 : i < 32
    · simp only [h32, decide_true, Bool.true_and] at h2
      simpa using h2
    · rw [testBit_ge x i hx (by omega)] at hi
      exact absurd hi (by simp)
  · intro h
    apply Nat.eq_of_testBit_eq
    intro i
    rw [Nat.testBit_and, testBit_not32 254 i (by decide), bit254, Nat.zero_testBit]
    cases hb : x.testBit i
    · rfl
    · have := h i hb
      simp [this]
theorem Src.or {a b : Nat} (ha : Src a) (hb : Src b) : Src (a ||| b) := fun i h => by
  rw [Nat.testBit_or, Bool.or_eq_true] at h
  exact h.elim (ha i) (hb i)
theorem Src.left {a b : Nat} (h : Src (a ||| b)) : Src a := fun i hi => h i (by rw [Nat.testBit_or, hi]; rfl)
theorem Src.right {a b : Nat} (h : Src (a ||| b)) : Src b := fun i hi => h i (by rw [Nat.testBit_or, hi]; simp)
theorem Src.and {a b : Nat} (h : Src a) : Src (a &&& b) := fun i hi => h i (by rw [Nat.testBit_and, Bool.and_eq_true] at hi; exact hi.1)
theorem Src.zero : Src 0 := fun i h => by simp at h
theorem Src.pow {n : Nat} (h1 : 1 ≤ n) (h7 : n ≤ 7) : Src (2 ^ n) := fun i h => by
  rw [Nat.testBit_two_pow] at h
  have : n = i := by simpa using h
  omega
theorem Src.m254 (v : Nat) : Src (v &&& 254) := fun i h => by
  rw [Nat.testBit_and, Bool.and_eq_true, bit254] at h
  simpa using h.2
theorem not_pow_bit (n i : Nat) (hn : n ≤ 7) : (4294967295 - 2 ^ n).testBit i = (decide (i < 32) && !decide (n = i)) := by
  rw [testBit_not32 _ _ (two_pow_lt (by omega)), Nat.testBit_two_pow]

/-- A state of plic that may be. -/
def PS.okc (s : PS) : Prop := (∀ i, i < 8 → s.pri i ≤ 7) ∧ s.p0 = 0 ∧ s.th ≤ 7 ∧ Src (s.en ||| s.pe ||| s.bu)
structure OnceI (s : PS) (sv ak : Nat → Bool) : Prop where
  ok : s.okc
  wf : s.wf
  busy : ∀ n, 1 ≤ n → n ≤ 7 → s.bu.testBit n = sv n
  pend : ∀ n, 1 ≤ n → n ≤ 7 → s.pe.testBit n = true → ak n = true ∧ sv n = false
def upd (f : Nat → Bool) (n : Nat) (b : Bool) : Nat → Bool := fun i => if i = n then b else f i
theorem once_start (s : PS) (h : s.okc) (hw : s.wf) : OnceI { s with pe := 0, bu := 0 } (fun _ => false) (fun _ => false) := by
  refine ⟨⟨h.1, h.2.1, h.2.2.1, ?_⟩, ⟨hw.h0, hw.h1, hw.h2, hw.h3, hw.h4, hw.h5, hw.h6, hw.h7, hw.hen, hw.hth, (show (0 : Nat) < 4294967296 by decide), (show (0 : Nat) < 4294967296 by decide)⟩, fun n _ _ => by simp, fun n _ _ hp => by simp at hp⟩
  show Src (s.en ||| 0 ||| 0)
  rw [Nat.or_zero, Nat.or_zero]
  exact h.2.2.2.left.left
theorem best_what (s : PS) : s.best ≠ 0 → s.mask.testBit s.best = true ∧ s.th < s.pri s.best := by
  have key : ∀ k, (bestK s.mask s.pri s.th k).1 ≠ 0 → s.mask.testBit (bestK s.mask s.pri s.th k).1 = true ∧ s.th < s.pri (bestK s.mask s.pri s.th k).1 := by
    have top : ∀ k, s.th ≤ (bestK s.mask s.pri s.th k).2 := by
      intro k
      induction k with
      | zero => exact Nat.le_refl _
      | succ k ih =>
        simp only [bestK]
        split
        · rename_i h; exact Nat.le_trans ih (Nat.le_of_lt h.2)
        · exact ih
    intro k
    induction k with
    | zero => intro h; exact absurd rfl h
    | succ k ih =>
      simp only [bestK]
      split
      · rename_i h; intro _; exact ⟨h.1, Nat.lt_of_le_of_lt (top k) h.2⟩
      · exact ih
  exact key 8
theorem claim_zero (s : PS) (h : s.best = 0) : s.claim = s := if_pos h
theorem once_claim (s : PS) (sv ak : Nat → Bool) (h : OnceI s sv ak) (hb : s.best ≠ 0) :
    sv s.best = false ∧ ak s.best = true ∧ s.claim.th < s.claim.pri s.best ∧ OnceI s.claim (upd sv s.best true) (upd ak s.best false) := by
  obtain ⟨hm, ht⟩ := best_what s hb
  have h7 := best_le7 s
  have e : s.claim = { s with pe := s.pe &&& (4294967295 - 2 ^ s.best), bu := s.bu ||| 2 ^ s.best } := if_neg hb
  have hm' : s.pe.testBit s.best = true := by
    unfold PS.mask at hm
    rw [Nat.testBit_and, Nat.testBit_and] at hm
    simp only [Bool.and_eq_true] at hm
    exact hm.1.1
  rw [e]
  generalize s.best = n at *
  have hp := h.pend n (by omega) h7 hm'
  have hsrc := h.ok.2.2.2
  refine ⟨hp.2, hp.1, ht, ⟨⟨h.ok.1, h.ok.2.1, h.ok.2.2.1, ?_⟩, ?_, fun i h1 h2 => ?_, fun i h1 h2 hi => ?_⟩⟩
  · exact (hsrc.left.left.or hsrc.left.right.and).or (hsrc.right.or (Src.pow (by omega) h7))
  · have hw := h.wf
    exact ⟨hw.h0, hw.h1, hw.h2, hw.h3, hw.h4, hw.h5, hw.h6, hw.h7, hw.hen, hw.hth, Nat.lt_of_le_of_lt Nat.and_le_left hw.hpe, Nat.or_lt_two_pow (n := 32) hw.hbu (two_pow_lt (by omega))⟩
  · show (s.bu ||| 2 ^ n).testBit i = upd sv n true i
    rw [Nat.testBit_or, Nat.testBit_two_pow, h.busy i h1 h2]
    unfold upd
    by_cases hi : i = n
    · subst hi; simp
    · rw [if_neg hi]; simp; omega
  · have hi' : (s.pe &&& (4294967295 - 2 ^ n)).testBit i = true := hi
    rw [Nat.testBit_and, not_pow_bit n i h7] at hi'
    simp only [Bool.and_eq_true, Bool.not_eq_true', decide_eq_false_iff_not, decide_eq_true_eq] at hi'
    obtain ⟨k1, _, k2⟩ := hi'
    have := h.pend i h1 h2 k1
    have hne : ¬ i = n := fun e => k2 e.symm
    unfold upd
    rw [if_neg hne, if_neg hne]
    exact this
theorem once_done (s : PS) (sv ak : Nat → Bool) (h : OnceI s sv ak) (v : Nat) (hv : v < 9) :
    (writeN s 2097156 v).2 = 0 ∧ OnceI (writeN s 2097156 v).1 (if v < 8 then upd sv v false else sv) ak := by
  have e : writeN s 2097156 v = if 1 ≤ v ∧ v ≤ 7 then ({ s with bu := s.bu &&& (4294967295 - 2 ^ v) }, 0) else (s, 0) := by
    rw [writeN_out _ _ _ (by omega)]; rfl
  rw [e]
  by_cases hc : 1 ≤ v ∧ v ≤ 7
  · rw [if_pos hc, if_pos (by omega)]
    have hsrc := h.ok.2.2.2
    refine ⟨rfl, ⟨⟨h.ok.1, h.ok.2.1, h.ok.2.2.1, hsrc.left.or hsrc.right.and⟩, ?_, fun i h1 h2 => ?_, fun i h1 h2 hi => ?_⟩⟩
    · have hw := h.wf
      exact ⟨hw.h0, hw.h1, hw.h2, hw.h3, hw.h4, hw.h5, hw.h6, hw.h7, hw.hen, hw.hth, hw.hpe, Nat.lt_of_le_of_lt Nat.and_le_left hw.hbu⟩
    · show (s.bu &&& (4294967295 - 2 ^ v)).testBit i = upd sv v false i
      rw [Nat.testBit_and, not_pow_bit v i hc.2, h.busy i h1 h2]
      unfold upd
      by_cases hi : i = v
      · subst hi; simp
      · rw [if_neg hi]
        have h3 : ¬ v = i := fun e => hi e.symm
        have h4 : i < 32 := by omega
        simp [h3, h4]
    · have := h.pend i h1 h2 hi
      refine ⟨this.1, ?_⟩
      unfold upd
      split
      · rfl
      · exact this.2
  · rw [if_neg hc]
    refine ⟨rfl, ⟨h.ok, h.wf, fun i h1 h2 => ?_, fun i h1 h2 hi => ?_⟩⟩
    · show s.bu.testBit i = _
      rw [h.busy i h1 h2]
      split
      · unfold upd; rw [if_neg (by omega)]
      · rfl
    · have := h.pend i h1 h2 hi
      refine ⟨this.1, ?_⟩
      split
      · unfold upd; rw [if_neg (by omega)]; exact this.2
      · exact this.2
theorem setP_same (s : PS) (n x : Nat) : (s.setP n x).en = s.en ∧ (s.setP n x).th = s.th ∧ (s.setP n x).pe = s.pe ∧ (s.setP n x).bu = s.bu ∧ (s.setP n x).p0 = s.p0 := by
  unfold PS.setP
  repeat' split
  all_goals exact ⟨rfl, rfl, rfl, rfl, rfl⟩
theorem setP_pri (s : PS) (n x i : Nat) (hi : i < 8) : (s.setP n x).pri i = s.pri i ∨ (s.setP n x).pri i = x := by
  have : i = 0 ∨ i = 1 ∨ i = 2 ∨ i = 3 ∨ i = 4 ∨ i = 5 ∨ i = 6 ∨ i = 7 := by omega
  unfold PS.setP
  repeat' split
  all_goals (rcases this with rfl | rfl | rfl | rfl | rfl | rfl | rfl | rfl <;> first | exact .inl rfl | exact .inr rfl)
theorem setP_wf (s : PS) (n x : Nat) (hw : s.wf) (hx : x < 4294967296) : (s.setP n x).wf := by
  obtain ⟨h0, h1, h2, h3, h4, h5, h6, h7, h8, h9, h10, h11⟩ := hw
  unfold PS.setP
  repeat' split
  · exact ⟨h0, hx, h2, h3, h4, h5, h6, h7, h8, h9, h10, h11⟩
  · exact ⟨h0, h1, hx, h3, h4, h5, h6, h7, h8, h9, h10, h11⟩
  · exact ⟨h0, h1, h2, hx, h4, h5, h6, h7, h8, h9, h10, h11⟩
  · exact ⟨h0, h1, h2, h3, hx, h5, h6, h7, h8, h9, h10, h11⟩
  · exact ⟨h0, h1, h2, h3, h4, hx, h6, h7, h8, h9, h10, h11⟩
  · exact ⟨h0, h1, h2, h3, h4, h5, hx, h7, h8, h9, h10, h11⟩
  · exact ⟨h0, h1, h2, h3, h4, h5, h6, hx, h8, h9, h10, h11⟩
  · exact ⟨h0, h1, h2, h3, h4, h5, h6, h7, h8, h9, h10, h11⟩
theorem once_write (s : PS) (sv ak : Nat → Bool) (h : OnceI s sv ak) (at_ v : Nat) (ha : at_ ≠ 2097156) (he : (writeN s at_ v).2 = 0) : OnceI (writeN s at_ v).1 sv ak := by
  have hw := h.wf
  have hsrc := h.ok.2.2.2
  have hv : v % 8 < 8 := Nat.mod_lt _ (by omega)
  by_cases h1 : at_ % 4 = 0 ∧ at_ / 4 ≤ 7
  · have e : writeN s at_ v = (s.setP (at_ / 4) (v % 8), 0) := by unfold writeN; rw [if_pos h1]
    rw [e]
    obtain ⟨e1, e2, e3, e4, e5⟩ := setP_same s (at_ / 4) (v % 8)
    refine ⟨⟨fun i hi => ?_, e5.trans h.ok.2.1, by rw [e2]; exact h.ok.2.2.1, by rw [e1, e3, e4]; exact hsrc⟩, setP_wf s _ _ hw (by omega), fun i k1 k2 => by rw [e4]; exact h.busy i k1 k2, fun i k1 k2 k3 => h.pend i k1 k2 (by rw [← e3]; exact k3)⟩
    rcases setP_pri s (at_ / 4) (v % 8) i hi with k | k
    · rw [k]; exact h.ok.1 i hi
    · rw [k]; omega
  rw [writeN_out _ _ _ h1] at he ⊢
  by_cases h2 : at_ = 4096
  · rw [if_pos h2]; exact h
  rw [if_neg h2] at he ⊢
  by_cases h3 : at_ = 8192
  · rw [if_pos h3]
    exact ⟨⟨h.ok.1, h.ok.2.1, h.ok.2.2.1, ((Src.m254 v).or hsrc.left.right).or hsrc.right⟩, ⟨hw.h0, hw.h1, hw.h2, hw.h3, hw.h4, hw.h5, hw.h6, hw.h7, Nat.lt_of_le_of_lt Nat.and_le_right (by decide), hw.hth, hw.hpe, hw.hbu⟩, h.busy, h.pend⟩
  rw [if_neg h3] at he ⊢
  by_cases h4 : at_ = 2097152
  · rw [if_pos h4]
    exact ⟨⟨h.ok.1, h.ok.2.1, (show v % 8 ≤ 7 by omega), hsrc⟩, ⟨hw.h0, hw.h1, hw.h2, hw.h3, hw.h4, hw.h5, hw.h6, hw.h7, hw.hen, (show v % 8 < 4294967296 by omega), hw.hpe, hw.hbu⟩, h.busy, h.pend⟩
  rw [if_neg h4, if_neg ha] at he
  exact absurd he (by decide)
/-- What was asked, when the sources below k were gone over. -/
def askK (sv ak : Nat → Bool) (v k : Nat) : Nat → Bool := fun i => if 1 ≤ i ∧ i < k then ak i || (v.testBit i && !sv i) else ak i
theorem once_level (s : PS) (sv ak : Nat → Bool) (h : OnceI s sv ak) (v : Nat) (hv : v < 4294967296) : OnceI { s with pe := levelN s.pe s.bu v } sv (askK sv ak v 8) := by
  have hw := h.wf
  have hsrc := h.ok.2.2.2
  have hs2 : Src (levelN s.pe s.bu v) := hsrc.left.right.or (Src.m254 v).and
  refine ⟨⟨h.ok.1, h.ok.2.1, h.ok.2.2.1, (hsrc.left.left.or hs2).or hsrc.right⟩, ?_, h.busy, fun i h1 h2 hi => ?_⟩
  · exact ⟨hw.h0, hw.h1, hw.h2, hw.h3, hw.h4, hw.h5, hw.h6, hw.h7, hw.hen, hw.hth, levelN_lt _ _ _ hw.hpe hv, hw.hbu⟩
  · have hi' : (levelN s.pe s.bu v).testBit i = true := hi
    unfold levelN at hi'
    rw [Nat.testBit_or, Nat.testBit_and, Nat.testBit_and, testBit_not32 _ _ hw.hbu, h.busy i h1 h2] at hi'
    unfold askK
    rw [if_pos (by omega)]
    cases hp : s.pe.testBit i
    · rw [hp] at hi'
      simp only [Bool.false_or, Bool.and_eq_true, Bool.not_eq_true'] at hi'
      obtain ⟨⟨k1, _⟩, _, k2⟩ := hi'
      exact ⟨by rw [k1, k2]; simp, k2⟩
    · have := h.pend i h1 h2 hp
      exact ⟨by rw [this.1]; rfl, this.2⟩
end Go.Proofs.YtenafjdlaefepaaDoor

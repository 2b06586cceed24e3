/-
The plain law of DmaMoves: orders that follow one another move their bytes.
No condition.
-/
import Derived.Test.YtocbfchmngcgkaaDoorRoundLaw
namespace Go.Proofs.YtocbfchmngcgkaaDoor
open Go.RowKit

def sumK (ks : Nat → Nat) : Nat → Nat
  | 0 => 0
  | j + 1 => sumK ks j + ks j
def durK (ks : Nat → Nat) : Nat → Nat
  | 0 => 0
  | j + 1 => durK ks j + (1 + (ks j + 63) / 64)
def nextK (n j : Nat) : Nat := if j + 1 = n then 0 else 2147483648 + 16 * (j + 1)
theorem sumK_le {ks : Nat → Nat} (h : ∀ j, ks j ≤ 1000) : ∀ j, sumK ks j ≤ 1000 * j
  | 0 => by simp [sumK]
  | j + 1 => by have := sumK_le h j; have := h j; simp only [sumK]; omega
theorem durK_le {ks : Nat → Nat} (h : ∀ j, ks j ≤ 1000) : ∀ j, durK ks j ≤ 17 * j
  | 0 => by simp [durK]
  | j + 1 => by have := durK_le h j; have := h j; simp only [durK]; omega
theorem durK_mono {ks : Nat → Nat} {a b : Nat} (h : a ≤ b) : durK ks a ≤ durK ks b := by
  induction h with
  | refl => exact Nat.le_refl _
  | step h ih => simp only [durK]; omega
theorem nextK_lt {n j : Nat} (h : j < 6) : nextK n j < 4294967296 := by unfold nextK; split <;> omega
/-- The first i orders are laid. -/
structure ListTo (m : Mm) (ks : Nat → Nat) (n i : Nat) : Prop where
  num : m.n = 8
  at_ : ∀ j, j < i → rd4 m.f (16 * j) = 2147487744 + 1024 * j ∧ rd4 m.f (16 * j + 4) = 2147500032 + 1024 * j ∧ rd4 m.f (16 * j + 8) = ks j ∧ rd4 m.f (16 * j + 12) = nextK n j
theorem ListTo.next {m : Mm} {ks : Nat → Nat} {n i : Nat} (h : ListTo m ks n i) (hi : i < 6) (hk : ks i < 4294967296) : ListTo ((((m.store (16 * i) 4 (2147487744 + 1024 * i)).store (16 * i + 4) 4 (2147500032 + 1024 * i)).store (16 * i + 8) 4 (ks i)).store (16 * i + 12) 4 (nextK n i)) ks n (i + 1) := by
  refine ⟨h.num, fun j hj => ?_⟩
  have hv := nextK_lt (n := n) hi
  have l4 : ∀ v, (leB 4 v).length = 4 := fun v => leB_length 4 v
  show rd4 (putL (putL (putL (putL m.f (16 * i) (leB 4 (2147487744 + 1024 * i))) (16 * i + 4) (leB 4 (2147500032 + 1024 * i))) (16 * i + 8) (leB 4 (ks i))) (16 * i + 12) (leB 4 (nextK n i))) (16 * j) = _ ∧ rd4 (putL (putL (putL (putL m.f (16 * i) (leB 4 (2147487744 + 1024 * i))) (16 * i + 4) (leB 4 (2147500032 + 1024 * i))) (16 * i + 8) (leB 4 (ks i))) (16 * i + 12) (leB 4 (nextK n i))) (16 * j + 4) = _ ∧ rd4 (putL (putL (putL (putL m.f (16 * i) (leB 4 (2147487744 + 1024 * i))) (16 * i + 4) (leB 4 (2147500032 + 1024 * i))) (16 * i + 8) (leB 4 (ks i))) (16 * i + 12) (leB 4 (nextK n i))) (16 * j + 8) = _ ∧ rd4 (putL (putL (putL (putL m.f (16 * i) (leB 4 (2147487744 + 1024 * i))) (16 * i + 4) (leB 4 (2147500032 + 1024 * i))) (16 * i + 8) (leB 4 (ks i))) (16 * i + 12) (leB 4 (nextK n i))) (16 * j + 12) = _
  rcases Nat.lt_or_eq_of_le (Nat.lt_succ_iff.1 hj) with hlt | rfl
  · obtain ⟨a, b, c, d⟩ := h.at_ j hlt
    refine ⟨?_, ?_, ?_, ?_⟩
    all_goals
      rw [rd4_out _ _ _ _ (by rw [l4]; omega), rd4_out _ _ _ _ (by rw [l4]; omega), rd4_out _ _ _ _ (by rw [l4]; omega), rd4_out _ _ _ _ (by rw [l4]; omega)]
      assumption
  · refine ⟨?_, ?_, ?_, ?_⟩
    · rw [rd4_out _ _ _ _ (by rw [l4]; omega), rd4_out _ _ _ _ (by rw [l4]; omega), rd4_out _ _ _ _ (by rw [l4]; omega)]
      exact rd4_put _ _ _ (by omega)
    · rw [rd4_out _ _ _ _ (by rw [l4]; omega), rd4_out _ _ _ _ (by rw [l4]; omega)]
      exact rd4_put _ _ _ (by omega)
    · rw [rd4_out _ _ _ _ (by rw [l4]; omega)]
      exact rd4_put _ _ _ hk
    · exact rd4_put _ _ _ hv
theorem ListTo.put {m m' : Mm} {ks : Nat → Nat} {n i : Nat} (h : ListTo m ks n i) (hi : i ≤ 6) (a : Nat) (l : List UInt8) (ha : 96 ≤ a) (hn : m'.n = m.n) (hf : m'.f = putL m.f a l) : ListTo m' ks n i := by
  refine ⟨hn.trans h.num, fun j hj => ?_⟩
  obtain ⟨p, q, r, s⟩ := h.at_ j hj
  rw [hf]
  refine ⟨?_, ?_, ?_, ?_⟩
  all_goals
    rw [rd4_out _ _ _ _ (by omega)]
    assumption

def mvA (ks : Nat → Nat) (j : Nat) : Dst := ⟨1, 2147483648, 2147483648 + 16 * j, j, sumK ks j, false, 0, 0, 0, 0, false⟩
def mvB (ks : Nat → Nat) (n j q : Nat) : Dst := ⟨1, 2147483648, 2147483648 + 16 * j, j + 1, sumK ks j + 64 * q, true, 2147487744 + 1024 * j + 64 * q, 2147500032 + 1024 * j + 64 * q, ks j - 64 * q, nextK n j, false⟩
def DoneTo (m : Mm) (ks : Nat → Nat) (j : Nat) : Prop := ∀ i, i < j → ∀ x, x < ks i → m.f (16384 + 1024 * i + x) = m.f (4096 + 1024 * i + x)
def MoveAt (ks : Nat → Nat) (n t : Nat) (s : Dst) (m : Mm) : Prop := ListTo m ks n n ∧
  ((∃ j, j < n ∧ t = durK ks j ∧ s = mvA ks j ∧ DoneTo m ks j) ∨
   (∃ j q, j < n ∧ 64 * q < ks j ∧ t = durK ks j + 1 + q ∧ s = mvB ks n j q ∧ DoneTo m ks j ∧ ∀ x, x < 64 * q → m.f (16384 + 1024 * j + x) = m.f (4096 + 1024 * j + x)) ∨
   (t = durK ks n ∧ s.code = 2 ∧ s.moved = sumK ks n ∧ s.wf ∧ DoneTo m ks n))
theorem MoveAt.wf {ks : Nat → Nat} {n t : Nat} {s : Dst} {m : Mm} (h : MoveAt ks n t s m) (hn : n ≤ 6) (hk : ∀ j, ks j ≤ 1000) : s.wf := by
  rcases h.2 with ⟨j, hj, _, rfl, _⟩ | ⟨j, q, hj, hq, _, rfl, _⟩ | ⟨_, _, _, h, _⟩
  · have := sumK_le hk j
    constructor <;> simp only [mvA] <;> omega
  · have := sumK_le hk j
    have := hk j
    have := nextK_lt (n := n) (j := j) (by omega)
    constructor <;> simp only [mvB] <;> omega
  · exact h
theorem MoveAt.code {ks : Nat → Nat} {n t : Nat} {s : Dst} {m : Mm} (h : MoveAt ks n t s m) (ht : t < durK ks n) : s.code = 1 := by
  rcases h.2 with ⟨j, hj, _, rfl, _⟩ | ⟨j, q, hj, hq, _, rfl, _⟩ | ⟨h, _⟩
  · rfl
  · rfl
  · omega
theorem MoveAt.last {ks : Nat → Nat} {n t : Nat} {s : Dst} {m : Mm} (h : MoveAt ks n t s m) (ht : t = durK ks n) : s.code = 2 ∧ s.moved = sumK ks n ∧ DoneTo m ks n := by
  rcases h.2 with ⟨j, hj, h1, rfl, _⟩ | ⟨j, q, hj, hq, h1, rfl, _⟩ | ⟨_, a, b, _, c⟩
  · have h2 := durK_mono (ks := ks) (show j + 1 ≤ n by omega)
    simp only [durK] at h2
    omega
  · have h2 := durK_mono (ks := ks) (show j + 1 ≤ n by omega)
    simp only [durK] at h2
    omega
  · exact ⟨a, b, c⟩
theorem Mm.write_n (m : Mm) (a : Nat) (l : List UInt8) : (m.write a l).n = m.n := by unfold Mm.write; rfl
theorem Mm.write_f (m : Mm) (a : Nat) (l : List UInt8) : (m.write a l).f = putL m.f a l := by unfold Mm.write; rfl
theorem MoveAt.step {ks : Nat → Nat} {n t : Nat} {s : Dst} {m : Mm} (h : MoveAt ks n t s m) (hn : n ≤ 6) (hk : ∀ j, ks j ≤ 1000) (hk1 : ∀ j, 1 ≤ ks j) (hc : s.code = 1) : MoveAt ks n (t + 1) (s.tick m) (s.after m) := by
  obtain ⟨hr, hs⟩ := h
  have hmn := hr.num
  rcases hs with ⟨j, hj, rfl, rfl, hd⟩ | ⟨j, q, hj, hq, rfl, rfl, hd, hx⟩ | ⟨_, h3, _⟩
  · have b1 := sumK_le hk j
    have b2 := hk j
    have b3 := hk1 j
    have hg : (mvA ks j).goes := ⟨⟨by simp [mvA], by simp [mvA], by simp [mvA], by simp only [mvA]; omega, by simp [mvA], by simp [mvA]⟩, rfl⟩
    have ht : (mvA ks j).tick m = (mvA ks j).fetch m := by unfold Dst.tick; rw [if_neg (not_not_intro hg), if_neg (by simp [mvA])]
    have ha : (mvA ks j).after m = m := by unfold Dst.after; rw [if_neg (by simp [mvA])]
    rw [ht, ha]
    refine ⟨hr, .inr (.inl ⟨j, 0, hj, by omega, rfl, ?_, hd, fun x hx => absurd hx (by omega)⟩)⟩
    have ho : off (2147483648 + 16 * j) = 16 * j := off_of rfl
    obtain ⟨w0, w1, w2, w3⟩ := hr.at_ j hj
    have e0 : wordAt m.f (mvA ks j).at_ 0 = 2147487744 + 1024 * j := by
      show wordAt m.f (2147483648 + 16 * j) 0 = _
      rw [wordAt_rd4 _ _ _ (by omega), ho]; exact w0
    have e1 : wordAt m.f (mvA ks j).at_ 1 = 2147500032 + 1024 * j := by
      show wordAt m.f (2147483648 + 16 * j) 1 = _
      rw [wordAt_rd4 _ _ _ (by omega), ho]; exact w1
    have e2 : wordAt m.f (mvA ks j).at_ 2 = ks j := by
      show wordAt m.f (2147483648 + 16 * j) 2 = _
      rw [wordAt_rd4 _ _ _ (by omega), ho]; exact w2
    have e3 : wordAt m.f (mvA ks j).at_ 3 = nextK n j := by
      show wordAt m.f (2147483648 + 16 * j) 3 = _
      rw [wordAt_rd4 _ _ _ (by omega), ho]; exact w3
    unfold Dst.fetch
    rw [if_neg (by
      rintro (h | h | h)
      · simp only [mvA] at h; omega
      · simp only [mvA] at h; omega
      · exact h ⟨by simp only [mvA]; omega, by simp only [mvA]; rw [ho, hmn]; omega⟩)]
    rw [e0, e1, e2, e3, if_neg (by rintro (h | h) <;> omega)]
    simp only [mvA, mvB, Dst.mk.injEq, true_and, and_true]
    omega
  · have b1 := sumK_le hk j
    have b2 := hk j
    have hg : (mvB ks n j q).goes := ⟨⟨by simp [mvB], by simp [mvB], by simp [mvB], by simp only [mvB]; omega, by simp only [mvB]; omega, by simp [mvB]⟩, rfl⟩
    have ht : (mvB ks n j q).tick m = (mvB ks n j q).move m := by unfold Dst.tick; rw [if_neg (not_not_intro hg), if_pos (show (mvB ks n j q).have_ = true from rfl)]
    have ha : (mvB ks n j q).after m = (mvB ks n j q).wrote m := by unfold Dst.after; rw [if_pos ⟨hg, rfl⟩]
    obtain ⟨u, hu⟩ : ∃ u, u = (mvB ks n j q).burst := ⟨_, rfl⟩
    have hu1 : u = if 64 < ks j - 64 * q then 64 else ks j - 64 * q := hu
    have hof : off (mvB ks n j q).from_ = 4096 + 1024 * j + 64 * q := off_of (show (2147487744 + 1024 * j + 64 * q : Nat) = _ by omega)
    have hot : off (mvB ks n j q).to_ = 16384 + 1024 * j + 64 * q := off_of (show (2147500032 + 1024 * j + 64 * q : Nat) = _ by omega)
    have hu2 : u ≤ 64 ∧ 64 * q + u ≤ ks j := by rw [hu1]; split <;> omega
    have hm : (mvB ks n j q).moves m := ⟨⟨by simp only [mvB]; omega, by rw [hmn, hof, ← hu]; omega⟩, ⟨by simp only [mvB]; omega, by rw [hmn, hot, ← hu]; omega⟩⟩
    obtain ⟨m', hm'⟩ : ∃ m', m' = (mvB ks n j q).wrote m := ⟨_, rfl⟩
    have hmf : m'.f = putL m.f (16384 + 1024 * j + 64 * q) (cut m.f (4096 + 1024 * j + 64 * q) u) := by
      rw [hm']; unfold Dst.wrote; rw [if_pos hm, hof, hot, ← hu, Mm.write_f]
    have hmn' : m'.n = m.n := by rw [hm']; unfold Dst.wrote; rw [if_pos hm, Mm.write_n]
    have hr' : ListTo m' ks n n := hr.put hn _ _ (by omega) hmn' hmf
    have hout : ∀ x, x < 16384 + 1024 * j + 64 * q → m'.f x = m.f x := fun x hx => by rw [hmf]; exact putL_out _ _ _ _ (.inl hx)
    have hin : ∀ x, x < u → m'.f (16384 + 1024 * j + 64 * q + x) = m.f (4096 + 1024 * j + 64 * q + x) := fun x hx => by
      rw [hmf, putL_get _ _ _ _ (by rw [cut_length]; exact hx)]
      simp [cut]
    have hd' : DoneTo m' ks j := fun i hi x hx => by
      have := hk i
      rw [hout _ (by omega), hout _ (by omega)]
      exact hd i hi x hx
    have hx' : ∀ x, x < 64 * q + u → m'.f (16384 + 1024 * j + x) = m'.f (4096 + 1024 * j + x) := fun x hx2 => by
      rw [hout (4096 + 1024 * j + x) (by omega)]
      by_cases h1 : x < 64 * q
      · rw [hout _ (by omega)]
        exact hx x h1
      · obtain ⟨y, rfl⟩ : ∃ y, x = 64 * q + y := ⟨x - 64 * q, by omega⟩
        have := hin y (by omega)
        rw [← Nat.add_assoc, ← Nat.add_assoc]
        exact this
    rw [ht, ha, ← hm']
    refine ⟨hr', ?_⟩
    unfold Dst.move
    rw [if_neg (not_not_intro hm)]
    by_cases h64 : 64 < ks j - 64 * q
    · rw [if_pos h64] at hu1
      subst hu1
      right; left
      refine ⟨j, q + 1, hj, by omega, by omega, ?_, hd', fun x hx2 => hx' x (by omega)⟩
      rw [if_pos (show 64 < (mvB ks n j q).left from h64)]
      simp only [mvB, Dst.mk.injEq, true_and, and_true]
      omega
    · rw [if_neg h64] at hu1
      have hd2 : DoneTo m' ks (j + 1) := fun i hi x hx2 => by
        rcases Nat.lt_or_eq_of_le (Nat.lt_succ_iff.1 hi) with h | rfl
        · exact hd' i h x hx2
        · exact hx' x (by omega)
      have hdur : durK ks j + 1 + q + 1 = durK ks (j + 1) := by simp only [durK]; omega
      have hsum : sumK ks j + 64 * q + (ks j - 64 * q) = sumK ks (j + 1) := by simp only [sumK]; omega
      have b4 := sumK_le hk (j + 1)
      rw [if_neg (show ¬ 64 < (mvB ks n j q).left from h64)]
      by_cases hl : j + 1 = n
      · subst hl
        right; right
        have hnx : (mvB ks (j + 1) j q).next = 0 := by simp only [mvB, nextK]; rw [if_pos trivial]
        rw [if_pos hnx]
        refine ⟨hdur, rfl, ?_, ?_, hd2⟩
        · simp only [mvB, Dst.ended, Dst.without]; omega
        · constructor <;> simp only [mvB, Dst.ended, Dst.without] <;> omega
      · have hnx : (mvB ks n j q).next = 2147483648 + 16 * (j + 1) := by simp only [mvB, nextK]; rw [if_neg hl]
        rw [if_neg (by rw [hnx]; omega)]
        left
        refine ⟨j + 1, by omega, hdur, ?_, hd2⟩
        rw [hnx]
        simp only [mvB, mvA, Dst.without, Dst.mk.injEq, true_and, and_true]
        omega
  · exact absurd (h3.symm.trans hc) (by decide)
theorem MoveAt.start {ks : Nat → Nat} {n : Nat} {m : Mm} (h : ListTo m ks n n) (hn : 0 < n) : MoveAt ks n 0 (mvA ks 0) m := ⟨h, .inl ⟨0, hn, rfl, rfl, fun i hi => absurd hi (by omega)⟩⟩
theorem DoneTo.eq {m : Mm} {ks : Nat → Nat} {n j : Nat} (h : DoneTo m ks n) (hj : j < n) : cut m.f (4096 + 1024 * j) (ks j) = cut m.f (16384 + 1024 * j) (ks j) := by
  unfold cut
  apply List.map_congr_left
  intro x hx
  exact (h j hj x (List.mem_range.1 hx)).symm
end Go.Proofs.YtocbfchmngcgkaaDoor

/-
What is scattered into parts that lie one behind the other is read again there: the plain law.
No condition.
-/
import Derived.Test.YtcbjlpkkebcmjaaDoorG6

namespace Go.Proofs.YtcbjlpkkebcmjaaDoor
open Go.RowKit
set_option linter.unusedVariables false

/-- Bytes laid into parts. -/
def rscat (m : Mm) : List Sg → List UInt8 → Mm
  | [], _ => m
  | s :: t, b => if s.wr = true ∧ b ≠ [] ∧ s.n ≠ 0 then rscat (m.write (s.at_ - 2147483648) (b.take s.n)) t (b.drop s.n) else rscat m t b
theorem rscat_none (m : Mm) (l : List Sg) : rscat m l [] = m := by
  induction l with
  | nil => rfl
  | cons s t ih => unfold rscat; rw [if_neg (fun h => h.2.1 rfl)]; exact ih
theorem write_nR (m : Mm) (a : Nat) (l : List UInt8) : (m.write a l).n = m.n := by unfold Mm.write; rfl
theorem write_fR (m : Mm) (a : Nat) (l : List UInt8) : (m.write a l).f = putL m.f a l := by unfold Mm.write; rfl
theorem rscat_n (m : Mm) (l : List Sg) (b : List UInt8) : (rscat m l b).n = m.n := by
  induction l generalizing m b with
  | nil => rfl
  | cons s t ih =>
    unfold rscat
    split
    · rw [ih, write_nR]
    · exact ih m b
def wL : Nat → List Nat → List Sg
  | _, [] => []
  | o, n :: t => ⟨2147483648 + o, n, true⟩ :: wL (o + n) t
def rOne (o n k : Nat) : List Sg := if 0 < k then [⟨2147483648 + o, min n k, false⟩] else []
def rL : Nat → Nat → List Nat → List Sg
  | _, _, [] => []
  | o, k, n :: t => rOne o n k ++ rL (o + n) (k - n) t
theorem wL_snoc (o : Nat) (ns : List Nat) (n : Nat) : wL o (ns ++ [n]) = wL o ns ++ [⟨2147483648 + (o + ns.sum), n, true⟩] := by
  induction ns generalizing o with
  | nil => simp [wL]
  | cons x t ih => simp only [List.cons_append, wL, ih, List.sum_cons, Nat.add_assoc]
theorem rL_snoc (o k : Nat) (ns : List Nat) (n : Nat) : rL o k (ns ++ [n]) = rL o k ns ++ rOne (o + ns.sum) n (k - ns.sum) := by
  induction ns generalizing o k with
  | nil => simp [rL]
  | cons x t ih =>
    simp only [List.cons_append, rL, List.sum_cons, List.append_assoc]
    rw [ih, show k - x - t.sum = k - (x + t.sum) by omega, show o + x + t.sum = o + (x + t.sum) by omega]
theorem roomW_wL (o : Nat) (ns : List Nat) : roomW (wL o ns) = ns.sum := by
  induction ns generalizing o with
  | nil => rfl
  | cons x t ih => simp only [wL, roomW, ih, List.sum_cons, if_true]
theorem putL_split (f : Nat → UInt8) (o n : Nat) (b : List UInt8) : putL (putL f o (b.take n)) (o + n) (b.drop n) = putL f o b := by
  funext x
  unfold putL
  by_cases h1 : o ≤ x
  · by_cases h2 : o + n ≤ x
    · rw [if_pos h2, if_pos h1, if_pos h1, List.getElem?_drop, show n + (x - (o + n)) = x - o by omega, List.getElem?_eq_none (l := b.take n) (by rw [List.length_take]; omega)]
      rfl
    · rw [if_neg h2, if_pos h1, if_pos h1, List.getElem?_take, if_pos (by omega)]
  · rw [if_neg h1, if_neg (by omega), if_neg h1]
theorem scat_f (ns : List Nat) (o : Nat) (b : List UInt8) (m : Mm) (h : b.length ≤ ns.sum) : (rscat m (wL o ns) b).f = putL m.f o b := by
  induction ns generalizing o b m with
  | nil =>
    obtain rfl : b = [] := List.eq_nil_of_length_eq_zero (by simpa using h)
    rw [rscat_none, putL_nil]
  | cons n t ih =>
    by_cases hb : b = []
    · subst hb
      rw [rscat_none, putL_nil]
    · unfold wL rscat
      by_cases hn : n = 0
      · subst hn
        rw [if_neg (fun h => h.2.2 rfl)]
        have := ih (o + 0) b m (by simpa using h)
        simpa using this
      · rw [if_pos ⟨rfl, hb, hn⟩]
        simp only
        rw [ih (o + n) (b.drop n) _ (by rw [List.length_drop, List.sum_cons] at *; omega), write_fR, show 2147483648 + o - 2147483648 = o by omega, putL_split]
theorem gath_r (ns : List Nat) (o k : Nat) (m : Mm) (h : k ≤ ns.sum) : gath m (rL o k ns) = cut m.f o k := by
  induction ns generalizing o k with
  | nil =>
    obtain rfl : k = 0 := by simpa using h
    rfl
  | cons n t ih =>
    unfold rL
    have hi := ih (o + n) (k - n) (by rw [List.sum_cons] at h; omega)
    have e : gath m (rOne o n k ++ rL (o + n) (k - n) t) = gath m (rOne o n k) ++ gath m (rL (o + n) (k - n) t) := by simp [gath]
    rw [e, hi]
    unfold rOne
    by_cases hk : 0 < k
    · rw [if_pos hk, show gath m [⟨2147483648 + o, min n k, false⟩] = cut m.f o (min n k) by simp [gath, show 2147483648 + o - 2147483648 = o by omega]]
      by_cases hnk : n ≤ k
      · rw [Nat.min_eq_left hnk, ← cut_add, show n + (k - n) = k by omega]
      · rw [Nat.min_eq_right (by omega), show k - n = 0 by omega, show cut m.f (o + n) 0 = [] from rfl, List.append_nil]
    · obtain rfl : k = 0 := by omega
      rw [if_neg hk, show 0 - n = 0 by omega]
      rfl
theorem cut_putR (f : Nat → UInt8) (o : Nat) (b : List UInt8) : cut (putL f o b) o b.length = b := by
  apply List.ext_getElem (by rw [cut_length])
  intro i h1 h2
  have h := putR_get f o b i h2
  simp [cut, h]
theorem back_law (ns : List Nat) (b : List UInt8) (m : Mm) (h : b.length ≤ ns.sum) : gath (rscat m (wL 0 ns) b) (rL 0 b.length ns) = b := by
  rw [gath_r ns 0 b.length _ h, scat_f ns 0 b m h, cut_putR]
theorem wL_ok (ns : List Nat) (o : Nat) (m : Mm) (hn : m.n = 2) (h : o + ns.sum ≤ 8192) : PartsOk m (wL o ns) := by
  induction ns generalizing o with
  | nil => intro s hs; simp [wL] at hs
  | cons x t ih =>
    rw [List.sum_cons] at h
    intro s hs
    rcases List.mem_cons.1 hs with rfl | hs
    · exact ⟨by show 2147483648 + o < 4294967296; omega, .inr ⟨by show 2147483648 ≤ 2147483648 + o; omega, by show 2147483648 + o - 2147483648 + x ≤ 4096 * m.n; rw [hn]; omega⟩⟩
    · exact ih (o + x) (by omega) s hs
theorem rL_ok (ns : List Nat) (o k : Nat) (m : Mm) (hn : m.n = 2) (h : o + ns.sum ≤ 8192) : PartsOk m (rL o k ns) := by
  induction ns generalizing o k with
  | nil => intro s hs; simp [rL] at hs
  | cons x t ih =>
    rw [List.sum_cons] at h
    unfold rL
    intro s hs
    rcases List.mem_append.1 hs with hs | hs
    · unfold rOne at hs
      split at hs
      · obtain rfl := List.mem_singleton.1 hs
        exact ⟨by show 2147483648 + o < 4294967296; omega, .inr ⟨by show 2147483648 ≤ 2147483648 + o; omega, by show 2147483648 + o - 2147483648 + min x k ≤ 4096 * m.n; rw [hn]; omega⟩⟩
      · simp at hs
    · exact ih (o + x) (k - x) (by omega) s hs
theorem wL_length (ns : List Nat) (o : Nat) : (wL o ns).length = ns.length := by
  induction ns generalizing o with
  | nil => rfl
  | cons x t ih => simp [wL, ih]
theorem rL_length (ns : List Nat) (o k : Nat) : (rL o k ns).length ≤ ns.length := by
  induction ns generalizing o k with
  | nil => simp [rL]
  | cons x t ih =>
    unfold rL rOne
    have := ih (o + x) (k - x)
    split
    · simp; omega
    · simp; omega
end Go.Proofs.YtcbjlpkkebcmjaaDoor

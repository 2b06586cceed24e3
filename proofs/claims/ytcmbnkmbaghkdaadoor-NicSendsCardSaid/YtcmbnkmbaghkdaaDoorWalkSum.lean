/-
What the parts of a chain are, in plain Lean: they lie in memory, and how long they are.
No condition.
-/
import Derived.Test.YtcmbnkmbaghkdaaDoorG6

namespace Go.Proofs.YtcmbnkmbaghkdaaDoor
open Go.RowKit
set_option linter.unusedVariables false

def sumN : List Sg → Nat
  | [] => 0
  | s :: t => s.n + sumN t
theorem sumN_snoc (l : List Sg) (s : Sg) : sumN (l ++ [s]) = sumN l + s.n := by
  induction l with
  | nil => simp [sumN]
  | cons x t ih => simp only [List.cons_append, sumN, ih]; omega
theorem gath_sum (m : Mm) (l : List Sg) : (gath m l).length ≤ sumN l := by
  induction l with
  | nil => simp [gath, sumN]
  | cons s t ih =>
    have e : (gath m (s :: t)).length = (if s.wr then [] else cut m.f (s.at_ - 2147483648) s.n).length + (gath m t).length := by simp [gath]
    rw [e, sumN]
    split
    · simp; omega
    · rw [cut_length]; omega
theorem room_sum (l : List Sg) : roomR l ≤ sumN l ∧ roomW l ≤ sumN l := by
  induction l with
  | nil => exact ⟨Nat.le_refl _, Nat.le_refl _⟩
  | cons s t ih =>
    simp only [roomR, roomW, sumN]
    split <;> omega
theorem rwalkF_ok {de size : Nat} {m : Mm} : ∀ (k : Nat) (a : Int) (sum : Nat) (wr : Bool) (acc l : List Sg), PartsOk m acc → sumN acc = sum → sum ≤ 1048576 → rwalkF de size m k a sum wr acc = some l → PartsOk m l ∧ sumN l ≤ 1048576 ∧ l.length ≤ acc.length + k
  | 0, a, sum, wr, acc, l, h1, h2, h3, h => by simp [rwalkF] at h
  | k + 1, a, sum, wr, acc, l, h1, h2, h3, h => by
    unfold rwalkF at h
    split at h
    · split at h
      · cases h
      · rename_i s nx hd
        have hs := rdesc_small hd
        split at h
        · rename_i hc
          have p1 : PartsOk m (acc ++ [s]) := fun x hx => by
            rcases List.mem_append.1 hx with hx | hx
            · exact h1 x hx
            · obtain rfl := List.mem_singleton.1 hx
              exact ⟨hs.2.2.2.1, hs.2.2.2.2⟩
          have p2 : sumN (acc ++ [s]) = sum + s.n := by rw [sumN_snoc, h2]
          split at h
          · obtain rfl := Option.some.inj h
            exact ⟨p1, by rw [p2]; exact hc.1, by simp⟩
          · have := rwalkF_ok k nx (sum + s.n) s.wr (acc ++ [s]) l p1 p2 hc.1 h
            refine ⟨this.1, this.2.1, ?_⟩
            have h4 := this.2.2
            simp at h4
            omega
        · cases h
    · cases h
theorem rwalk_ok {de size : Nat} {m : Mm} {head : Int} {l : List Sg} (h : rwalk de size m head = some l) : PartsOk m l ∧ sumN l ≤ 1048576 ∧ l.length ≤ size := by
  have := rwalkF_ok size head 0 false [] l (fun x hx => by simp at hx) rfl (by omega) h
  simpa using this
end Go.Proofs.YtcmbnkmbaghkdaaDoor

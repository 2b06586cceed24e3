/-
bytes.Equal, walked.
No condition.
-/
import Derived.Test.YtcakcfeipfjmpaaDoorDmaSure
namespace Go.Proofs.YtcakcfeipfjmpaaDoor
open Go.RowKit

theorem list_eq (a b : List UInt8) : (a == b) = decide (a = b) := by
  by_cases h : a = b
  · rw [decide_eq_true h]
    exact beq_iff_eq.2 h
  · rw [decide_eq_false h]
    exact beq_eq_false_iff_ne.2 h
theorem bytes_Equal {w : World} {ao bo : Option Addr} {la lb : List UInt8} {ca cb : Nat} {F G : Nat → Prop} (ha : BytesAt w ao la F) (hb : BytesAt w bo lb G) :
    Calls Tryd.prog 66 #[.slice ao la.length ca, .slice bo lb.length cb] w fun e w' => e = .returned (.bool (decide (la = lb))) ∧ w = w' := by
  have h1 := str_of_bytes (cap := ca) ha
  have h2 := str_of_bytes (cap := cb) hb
  clear ha hb
  go_enter Tryd.func66, Tryd.ntmps66
  go_wp2_with fail
  go_ret
  exact ⟨by rw [← list_eq]; rfl, rfl⟩
end Go.Proofs.YtcakcfeipfjmpaaDoor

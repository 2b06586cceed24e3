/-
The statement of pinnacelaw14.VirtioHolds: for every input the call answers true and its arguments read as before.
No condition.
-/
import Derived.Test.YtenafjdlaefepaaHolds14
import Derived.Test.YtenafjdlaefepaaOpenVS
import Derived.Test.YtenafjdlaefepaaOpenPairs
import Derived.Test.YtenafjdlaefepaaLiftP
import Derived.Test.YtenafjdlaefepaaRows
namespace Go.Proofs.Ytenafjdlaefepaa
open Go.ChangeShapes Go.WideShapes Go.RowKit

set_option maxRecDepth 100000 in
theorem virtioHolds_lifted (os : Os) (started : os.Started) (H : Type) (enc : TypeId × Value → H) :
    ReturnsInHanded {} Try.checked os 3 .any (Rows.virtioHoldsSpec.pre6 enc Try.prog Try.f3 [] false) (Rows.virtioHoldsSpec.post enc Try.prog Try.f3 false true false false) := by
  refine lift_plain (C := Try.checked) ownP started (by kernel_rfl) Try.func3 rfl rfl Try.underlying4 laidOutP (by kernel_rfl)
    (fun ds h => by match ds, h with | [d0, d1], _ => rfl)
    (ChangeSpec.witness6 (enc := enc) (C := Try.checked) false ⟨#[], #[VS.zero.v, .slice none 0 0], []⟩ 8 (by kernel_rfl) (by kernel_rfl) (by kernel_rfl) (by kernel_rfl)) ?_
  intro W args ds p ⟨base, hval⟩ hA
  rw [show (Try.checked.prog) = Try.prog from rfl] at *
  rw [Try.params3] at hA hval
  obtain ⟨v0, vs0, d0, ds0, p0, q0, hargs, rfl, rfl, h0, r0⟩ := trodAll_cons hA
  obtain ⟨v1, vs1, d1, ds1, p1, q1, rfl, rfl, rfl, h1, r1⟩ := trodAll_cons r0
  obtain ⟨rfl, rfl, rfl⟩ := trodAll_nil r1
  obtain rfl : args = #[v0, v1] := by cases args; simp_all
  obtain ⟨s, rfl, hs⟩ := open_VS (hval 0 31 _ rfl rfl)
  obtain ⟨p1, n, cap, rfl, _, _, HL⟩ := open_pairs Try.underlying32 Try.underlying23 Try.underlying22 (by kernel_rfl) (by kernel_rfl) (hval 1 32 _ rfl rfl) h1
  exact law14_VirtioHolds s hs p1 n cap W HL

theorem virtioHolds_holds : Rows.VirtioHoldsSaid :=
  OpenClaim.holds_of_wide 3 Try.f3 rfl rfl rfl rfl rfl rfl rfl ⟨rfl, rfl, rfl, rfl, rfl⟩ rfl rfl rfl rfl rfl (by kernel_rfl) Try.func3 (by kernel_rfl)
    (of_decide_eq_true (by kernel_rfl)) (by unfold Func.isWrapper; rw [if_neg (of_decide_eq_false (by kernel_rfl))]; exact ⟨rfl, rfl⟩)
    (fun os started H enc _ => virtioHolds_lifted os started H enc)
#print axioms virtioHolds_holds
end Go.Proofs.Ytenafjdlaefepaa

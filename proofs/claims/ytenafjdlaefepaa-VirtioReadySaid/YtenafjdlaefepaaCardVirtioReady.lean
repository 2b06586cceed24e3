/-
The statement of pinnacelaw14.VirtioReady: for every input the call answers true and its arguments read as before.
No condition.
-/
import Derived.Test.YtenafjdlaefepaaReady14
import Derived.Test.YtenafjdlaefepaaOpenVS
import Derived.Test.YtenafjdlaefepaaLiftP
import Derived.Test.YtenafjdlaefepaaRows
namespace Go.Proofs.Ytenafjdlaefepaa
open Go.ChangeShapes Go.WideShapes Go.RowKit

set_option maxRecDepth 100000 in
theorem virtioReady_lifted (os : Os) (started : os.Started) (H : Type) (enc : TypeId × Value → H) :
    ReturnsInHanded {} Try.checked os 4 .any (Rows.virtioReadySpec.pre6 enc Try.prog Try.f4 [] false) (Rows.virtioReadySpec.post enc Try.prog Try.f4 false true false false) := by
  refine lift_plain (C := Try.checked) ownP started (by kernel_rfl) Try.func4 rfl rfl Try.underlying4 laidOutP (by kernel_rfl)
    (fun ds h => by match ds, h with | [d0, d1, d2], _ => rfl)
    (ChangeSpec.witness6 (enc := enc) (C := Try.checked) false ⟨#[], #[VS.zero.v, .int .u32 0, .int .u32 0], []⟩ 8 (by kernel_rfl) (by kernel_rfl) (by kernel_rfl) (by kernel_rfl)) ?_
  intro W args ds p ⟨base, hval⟩ hA
  rw [show (Try.checked.prog) = Try.prog from rfl] at *
  rw [Try.params4] at hA hval
  obtain ⟨v0, vs0, d0, ds0, p0, q0, hargs, rfl, rfl, h0, r0⟩ := trodAll_cons hA
  obtain ⟨v1, vs1, d1, ds1, p1, q1, rfl, rfl, rfl, h1, r1⟩ := trodAll_cons r0
  obtain ⟨v2, vs2, d2, ds2, p2, q2, rfl, rfl, rfl, h2, r2⟩ := trodAll_cons r1
  obtain ⟨rfl, rfl, rfl⟩ := trodAll_nil r2
  obtain rfl : args = #[v0, v1, v2] := by cases args; simp_all
  obtain ⟨s, rfl, hs⟩ := open_VS (hval 0 31 _ rfl rfl)
  obtain ⟨at_, rfl, ha⟩ := open_u32 Try.underlying22 (hval 1 22 _ rfl rfl)
  obtain ⟨v, rfl, hv⟩ := open_u32 Try.underlying22 (hval 2 22 _ rfl rfl)
  exact law14_VirtioReady s hs at_ v hv W

theorem virtioReady_holds : Rows.VirtioReadySaid :=
  OpenClaim.holds_of_wide 4 Try.f4 rfl rfl rfl rfl rfl rfl rfl ⟨rfl, rfl, rfl, rfl, rfl⟩ rfl rfl rfl rfl rfl (by kernel_rfl) Try.func4 (by kernel_rfl)
    (of_decide_eq_true (by kernel_rfl)) (by unfold Func.isWrapper; rw [if_neg (of_decide_eq_false (by kernel_rfl))]; exact ⟨rfl, rfl⟩)
    (fun os started H enc _ => virtioReady_lifted os started H enc)
#print axioms virtioReady_holds
end Go.Proofs.Ytenafjdlaefepaa

/-
The statement of pinnacelaw06.MemBack: for every input the call answers true and its arguments read as before.
No condition.
-/
import Derived.Test.YtaifhmmcnekopaaLawMemBack
import Derived.Test.YtaifhmmcnekopaaOpenBytes
import Derived.Test.YtaifhmmcnekopaaLiftP
import Derived.Test.YtaifhmmcnekopaaRows
import Derived.Test.YtaifhmmcnekopaaOpen
namespace Go.Proofs.Ytaifhmmcnekopaa
open Go.ChangeShapes Go.WideShapes Go.RowKit

set_option maxRecDepth 100000 in
theorem memBack_lifted (os : Os) (started : os.Started) (H : Type) (enc : TypeId × Value → H) :
    ReturnsInHanded {} Try.checked os 3 .any (Rows.memBackSpec.pre6 enc Try.prog Try.f3 [] false) (Rows.memBackSpec.post enc Try.prog Try.f3 false true false false) := by
  refine lift_plain (C := Try.checked) ownP started (by kernel_rfl) Try.func3 rfl rfl Try.underlying4 laidOutP (by kernel_rfl)
    (fun ds h => by match ds, h with | [d0, d1, d2], _ => rfl)
    (ChangeSpec.witness6 (enc := enc) (C := Try.checked) false ⟨#[], #[.int .u32 0, .slice none 0 0, .int .u32 0], []⟩ 8 (by kernel_rfl) (by kernel_rfl) (by kernel_rfl) (by kernel_rfl)) ?_
  intro W args ds p ⟨base, hval⟩ hA
  rw [show (Try.checked.prog) = Try.prog from rfl] at *
  rw [Try.params3] at hA hval
  obtain ⟨v0, vs0, d0, ds0, p0, q0, hargs, rfl, rfl, h0, r0⟩ := trodAll_cons hA
  obtain ⟨v1, vs1, d1, ds1, p1, q1, rfl, rfl, rfl, h1, r1⟩ := trodAll_cons r0
  obtain ⟨v2, vs2, d2, ds2, p2, q2, rfl, rfl, rfl, h2, r2⟩ := trodAll_cons r1
  obtain ⟨rfl, rfl, rfl⟩ := trodAll_nil r2
  obtain rfl : args = #[v0, v1, v2] := by cases args; simp_all
  obtain ⟨at_, rfl, ha⟩ := open_u32 Try.underlying22 (hval 0 22 _ rfl rfl)
  obtain ⟨p1, l1, cap1, rfl, hc1, hm1, HL⟩ := open_bytes Try.underlying23 Try.underlying5 (by kernel_rfl) (hval 1 23 _ rfl rfl) h1
  obtain ⟨k, rfl, hk⟩ := open_u32 Try.underlying22 (hval 2 22 _ rfl rfl)
  exact law_MemBack at_ k ha hk p1 l1 cap1 W hc1 hm1 HL

theorem memBack_holds : Rows.MemBackSaid :=
  OpenClaim.holds_of_wide 3 Try.f3 rfl rfl rfl rfl rfl rfl rfl ⟨rfl, rfl, rfl, rfl, rfl⟩ rfl rfl rfl rfl rfl (by kernel_rfl) Try.func3 (by kernel_rfl)
    (of_decide_eq_true (by kernel_rfl)) (by unfold Func.isWrapper; rw [if_neg (of_decide_eq_false (by kernel_rfl))]; exact ⟨rfl, rfl⟩)
    (fun os started H enc _ => memBack_lifted os started H enc)
#print axioms memBack_holds
end Go.Proofs.Ytaifhmmcnekopaa

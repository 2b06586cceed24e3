/-
The statement of pinnacelaw06.MemNew: for every input the call answers true and its arguments read as before.
No condition: the tied card.
-/
import Derived.Test.YtcakcfeipfjmpaaDoorLawMemNew
import Derived.Test.YtcakcfeipfjmpaaDoorLaidErr2
import Derived.Test.YtcakcfeipfjmpaaDoorOpen
import Derived.Test.YtcakcfeipfjmpaaDoorCards
import Derived.Test.YtcakcfeipfjmpaaDoorTie
import Derived.SevenTiedAt
namespace Go.Proofs.YtcakcfeipfjmpaaDoor
open Go.ChangeShapes Go.WideShapes Go.RowKit

set_option maxRecDepth 100000 in
theorem memNew_lifted (os : Os) (started : os.Started) (H : Type) (enc : TypeId × Value → H) :
    ReturnsInHanded {} Tryd.checked os 7 .any (fun w args => (Rows.memNewSpec.pre enc Tryd.prog Tryd.f7 [] false w args ∧ laidMetH Tryd.prog Rows.memNewRow.laid w) ∧ sizedMet enc Tryd.prog Tryd.f7 (OpenSpec.ofChange Rows.memNewSpec) false w args)
      (Rows.memNewSpec.post enc Tryd.prog Tryd.f7 false true false false) := by
  refine lift_laid (C := Tryd.checked) Rows.memNewRow.laid own started (by kernel_rfl) Tryd.func7 rfl rfl Tryd.underlying4 laidOut (by kernel_rfl)
    (fun ds h => by match ds, h with | [d0], _ => rfl)
    (ChangeSpec.witness_at (enc := enc) (C := Tryd.checked) (os := os) (X := fun w _ => laidMetH Tryd.prog Rows.memNewRow.laid w) false (laidWorld2 os) #[.int .i64 0] 8 rfl (by kernel_rfl) (by kernel_rfl) (by kernel_rfl) (by kernel_rfl) (by kernel_rfl) (laid_err2 os _)) ?_
  intro W args ds p ⟨base, hval⟩ hA hsz hL
  rw [show (Tryd.checked.prog) = Tryd.prog from rfl] at *
  rw [Tryd.params7] at hA hval hsz
  obtain ⟨v0, vs0, d0, ds0, p0, q0, hargs, rfl, rfl, h0, r0⟩ := trodAll_cons hA
  obtain ⟨rfl, rfl, rfl⟩ := trodAll_nil r0
  obtain rfl : args = #[v0] := by cases args; simp_all
  obtain ⟨n, rfl, _, _⟩ := open_i64 Tryd.underlying3 (hval 0 3 _ rfl rfl)
  exact law_MemNew n W (err_of_laid hL)

theorem memNew_holds : Rows.MemNewSaid :=
  OpenClaim.holds_of_wide 7 Tryd.f7 rfl rfl rfl rfl rfl rfl rfl ⟨rfl, rfl, rfl, rfl, rfl⟩ rfl rfl rfl rfl rfl (by kernel_rfl) Tryd.func7 (by kernel_rfl)
    (of_decide_eq_true (by kernel_rfl)) (by unfold Func.isWrapper; rw [if_neg (of_decide_eq_false (by kernel_rfl))]; exact ⟨rfl, rfl⟩)
    (fun os started H enc _ => memNew_lifted os started H enc)

theorem memNew_card_holds : Rows.MemNewCardSaid :=
  Claim7.holds_tied_plain_at .later [] [.handle] true (Rows.memNewCard.stood.harness) true
    memNew_holds (fun _ h => by cases h) (by kernel_rfl) (fun _ h => by cases h) memNew_row_tie rfl ⟨rfl, rfl⟩ (by kernel_rfl) rfl
    (fun f fn hf hfn => by
      obtain rfl : f = 7 := Option.some.inj ((show Tryd.prog.funcNamed "pinnace/pinnacelaw06.MemNew" = some 7 by kernel_rfl).symm.trans hf) |>.symm
      obtain rfl : fn = Tryd.f7 := (Option.some.inj (Tryd.func7.symm.trans hfn)).symm
      exact ⟨by kernel_rfl, fun j t ht => by
        rw [Tryd.params7] at ht
        have h3 : t = 3 := by
          match j, ht with
          | 0, ht => exact by simpa using ht.symm
          | j + 1, ht => simp at ht
        rcases h3 with rfl
        · exact (show Tryd.prog.wantsStandIn 3 = false by kernel_rfl)⟩)
    (by kernel_rfl)
#print axioms memNew_card_holds
end Go.Proofs.YtcakcfeipfjmpaaDoor

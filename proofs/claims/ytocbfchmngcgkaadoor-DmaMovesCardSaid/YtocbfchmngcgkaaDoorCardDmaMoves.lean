/-
The statement of pinnacelaw12.DmaMoves: for every input the call answers true and its arguments read as before.
No condition: the tied card.
-/
import Derived.Test.YtocbfchmngcgkaaDoorMovesArg
import Derived.Test.YtocbfchmngcgkaaDoorLaidReg
import Derived.Test.YtocbfchmngcgkaaDoorOpen
import Derived.Test.YtocbfchmngcgkaaDoorCards
import Derived.Test.YtocbfchmngcgkaaDoorTie
import Derived.SevenTiedAt
namespace Go.Proofs.YtocbfchmngcgkaaDoor
open Go.ChangeShapes Go.WideShapes Go.RowKit

set_option maxRecDepth 100000 in
theorem dmaMoves_lifted (os : Os) (started : os.Started) (H : Type) (enc : TypeId × Value → H) :
    ReturnsInHanded {} Tryd.checked os 4 .any (fun w args => (Rows.dmaMovesSpec.pre enc Tryd.prog Tryd.f4 [] false w args ∧ laidMetH Tryd.prog Rows.dmaMovesRow.laid w) ∧ sizedMet enc Tryd.prog Tryd.f4 (OpenSpec.ofChange Rows.dmaMovesSpec) false w args)
      (Rows.dmaMovesSpec.post enc Tryd.prog Tryd.f4 false true false false) := by
  refine lift_laid (C := Tryd.checked) Rows.dmaMovesRow.laid own started (by kernel_rfl) Tryd.func4 rfl rfl Tryd.underlying4 laidOut (by kernel_rfl)
    (fun ds h => by match ds, h with | [d0], _ => rfl)
    (ChangeSpec.witness_at (enc := enc) (C := Tryd.checked) (os := os) (X := fun w _ => laidMetH Tryd.prog Rows.dmaMovesRow.laid w) false (laidWorld os) #[.slice none 0 0] 8 rfl (by kernel_rfl) (by kernel_rfl) (by kernel_rfl) (by kernel_rfl) (by kernel_rfl) (laid_reg os _)) ?_
  intro W args ds p ⟨base, hval⟩ hA hsz hL
  rw [show (Tryd.checked.prog) = Tryd.prog from rfl] at *
  rw [Tryd.params4] at hA hval hsz
  obtain ⟨v0, vs0, d0, ds0, p0, q0, hargs, rfl, rfl, h0, r0⟩ := trodAll_cons hA
  obtain ⟨rfl, rfl, rfl⟩ := trodAll_nil r0
  obtain rfl : args = #[v0] := by cases args; simp_all
  obtain ⟨p1, n, cap, rfl, _, _, HL⟩ := open_ints Tryd.underlying44 Tryd.underlying3 (by kernel_rfl) (hval 0 44 _ rfl rfl) h0
  exact law_DmaMoves p1 n cap W HL (reg_of_laid hL)

theorem dmaMoves_holds : Rows.DmaMovesSaid :=
  OpenClaim.holds_of_wide 4 Tryd.f4 rfl rfl rfl rfl rfl rfl rfl ⟨rfl, rfl, rfl, rfl, rfl⟩ rfl rfl rfl rfl rfl (by kernel_rfl) Tryd.func4 (by kernel_rfl)
    (of_decide_eq_true (by kernel_rfl)) (by unfold Func.isWrapper; rw [if_neg (of_decide_eq_false (by kernel_rfl))]; exact ⟨rfl, rfl⟩)
    (fun os started H enc _ => dmaMoves_lifted os started H enc)

theorem dmaMoves_card_holds : Rows.DmaMovesCardSaid :=
  Claim7.holds_tied_plain_at .later [] [.data] true (Rows.dmaMovesCard.stood.harness) true
    dmaMoves_holds (fun _ h => by cases h) (by kernel_rfl) (fun _ h => by cases h) dmaMoves_row_tie rfl ⟨rfl, rfl⟩ (by kernel_rfl) rfl
    (fun f fn hf hfn => by
      obtain rfl : f = 4 := Option.some.inj ((show Tryd.prog.funcNamed "pinnace/pinnacelaw12.DmaMoves" = some 4 by kernel_rfl).symm.trans hf) |>.symm
      obtain rfl : fn = Tryd.f4 := (Option.some.inj (Tryd.func4.symm.trans hfn)).symm
      exact ⟨by kernel_rfl, fun j t ht => by
        rw [Tryd.params4] at ht
        have h3 : t = 44 := by
          match j, ht with
          | 0, ht => exact by simpa using ht.symm
          | j + 1, ht => simp at ht
        rcases h3 with rfl
        · exact (show Tryd.prog.wantsStandIn 44 = false by kernel_rfl)⟩)
    (by kernel_rfl)
#print axioms dmaMoves_card_holds
end Go.Proofs.YtocbfchmngcgkaaDoor

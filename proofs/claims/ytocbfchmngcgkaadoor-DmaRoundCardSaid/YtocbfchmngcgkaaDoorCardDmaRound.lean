/-
The statement of pinnacelaw12.DmaRound: for every input the call answers true and its arguments read as before.
No condition: the tied card.
-/
import Derived.Test.YtocbfchmngcgkaaDoorDmaRound
import Derived.Test.YtocbfchmngcgkaaDoorLaidReg
import Derived.Test.YtocbfchmngcgkaaDoorOpen
import Derived.Test.YtocbfchmngcgkaaDoorCards
import Derived.Test.YtocbfchmngcgkaaDoorTie
import Derived.SevenTiedAt
namespace Go.Proofs.YtocbfchmngcgkaaDoor
open Go.ChangeShapes Go.WideShapes Go.RowKit

set_option maxRecDepth 100000 in
theorem dmaRound_lifted (os : Os) (started : os.Started) (H : Type) (enc : TypeId × Value → H) :
    ReturnsInHanded {} Tryd.checked os 5 .any (fun w args => (Rows.dmaRoundSpec.pre enc Tryd.prog Tryd.f5 [] false w args ∧ laidMetH Tryd.prog Rows.dmaRoundRow.laid w) ∧ sizedMet enc Tryd.prog Tryd.f5 (OpenSpec.ofChange Rows.dmaRoundSpec) false w args)
      (Rows.dmaRoundSpec.post enc Tryd.prog Tryd.f5 false true false false) := by
  refine lift_laid (C := Tryd.checked) Rows.dmaRoundRow.laid own started (by kernel_rfl) Tryd.func5 rfl rfl Tryd.underlying4 laidOut (by kernel_rfl)
    (fun ds h => by match ds, h with | [d0, d1], _ => rfl)
    (ChangeSpec.witness_at (enc := enc) (C := Tryd.checked) (os := os) (X := fun w _ => laidMetH Tryd.prog Rows.dmaRoundRow.laid w) false (laidWorld os) #[.int .i64 0, .int .i64 0] 8 rfl (by kernel_rfl) (by kernel_rfl) (by kernel_rfl) (by kernel_rfl) (by kernel_rfl) (laid_reg os _)) ?_
  intro W args ds p ⟨base, hval⟩ hA hsz hL
  rw [show (Tryd.checked.prog) = Tryd.prog from rfl] at *
  rw [Tryd.params5] at hA hval hsz
  obtain ⟨v0, vs0, d0, ds0, p0, q0, hargs, rfl, rfl, h0, r0⟩ := trodAll_cons hA
  obtain ⟨v1, vs1, d1, ds1, p1, q1, rfl, rfl, rfl, h1, r1⟩ := trodAll_cons r0
  obtain ⟨rfl, rfl, rfl⟩ := trodAll_nil r1
  obtain rfl : args = #[v0, v1] := by cases args; simp_all
  obtain ⟨n, rfl, _, _⟩ := open_i64 Tryd.underlying3 (hval 0 3 _ rfl rfl)
  obtain ⟨many, rfl, _, _⟩ := open_i64 Tryd.underlying3 (hval 1 3 _ rfl rfl)
  exact dma_round n many W (reg_of_laid hL)

theorem dmaRound_holds : Rows.DmaRoundSaid :=
  OpenClaim.holds_of_wide 5 Tryd.f5 rfl rfl rfl rfl rfl rfl rfl ⟨rfl, rfl, rfl, rfl, rfl⟩ rfl rfl rfl rfl rfl (by kernel_rfl) Tryd.func5 (by kernel_rfl)
    (of_decide_eq_true (by kernel_rfl)) (by unfold Func.isWrapper; rw [if_neg (of_decide_eq_false (by kernel_rfl))]; exact ⟨rfl, rfl⟩)
    (fun os started H enc _ => dmaRound_lifted os started H enc)

theorem dmaRound_card_holds : Rows.DmaRoundCardSaid :=
  Claim7.holds_tied_plain_at .later [] [.data] true (Rows.dmaRoundCard.stood.harness) true
    dmaRound_holds (fun _ h => by cases h) (by kernel_rfl) (fun _ h => by cases h) dmaRound_row_tie rfl ⟨rfl, rfl⟩ (by kernel_rfl) rfl
    (fun f fn hf hfn => by
      obtain rfl : f = 5 := Option.some.inj ((show Tryd.prog.funcNamed "pinnace/pinnacelaw12.DmaRound" = some 5 by kernel_rfl).symm.trans hf) |>.symm
      obtain rfl : fn = Tryd.f5 := (Option.some.inj (Tryd.func5.symm.trans hfn)).symm
      exact ⟨by kernel_rfl, fun j t ht => by
        rw [Tryd.params5] at ht
        have h3 : t = 3 := by
          match j, ht with
          | 0, ht => exact by simpa using ht.symm
          | 1, ht => exact by simpa using ht.symm
          | j + 2, ht => simp at ht
        rcases h3 with rfl
        · exact (show Tryd.prog.wantsStandIn 3 = false by kernel_rfl)⟩)
    (by kernel_rfl)
#print axioms dmaRound_card_holds
end Go.Proofs.YtocbfchmngcgkaaDoor

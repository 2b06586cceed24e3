/-
The statement of pinnacelaw14.VirtioReads: for every input the call answers true and its arguments read as before.
No condition: the tied card.
-/
import Derived.Test.YtcbjlpkkebcmjaaDoorLawVReads
import Derived.Test.YtcbjlpkkebcmjaaDoorLaidErr2
import Derived.Test.YtcbjlpkkebcmjaaDoorOpenVS
import Derived.Test.YtcbjlpkkebcmjaaDoorG4
import Derived.Test.YtcbjlpkkebcmjaaDoorCards
import Derived.Test.YtcbjlpkkebcmjaaDoorTie
import Derived.SevenTiedAt
namespace Go.Proofs.YtcbjlpkkebcmjaaDoor
open Go.ChangeShapes Go.WideShapes Go.RowKit

set_option maxRecDepth 100000 in
theorem virtioReads_lifted (os : Os) (started : os.Started) (H : Type) (enc : TypeId × Value → H) :
    ReturnsInHanded {} Tryd.checked os 4 .any (fun w args => (Rows.virtioReadsSpec.pre enc Tryd.prog Tryd.f4 [] false w args ∧ laidMetH Tryd.prog Rows.virtioReadsRow.laid w) ∧ sizedMet enc Tryd.prog Tryd.f4 (OpenSpec.ofChange Rows.virtioReadsSpec) false w args)
      (Rows.virtioReadsSpec.post enc Tryd.prog Tryd.f4 false true false false) := by
  refine lift_laid (C := Tryd.checked) Rows.virtioReadsRow.laid own started (by kernel_rfl) Tryd.func4 rfl rfl Tryd.underlying4 laidOut (by kernel_rfl)
    (fun ds h => by match ds, h with | [d0, d1, d2], _ => rfl)
    (ChangeSpec.witness_at (enc := enc) (C := Tryd.checked) (os := os) (X := fun w _ => laidMetH Tryd.prog Rows.virtioReadsRow.laid w) false (laidWorld2 os) #[VS.zero.v, .int .u32 0, .int .u32 0] 8 rfl (by kernel_rfl) (by kernel_rfl) (by kernel_rfl) (by kernel_rfl) (by kernel_rfl) (laid_err2 os _)) ?_
  intro W args ds p ⟨base, hval⟩ hA hsz hL
  rw [show (Tryd.checked.prog) = Tryd.prog from rfl] at *
  rw [Tryd.params4] at hA hval hsz
  obtain ⟨v0, vs0, d0, ds0, p0, q0, hargs, rfl, rfl, h0, r0⟩ := trodAll_cons hA
  obtain ⟨v1, vs1, d1, ds1, p1, q1, rfl, rfl, rfl, h1, r1⟩ := trodAll_cons r0
  obtain ⟨v2, vs2, d2, ds2, p2, q2, rfl, rfl, rfl, h2, r2⟩ := trodAll_cons r1
  obtain ⟨rfl, rfl, rfl⟩ := trodAll_nil r2
  obtain rfl : args = #[v0, v1, v2] := by cases args; simp_all
  obtain ⟨s, rfl, hs⟩ := open_VS (hval 0 57 _ rfl rfl)
  obtain ⟨id, rfl, _⟩ := open_u32 Tryd.underlying25 (hval 1 25 _ rfl rfl)
  obtain ⟨a, rfl, _⟩ := open_u32 Tryd.underlying25 (hval 2 25 _ rfl rfl)
  exact law_VirtioReads s hs id a W (err_of_laid hL)

theorem virtioReads_holds : Rows.VirtioReadsSaid :=
  OpenClaim.holds_of_wide 4 Tryd.f4 rfl rfl rfl rfl rfl rfl rfl ⟨rfl, rfl, rfl, rfl, rfl⟩ rfl rfl rfl rfl rfl (by kernel_rfl) Tryd.func4 (by kernel_rfl)
    (of_decide_eq_true (by kernel_rfl)) (by unfold Func.isWrapper; rw [if_neg (of_decide_eq_false (by kernel_rfl))]; exact ⟨rfl, rfl⟩)
    (fun os started H enc _ => virtioReads_lifted os started H enc)

theorem virtioReads_card_holds : Rows.VirtioReadsCardSaid :=
  Claim7.holds_tied_plain_at .later [] [.handle] true (Rows.virtioReadsCard.stood.harness) true
    virtioReads_holds (fun _ h => by cases h) (by kernel_rfl) (fun _ h => by cases h) virtioReads_row_tie rfl ⟨rfl, rfl⟩ (by kernel_rfl) rfl
    (fun f fn hf hfn => by
      obtain rfl : f = 4 := Option.some.inj ((show Tryd.prog.funcNamed "pinnace/pinnacelaw14.VirtioReads" = some 4 by kernel_rfl).symm.trans hf) |>.symm
      obtain rfl : fn = Tryd.f4 := (Option.some.inj (Tryd.func4.symm.trans hfn)).symm
      exact ⟨by kernel_rfl, fun j t ht => by
        rw [Tryd.params4] at ht
        have h3 : t = 57 ∨ t = 25 := by
          match j, ht with
          | 0, ht => exact .inl (by simpa using ht.symm)
          | 1, ht => exact .inr ((by simpa using ht.symm))
          | 2, ht => exact .inr ((by simpa using ht.symm))
          | j + 3, ht => simp at ht
        rcases h3 with rfl | rfl
        · exact (show Tryd.prog.wantsStandIn 57 = false by kernel_rfl)
        · exact (show Tryd.prog.wantsStandIn 25 = false by kernel_rfl)⟩)
    (by kernel_rfl)
#print axioms virtioReads_card_holds
end Go.Proofs.YtcbjlpkkebcmjaaDoor

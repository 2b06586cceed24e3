/-
The statement of pinnacelaw16.NicHolds: for every input the call answers true and its arguments read as before.
No condition: the tied card.
-/
import Derived.Test.YtcbjlpkkebcmjaaDoorLawNicHolds
import Derived.Test.YtcbjlpkkebcmjaaDoorG4

import Derived.Test.YtcbjlpkkebcmjaaDoorOpenNS
import Derived.Test.YtcbjlpkkebcmjaaDoorOpenFrames
import Derived.Test.YtcbjlpkkebcmjaaDoorCards
import Derived.Test.YtcbjlpkkebcmjaaDoorTie
import Derived.SevenTiedAt
namespace Go.Proofs.YtcbjlpkkebcmjaaDoor
open Go.ChangeShapes Go.WideShapes Go.RowKit

set_option maxRecDepth 100000 in
theorem nicHolds_lifted (os : Os) (started : os.Started) (H : Type) (enc : TypeId × Value → H) :
    ReturnsInHanded {} Tryd.checked os 8 .any (fun w args => (Rows.nicHoldsSpec.pre enc Tryd.prog Tryd.f8 [] false w args ∧ laidMetH Tryd.prog Rows.nicHoldsRow.laid w) ∧ sizedMet enc Tryd.prog Tryd.f8 (OpenSpec.ofChange Rows.nicHoldsSpec) false w args)
      (Rows.nicHoldsSpec.post enc Tryd.prog Tryd.f8 false true false false) := by
  refine lift_laid (C := Tryd.checked) Rows.nicHoldsRow.laid own started (by kernel_rfl) Tryd.func8 rfl rfl Tryd.underlying4 laidOut (by kernel_rfl)
    (fun ds h => by match ds, h with | [d0, d1, d2], _ => rfl)
    (ChangeSpec.witness_at (enc := enc) (C := Tryd.checked) (os := os) (X := fun w _ => laidMetH Tryd.prog Rows.nicHoldsRow.laid w) false (laidWorld os) #[(.agg NS.zero.c), .slice none 0 0, .slice none 0 0] 8 rfl (by kernel_rfl) (by kernel_rfl) (by kernel_rfl) (by kernel_rfl) (by kernel_rfl) (laid_reg os _)) ?_
  intro W args ds p ⟨base, hval⟩ hA hsz hL
  rw [show (Tryd.checked.prog) = Tryd.prog from rfl] at *
  rw [Tryd.params8] at hA hval hsz
  obtain ⟨v0, vs0, d0, ds0, p0, q0, hargs, rfl, rfl, h0, r0⟩ := trodAll_cons hA
  obtain ⟨v1, vs1, d1, ds1, p1, q1, rfl, rfl, rfl, h1, r1⟩ := trodAll_cons r0
  obtain ⟨v2, vs2, d2, ds2, p2, q2, rfl, rfl, rfl, h2, r2⟩ := trodAll_cons r1
  obtain ⟨rfl, rfl, rfl⟩ := trodAll_nil r2
  obtain rfl : args = #[v0, v1, v2] := by cases args; simp_all
  obtain ⟨s, rfl, hs⟩ := open_NS (hval 0 77 _ rfl rfl)
  obtain ⟨p1, n1, cap1, rfl, hc1, hm1, HL⟩ := open_pairs Tryd.underlying78 Tryd.underlying49 Tryd.underlying25 (by kernel_rfl) (by kernel_rfl) (hval 1 78 _ rfl rfl) h1
  obtain ⟨p2, n2, cap2, rfl, hc2, hm2, HF⟩ := open_frames Tryd.underlying88 Tryd.underlying80 Tryd.underlying5 (by kernel_rfl) (by kernel_rfl) (hval 2 88 _ rfl rfl) h2
  exact (by obtain ⟨l, rfl, hp⟩ := HL.list; exact law_NicHolds s hs p1 l cap1 p2 n2 cap2 W hp (by omega) (by omega) HF (reg_of_laid hL))

theorem nicHolds_holds : Rows.NicHoldsSaid :=
  OpenClaim.holds_of_wide 8 Tryd.f8 rfl rfl rfl rfl rfl rfl rfl ⟨rfl, rfl, rfl, rfl, rfl⟩ rfl rfl rfl rfl rfl (by kernel_rfl) Tryd.func8 (by kernel_rfl)
    (of_decide_eq_true (by kernel_rfl)) (by unfold Func.isWrapper; rw [if_neg (of_decide_eq_false (by kernel_rfl))]; exact ⟨rfl, rfl⟩)
    (fun os started H enc _ => nicHolds_lifted os started H enc)

theorem nicHolds_card_holds : Rows.NicHoldsCardSaid :=
  Claim7.holds_tied_plain_at .later [] [.data] true (Rows.nicHoldsCard.stood.harness) true
    nicHolds_holds (fun _ h => by cases h) (by kernel_rfl) (fun _ h => by cases h) nicHolds_row_tie rfl ⟨rfl, rfl⟩ (by kernel_rfl) rfl
    (fun f fn hf hfn => by
      obtain rfl : f = 8 := Option.some.inj ((show Tryd.prog.funcNamed "pinnace/pinnacelaw16.NicHolds" = some 8 by kernel_rfl).symm.trans hf) |>.symm
      obtain rfl : fn = Tryd.f8 := (Option.some.inj (Tryd.func8.symm.trans hfn)).symm
      exact ⟨by kernel_rfl, fun j t ht => by
        rw [Tryd.params8] at ht
        have h3 : t = 77 ∨ t = 78 ∨ t = 88 := by
          match j, ht with
          | 0, ht => exact .inl (by simpa using ht.symm)
          | 1, ht => exact .inr (.inl (by simpa using ht.symm))
          | 2, ht => exact .inr (.inr ((by simpa using ht.symm)))
          | j + 3, ht => simp at ht
        rcases h3 with rfl | rfl | rfl
        · exact (show Tryd.prog.wantsStandIn 77 = false by kernel_rfl)
        · exact (show Tryd.prog.wantsStandIn 78 = false by kernel_rfl)
        · exact (show Tryd.prog.wantsStandIn 88 = false by kernel_rfl)⟩)
    (by kernel_rfl)
#print axioms nicHolds_card_holds
end Go.Proofs.YtcbjlpkkebcmjaaDoor

/-
The statement of pinnacelaw16.NicSends: for every input the call answers true and its arguments read as before.
No condition: the tied card.
-/
import Derived.Test.YtcmbnkmbaghkdaaDoorGNS
import Derived.Test.YtcmbnkmbaghkdaaDoorG4

import Derived.Test.YtcmbnkmbaghkdaaDoorOpenNS
import Derived.Test.YtcmbnkmbaghkdaaDoorCards
import Derived.Test.YtcmbnkmbaghkdaaDoorTie
import Derived.SevenTiedAt
namespace Go.Proofs.YtcmbnkmbaghkdaaDoor
open Go.ChangeShapes Go.WideShapes Go.RowKit

set_option maxRecDepth 100000 in
theorem nicSends_lifted (os : Os) (started : os.Started) (H : Type) (enc : TypeId × Value → H) :
    ReturnsInHanded {} Tryd.checked os 4 .any (fun w args => (Rows.nicSendsSpec.pre enc Tryd.prog Tryd.f4 [] false w args ∧ laidMetH Tryd.prog Rows.nicSendsRow.laid w) ∧ sizedMet enc Tryd.prog Tryd.f4 (OpenSpec.ofChange Rows.nicSendsSpec) false w args)
      (Rows.nicSendsSpec.post enc Tryd.prog Tryd.f4 false true false false) := by
  refine lift_laid (C := Tryd.checked) Rows.nicSendsRow.laid own started (by kernel_rfl) Tryd.func4 rfl rfl Tryd.underlying4 laidOut (by kernel_rfl)
    (fun ds h => by match ds, h with | [d0, d1], _ => rfl)
    (ChangeSpec.witness_at (enc := enc) (C := Tryd.checked) (os := os) (X := fun w _ => laidMetH Tryd.prog Rows.nicSendsRow.laid w) false (laidWorld os) #[(.agg NS.zero.c), .slice none 0 0] 8 rfl (by kernel_rfl) (by kernel_rfl) (by kernel_rfl) (by kernel_rfl) (by kernel_rfl) (laid_reg os _)) ?_
  intro W args ds p ⟨base, hval⟩ hA hsz hL
  rw [show (Tryd.checked.prog) = Tryd.prog from rfl] at *
  rw [Tryd.params4] at hA hval hsz
  obtain ⟨v0, vs0, d0, ds0, p0, q0, hargs, rfl, rfl, h0, r0⟩ := trodAll_cons hA
  obtain ⟨v1, vs1, d1, ds1, p1, q1, rfl, rfl, rfl, h1, r1⟩ := trodAll_cons r0
  obtain ⟨rfl, rfl, rfl⟩ := trodAll_nil r1
  obtain rfl : args = #[v0, v1] := by cases args; simp_all
  obtain ⟨s, rfl, hs⟩ := open_NS (hval 0 59 _ rfl rfl)
  obtain ⟨p1, n1, cap1, rfl, hc1, hm1, HL⟩ := open_pairs Tryd.underlying60 Tryd.underlying49 Tryd.underlying25 (by kernel_rfl) (by kernel_rfl) (hval 1 60 _ rfl rfl) h1
  exact (by obtain ⟨l, rfl, hp⟩ := HL.list; exact law_NicSends s hs p1 l cap1 W hp (by omega) (reg_of_laid hL))

theorem nicSends_holds : Rows.NicSendsSaid :=
  OpenClaim.holds_of_wide 4 Tryd.f4 rfl rfl rfl rfl rfl rfl rfl ⟨rfl, rfl, rfl, rfl, rfl⟩ rfl rfl rfl rfl rfl (by kernel_rfl) Tryd.func4 (by kernel_rfl)
    (of_decide_eq_true (by kernel_rfl)) (by unfold Func.isWrapper; rw [if_neg (of_decide_eq_false (by kernel_rfl))]; exact ⟨rfl, rfl⟩)
    (fun os started H enc _ => nicSends_lifted os started H enc)

theorem nicSends_card_holds : Rows.NicSendsCardSaid :=
  Claim7.holds_tied_plain_at .later [] [.data] true (Rows.nicSendsCard.stood.harness) true
    nicSends_holds (fun _ h => by cases h) (by kernel_rfl) (fun _ h => by cases h) nicSends_row_tie rfl ⟨rfl, rfl⟩ (by kernel_rfl) rfl
    (fun f fn hf hfn => by
      obtain rfl : f = 4 := Option.some.inj ((show Tryd.prog.funcNamed "pinnace/pinnacelaw16.NicSends" = some 4 by kernel_rfl).symm.trans hf) |>.symm
      obtain rfl : fn = Tryd.f4 := (Option.some.inj (Tryd.func4.symm.trans hfn)).symm
      exact ⟨by kernel_rfl, fun j t ht => by
        rw [Tryd.params4] at ht
        have h3 : t = 59 ∨ t = 60 := by
          match j, ht with
          | 0, ht => exact .inl (by simpa using ht.symm)
          | 1, ht => exact .inr ((by simpa using ht.symm))
          | j + 2, ht => simp at ht
        rcases h3 with rfl | rfl
        · exact (show Tryd.prog.wantsStandIn 59 = false by kernel_rfl)
        · exact (show Tryd.prog.wantsStandIn 60 = false by kernel_rfl)⟩)
    (by kernel_rfl)
#print axioms nicSends_card_holds
end Go.Proofs.YtcmbnkmbaghkdaaDoor

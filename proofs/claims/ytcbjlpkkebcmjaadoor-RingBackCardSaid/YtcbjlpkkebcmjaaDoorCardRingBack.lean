/-
The statement of pinnacelaw13.RingBack: for every input the call answers true and its arguments read as before.
No condition: the tied card.
-/
import Derived.Test.YtcbjlpkkebcmjaaDoorLawRingBack
import Derived.Test.YtcbjlpkkebcmjaaDoorLaidErr2
import Derived.Test.YtcbjlpkkebcmjaaDoorG4
import Derived.Test.YtcbjlpkkebcmjaaDoorCards
import Derived.Test.YtcbjlpkkebcmjaaDoorTie
import Derived.SevenTiedAt
namespace Go.Proofs.YtcbjlpkkebcmjaaDoor
open Go.ChangeShapes Go.WideShapes Go.RowKit

set_option maxRecDepth 100000 in
theorem ringBack_lifted (os : Os) (started : os.Started) (H : Type) (enc : TypeId × Value → H) :
    ReturnsInHanded {} Tryd.checked os 9 .any (fun w args => (Rows.ringBackSpec.pre enc Tryd.prog Tryd.f9 [] false w args ∧ laidMetH Tryd.prog Rows.ringBackRow.laid w) ∧ sizedMet enc Tryd.prog Tryd.f9 (OpenSpec.ofChange Rows.ringBackSpec) false w args)
      (Rows.ringBackSpec.post enc Tryd.prog Tryd.f9 false true false false) := by
  refine lift_laid (C := Tryd.checked) Rows.ringBackRow.laid own started (by kernel_rfl) Tryd.func9 rfl rfl Tryd.underlying4 laidOut (by kernel_rfl)
    (fun ds h => by match ds, h with | [d0, d1], _ => rfl)
    (ChangeSpec.witness_at (enc := enc) (C := Tryd.checked) (os := os) (X := fun w _ => laidMetH Tryd.prog Rows.ringBackRow.laid w) false (laidWorld2 os) #[.slice none 0 0, .slice none 0 0] 8 rfl (by kernel_rfl) (by kernel_rfl) (by kernel_rfl) (by kernel_rfl) (by kernel_rfl) (laid_err_bus os _)) ?_
  intro W args ds p ⟨base, hval⟩ hA hsz hL
  rw [show (Tryd.checked.prog) = Tryd.prog from rfl] at *
  rw [Tryd.params9] at hA hval hsz
  obtain ⟨v0, vs0, d0, ds0, p0, q0, hargs, rfl, rfl, h0, r0⟩ := trodAll_cons hA
  obtain ⟨v1, vs1, d1, ds1, p1, q1, rfl, rfl, rfl, h1, r1⟩ := trodAll_cons r0
  obtain ⟨rfl, rfl, rfl⟩ := trodAll_nil r1
  obtain rfl : args = #[v0, v1] := by cases args; simp_all
  obtain ⟨p1, n1, cap1, rfl, hn1, hm1, HL⟩ := open_ints Tryd.underlying119 Tryd.underlying3 (by kernel_rfl) (hval 0 119 _ rfl rfl) h0
  obtain ⟨p2, l2, cap2, rfl, hn2, hm2, HB⟩ := open_bytes Tryd.underlying80 Tryd.underlying5 (by kernel_rfl) (hval 1 80 _ rfl rfl) h1
  exact law_RingBack p1 p2 n1 cap1 cap2 l2 W HL HB (by omega) hn2 hm2 (errbus_of_laid hL).2 (errbus_of_laid hL).1

theorem ringBack_holds : Rows.RingBackSaid :=
  OpenClaim.holds_of_wide 9 Tryd.f9 rfl rfl rfl rfl rfl rfl rfl ⟨rfl, rfl, rfl, rfl, rfl⟩ rfl rfl rfl rfl rfl (by kernel_rfl) Tryd.func9 (by kernel_rfl)
    (of_decide_eq_true (by kernel_rfl)) (by unfold Func.isWrapper; rw [if_neg (of_decide_eq_false (by kernel_rfl))]; exact ⟨rfl, rfl⟩)
    (fun os started H enc _ => ringBack_lifted os started H enc)

theorem ringBack_card_holds : Rows.RingBackCardSaid :=
  Claim7.holds_tied_plain_at .later [] [.handle, .data] true (Rows.ringBackCard.stood.harness) true
    ringBack_holds (fun _ h => by cases h) (by kernel_rfl) (fun _ h => by cases h) ringBack_row_tie rfl ⟨rfl, rfl⟩ (by kernel_rfl) rfl
    (fun f fn hf hfn => by
      obtain rfl : f = 9 := Option.some.inj ((show Tryd.prog.funcNamed "pinnace/pinnacelaw13.RingBack" = some 9 by kernel_rfl).symm.trans hf) |>.symm
      obtain rfl : fn = Tryd.f9 := (Option.some.inj (Tryd.func9.symm.trans hfn)).symm
      exact ⟨by kernel_rfl, fun j t ht => by
        rw [Tryd.params9] at ht
        have h3 : t = 119 ∨ t = 80 := by
          match j, ht with
          | 0, ht => exact .inl (by simpa using ht.symm)
          | 1, ht => exact .inr ((by simpa using ht.symm))
          | j + 2, ht => simp at ht
        rcases h3 with rfl | rfl
        · exact (show Tryd.prog.wantsStandIn 119 = false by kernel_rfl)
        · exact (show Tryd.prog.wantsStandIn 80 = false by kernel_rfl)⟩)
    (by kernel_rfl)
#print axioms ringBack_card_holds
end Go.Proofs.YtcbjlpkkebcmjaaDoor

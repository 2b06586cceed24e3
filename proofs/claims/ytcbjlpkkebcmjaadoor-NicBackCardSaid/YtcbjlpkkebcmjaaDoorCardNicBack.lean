/-
The statement of pinnacelaw16.NicBack: for every input the call answers true and its arguments read as before.
No condition: the tied card.
-/
import Derived.Test.YtcbjlpkkebcmjaaDoorLawNicBack
import Derived.Test.YtcbjlpkkebcmjaaDoorG4
import Derived.Test.YtcbjlpkkebcmjaaDoorCards
import Derived.Test.YtcbjlpkkebcmjaaDoorTie
import Derived.SevenTiedAt
namespace Go.Proofs.YtcbjlpkkebcmjaaDoor
open Go.ChangeShapes Go.WideShapes Go.RowKit

set_option maxRecDepth 100000 in
theorem nicBack_lifted (os : Os) (started : os.Started) (H : Type) (enc : TypeId × Value → H) :
    ReturnsInHanded {} Tryd.checked os 7 .any (fun w args => (Rows.nicBackSpec.pre enc Tryd.prog Tryd.f7 [] false w args ∧ laidMetH Tryd.prog Rows.nicBackRow.laid w) ∧ sizedMet enc Tryd.prog Tryd.f7 (OpenSpec.ofChange Rows.nicBackSpec) false w args)
      (Rows.nicBackSpec.post enc Tryd.prog Tryd.f7 false true false false) := by
  refine lift_laid (C := Tryd.checked) Rows.nicBackRow.laid own started (by kernel_rfl) Tryd.func7 rfl rfl Tryd.underlying4 laidOut (by kernel_rfl)
    (fun ds h => by match ds, h with | [d0, d1], _ => rfl)
    (ChangeSpec.witness_at (enc := enc) (C := Tryd.checked) (os := os) (X := fun w _ => laidMetH Tryd.prog Rows.nicBackRow.laid w) false (laidWorld os) #[.slice none 0 0, .int .i64 0] 8 rfl (by kernel_rfl) (by kernel_rfl) (by kernel_rfl) (by kernel_rfl) (by kernel_rfl) (laid_reg os _)) ?_
  intro W args ds p ⟨base, hval⟩ hA hsz hL
  rw [show (Tryd.checked.prog) = Tryd.prog from rfl] at *
  rw [Tryd.params7] at hA hval hsz
  obtain ⟨v0, vs0, d0, ds0, p0, q0, hargs, rfl, rfl, h0, r0⟩ := trodAll_cons hA
  obtain ⟨v1, vs1, d1, ds1, p1, q1, rfl, rfl, rfl, h1, r1⟩ := trodAll_cons r0
  obtain ⟨rfl, rfl, rfl⟩ := trodAll_nil r1
  obtain rfl : args = #[v0, v1] := by cases args; simp_all
  obtain ⟨p1, l1, cap1, rfl, hn1, hm1, HB⟩ := open_bytes Tryd.underlying80 Tryd.underlying5 (by kernel_rfl) (hval 0 80 _ rfl rfl) h0
  obtain ⟨ct, rfl, _, _⟩ := open_i64 Tryd.underlying3 (hval 1 3 _ rfl rfl)
  exact law_NicBack p1 l1 cap1 ct W HB hn1 hm1 (reg_of_laid hL)

theorem nicBack_holds : Rows.NicBackSaid :=
  OpenClaim.holds_of_wide 7 Tryd.f7 rfl rfl rfl rfl rfl rfl rfl ⟨rfl, rfl, rfl, rfl, rfl⟩ rfl rfl rfl rfl rfl (by kernel_rfl) Tryd.func7 (by kernel_rfl)
    (of_decide_eq_true (by kernel_rfl)) (by unfold Func.isWrapper; rw [if_neg (of_decide_eq_false (by kernel_rfl))]; exact ⟨rfl, rfl⟩)
    (fun os started H enc _ => nicBack_lifted os started H enc)

theorem nicBack_card_holds : Rows.NicBackCardSaid :=
  Claim7.holds_tied_plain_at .later [] [.data] true (Rows.nicBackCard.stood.harness) true
    nicBack_holds (fun _ h => by cases h) (by kernel_rfl) (fun _ h => by cases h) nicBack_row_tie rfl ⟨rfl, rfl⟩ (by kernel_rfl) rfl
    (fun f fn hf hfn => by
      obtain rfl : f = 7 := Option.some.inj ((show Tryd.prog.funcNamed "pinnace/pinnacelaw16.NicBack" = some 7 by kernel_rfl).symm.trans hf) |>.symm
      obtain rfl : fn = Tryd.f7 := (Option.some.inj (Tryd.func7.symm.trans hfn)).symm
      exact ⟨by kernel_rfl, fun j t ht => by
        rw [Tryd.params7] at ht
        have h3 : t = 80 ∨ t = 3 := by
          match j, ht with
          | 0, ht => exact .inl (by simpa using ht.symm)
          | 1, ht => exact .inr ((by simpa using ht.symm))
          | j + 2, ht => simp at ht
        rcases h3 with rfl | rfl
        · exact (show Tryd.prog.wantsStandIn 80 = false by kernel_rfl)
        · exact (show Tryd.prog.wantsStandIn 3 = false by kernel_rfl)⟩)
    (by kernel_rfl)
#print axioms nicBack_card_holds
end Go.Proofs.YtcbjlpkkebcmjaaDoor

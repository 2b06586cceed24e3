/-
The statement of pinnacelaw13.RingOnce: for every input the call answers true and its arguments read as before.
No condition: the tied card.
-/
import Derived.Test.YtcakcfeipfjmpaaDoorLawRingOnce
import Derived.Test.YtcakcfeipfjmpaaDoorLaidReg
import Derived.Test.YtcakcfeipfjmpaaDoorOpen
import Derived.Test.YtcakcfeipfjmpaaDoorCards
import Derived.Test.YtcakcfeipfjmpaaDoorTie
import Derived.SevenTiedAt
namespace Go.Proofs.YtcakcfeipfjmpaaDoor
open Go.ChangeShapes Go.WideShapes Go.RowKit

set_option maxRecDepth 100000 in
theorem ringOnce_lifted (os : Os) (started : os.Started) (H : Type) (enc : TypeId × Value → H) :
    ReturnsInHanded {} Tryd.checked os 6 .any (fun w args => (Rows.ringOnceSpec.pre enc Tryd.prog Tryd.f6 [] false w args ∧ laidMetH Tryd.prog Rows.ringOnceRow.laid w) ∧ sizedMet enc Tryd.prog Tryd.f6 (OpenSpec.ofChange Rows.ringOnceSpec) false w args)
      (Rows.ringOnceSpec.post enc Tryd.prog Tryd.f6 false true false false) := by
  refine lift_laid (C := Tryd.checked) Rows.ringOnceRow.laid own started (by kernel_rfl) Tryd.func6 rfl rfl Tryd.underlying4 laidOut (by kernel_rfl)
    (fun ds h => by match ds, h with | [d0, d1], _ => rfl)
    (ChangeSpec.witness_at (enc := enc) (C := Tryd.checked) (os := os) (X := fun w _ => laidMetH Tryd.prog Rows.ringOnceRow.laid w) false (laidWorld os) #[.slice none 0 0, .slice none 0 0] 8 rfl (by kernel_rfl) (by kernel_rfl) (by kernel_rfl) (by kernel_rfl) (by kernel_rfl) (laid_reg os _)) ?_
  intro W args ds p ⟨base, hval⟩ hA hsz hL
  rw [show (Tryd.checked.prog) = Tryd.prog from rfl] at *
  rw [Tryd.params6] at hA hval hsz
  obtain ⟨v0, vs0, d0, ds0, p0, q0, hargs, rfl, rfl, h0, r0⟩ := trodAll_cons hA
  obtain ⟨v1, vs1, d1, ds1, p1, q1, rfl, rfl, rfl, h1, r1⟩ := trodAll_cons r0
  obtain ⟨rfl, rfl, rfl⟩ := trodAll_nil r1
  obtain rfl : args = #[v0, v1] := by cases args; simp_all
  obtain ⟨p1, n1, cap1, rfl, hn1, hm1, HL⟩ := open_ints Tryd.underlying50 Tryd.underlying3 (by kernel_rfl) (hval 0 50 _ rfl rfl) h0
  obtain ⟨p2, n2, cap2, rfl, hn2, hm2, HB⟩ := open_boolsarg Tryd.underlying28 Tryd.underlying4 (by kernel_rfl) (hval 1 28 _ rfl rfl) h1
  exact law_RingOnce p1 p2 n1 cap1 n2 cap2 W HL HB (by omega) (by omega) (reg_of_laid hL)

theorem ringOnce_holds : Rows.RingOnceSaid :=
  OpenClaim.holds_of_wide 6 Tryd.f6 rfl rfl rfl rfl rfl rfl rfl ⟨rfl, rfl, rfl, rfl, rfl⟩ rfl rfl rfl rfl rfl (by kernel_rfl) Tryd.func6 (by kernel_rfl)
    (of_decide_eq_true (by kernel_rfl)) (by unfold Func.isWrapper; rw [if_neg (of_decide_eq_false (by kernel_rfl))]; exact ⟨rfl, rfl⟩)
    (fun os started H enc _ => ringOnce_lifted os started H enc)

theorem ringOnce_card_holds : Rows.RingOnceCardSaid :=
  Claim7.holds_tied_plain_at .later [] [.data] true (Rows.ringOnceCard.stood.harness) true
    ringOnce_holds (fun _ h => by cases h) (by kernel_rfl) (fun _ h => by cases h) ringOnce_row_tie rfl ⟨rfl, rfl⟩ (by kernel_rfl) rfl
    (fun f fn hf hfn => by
      obtain rfl : f = 6 := Option.some.inj ((show Tryd.prog.funcNamed "pinnace/pinnacelaw13.RingOnce" = some 6 by kernel_rfl).symm.trans hf) |>.symm
      obtain rfl : fn = Tryd.f6 := (Option.some.inj (Tryd.func6.symm.trans hfn)).symm
      exact ⟨by kernel_rfl, fun j t ht => by
        rw [Tryd.params6] at ht
        have h3 : t = 50 ∨ t = 28 := by
          match j, ht with
          | 0, ht => exact .inl (by simpa using ht.symm)
          | 1, ht => exact .inr ((by simpa using ht.symm))
          | j + 2, ht => simp at ht
        rcases h3 with rfl | rfl
        · exact (show Tryd.prog.wantsStandIn 50 = false by kernel_rfl)
        · exact (show Tryd.prog.wantsStandIn 28 = false by kernel_rfl)⟩)
    (by kernel_rfl)
#print axioms ringOnce_card_holds
end Go.Proofs.YtcakcfeipfjmpaaDoor

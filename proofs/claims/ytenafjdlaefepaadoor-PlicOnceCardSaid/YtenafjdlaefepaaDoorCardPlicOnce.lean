/-
The statement of pinnacelaw09.PlicOnce: for every input the call answers true and its arguments read as before.
No condition: the tied card.
-/
import Derived.Test.YtenafjdlaefepaaDoorOnce
import Derived.Test.YtenafjdlaefepaaDoorOpenPS
import Derived.Test.YtenafjdlaefepaaDoorOpenActs
import Derived.Test.YtenafjdlaefepaaDoorCards
import Derived.Test.YtenafjdlaefepaaDoorTie
import Derived.SevenTiedAt
namespace Go.Proofs.YtenafjdlaefepaaDoor
open Go.ChangeShapes Go.WideShapes Go.RowKit

set_option maxRecDepth 100000 in
theorem plicOnce_lifted (os : Os) (started : os.Started) (H : Type) (enc : TypeId × Value → H) :
    ReturnsInHanded {} Tryd.checked os 5 .any (fun w args => (Rows.plicOnceSpec.pre enc Tryd.prog Tryd.f5 [] false w args ∧ laidMetH Tryd.prog Rows.plicOnceRow.laid w) ∧ sizedMet enc Tryd.prog Tryd.f5 (OpenSpec.ofChange Rows.plicOnceSpec) false w args)
      (Rows.plicOnceSpec.post enc Tryd.prog Tryd.f5 false true false false) := by
  refine lift_laid (C := Tryd.checked) Rows.plicOnceRow.laid own started (by kernel_rfl) Tryd.func5 rfl rfl Tryd.underlying4 laidOut (by kernel_rfl)
    (fun ds h => by match ds, h with | [d0, d1], _ => rfl)
    (ChangeSpec.witness_at (enc := enc) (C := Tryd.checked) (os := os) (X := fun w _ => laidMetH Tryd.prog Rows.plicOnceRow.laid w) false (laidWorld os) #[PS.zero.v, .slice none 0 0] 8 rfl (by kernel_rfl) (by kernel_rfl) (by kernel_rfl) (by kernel_rfl) (by kernel_rfl) (laid_tab os _)) ?_
  intro W args ds p ⟨base, hval⟩ hA hsz hL
  rw [show (Tryd.checked.prog) = Tryd.prog from rfl] at *
  rw [Tryd.params5] at hA hval hsz
  obtain ⟨v0, vs0, d0, ds0, p0, q0, hargs, rfl, rfl, h0, r0⟩ := trodAll_cons hA
  obtain ⟨v1, vs1, d1, ds1, p1, q1, rfl, rfl, rfl, h1, r1⟩ := trodAll_cons r0
  obtain ⟨rfl, rfl, rfl⟩ := trodAll_nil r1
  obtain rfl : args = #[v0, v1] := by cases args; simp_all
  obtain ⟨s, rfl, hs⟩ := open_PS (hval 0 25 _ rfl rfl)
  obtain ⟨p1, n, cap, rfl, _, _, HL⟩ := open_acts Tryd.underlying33 Tryd.underlying39 rfl rfl rfl rfl rfl rfl Tryd.underlying3 Tryd.underlying22 (by kernel_rfl) (by kernel_rfl) (by kernel_rfl) (hval 1 33 _ rfl rfl) h1
  exact law9_PlicOnce s hs p1 n cap W HL (tab32_of_tab hL)

theorem plicOnce_holds : Rows.PlicOnceSaid :=
  OpenClaim.holds_of_wide 5 Tryd.f5 rfl rfl rfl rfl rfl rfl rfl ⟨rfl, rfl, rfl, rfl, rfl⟩ rfl rfl rfl rfl rfl (by kernel_rfl) Tryd.func5 (by kernel_rfl)
    (of_decide_eq_true (by kernel_rfl)) (by unfold Func.isWrapper; rw [if_neg (of_decide_eq_false (by kernel_rfl))]; exact ⟨rfl, rfl⟩)
    (fun os started H enc _ => plicOnce_lifted os started H enc)

theorem plicOnce_card_holds : Rows.PlicOnceCardSaid :=
  Claim7.holds_tied_plain_at .later [] [.data] true (Rows.plicOnceCard.stood.harness) true
    plicOnce_holds (fun _ h => by cases h) (by kernel_rfl) (fun _ h => by cases h) plicOnce_row_tie rfl ⟨rfl, rfl⟩ (by kernel_rfl) rfl
    (fun f fn hf hfn => by
      obtain rfl : f = 5 := Option.some.inj ((show Tryd.prog.funcNamed "pinnace/pinnacelaw09.PlicOnce" = some 5 by kernel_rfl).symm.trans hf) |>.symm
      obtain rfl : fn = Tryd.f5 := (Option.some.inj (Tryd.func5.symm.trans hfn)).symm
      exact ⟨by kernel_rfl, fun j t ht => by
        rw [Tryd.params5] at ht
        have h3 : t = 25 ∨ t = 33 := by
          match j, ht with
          | 0, ht => exact .inl (by simpa using ht.symm)
          | 1, ht => exact .inr ((by simpa using ht.symm))
          | j + 2, ht => simp at ht
        rcases h3 with rfl | rfl
        · exact (show Tryd.prog.wantsStandIn 25 = false by kernel_rfl)
        · exact (show Tryd.prog.wantsStandIn 33 = false by kernel_rfl)⟩)
    (by kernel_rfl)
#print axioms plicOnce_card_holds
end Go.Proofs.YtenafjdlaefepaaDoor

/-
The statement of pinnacelaw09.PlicBest: for every state the call answers true and its argument reads as before.
No condition: the tied card.
-/
import Derived.Test.YtenafjdlaefepaaDoorPlicBest
import Derived.Test.YtenafjdlaefepaaDoorOpenPS
import Derived.Test.YtenafjdlaefepaaDoorCards
import Derived.Test.YtenafjdlaefepaaDoorTie
import Derived.SevenTiedAt
namespace Go.Proofs.YtenafjdlaefepaaDoor
open Go.ChangeShapes Go.WideShapes Go.RowKit

set_option maxRecDepth 100000 in
theorem plicBest_lifted (os : Os) (started : os.Started) (H : Type) (enc : TypeId × Value → H) :
    ReturnsInHanded {} Tryd.checked os 4 .any (fun w args => (Rows.plicBestSpec.pre enc Tryd.prog Tryd.f4 [] false w args ∧ laidMetH Tryd.prog Rows.plicBestRow.laid w) ∧ sizedMet enc Tryd.prog Tryd.f4 (OpenSpec.ofChange Rows.plicBestSpec) false w args)
      (Rows.plicBestSpec.post enc Tryd.prog Tryd.f4 false true false false) := by
  refine lift_laid (C := Tryd.checked) Rows.plicBestRow.laid own started (by kernel_rfl) Tryd.func4 rfl rfl Tryd.underlying4 laidOut (by kernel_rfl)
    (fun ds h => by match ds, h with | [d], _ => rfl)
    (ChangeSpec.witness_at (enc := enc) (C := Tryd.checked) (os := os) (X := fun w _ => laidMetH Tryd.prog Rows.plicBestRow.laid w) false (laidWorld os) #[PS.zero.v] 8 rfl (by kernel_rfl) (by kernel_rfl) (by kernel_rfl) (by kernel_rfl) (by kernel_rfl) (laid_tab os _)) ?_
  intro W args ds p ⟨base, hval⟩ hA _ hL
  rw [show (Tryd.checked.prog) = Tryd.prog from rfl] at *
  rw [Tryd.params4] at hA hval
  obtain ⟨v0, vs0, d0, ds0, p0, q0, hargs, rfl, rfl, h0, r0⟩ := trodAll_cons hA
  obtain ⟨rfl, rfl, rfl⟩ := trodAll_nil r0
  obtain rfl : args = #[v0] := by cases args; simp_all
  obtain ⟨s, rfl, hs⟩ := open_PS (hval 0 25 v0 rfl rfl)
  exact law_PlicBest s hs W (tab32_of_tab hL)

theorem plicBest_holds : Rows.PlicBestSaid :=
  OpenClaim.holds_of_wide 4 Tryd.f4 rfl rfl rfl rfl rfl rfl rfl ⟨rfl, rfl, rfl, rfl, rfl⟩ rfl rfl rfl rfl rfl (by kernel_rfl) Tryd.func4 (by kernel_rfl)
    (of_decide_eq_true (by kernel_rfl)) (by unfold Func.isWrapper; rw [if_neg (of_decide_eq_false (by kernel_rfl))]; exact ⟨rfl, rfl⟩)
    (fun os started H enc _ => plicBest_lifted os started H enc)

theorem plicBest_card_holds : Rows.PlicBestCardSaid :=
  Claim7.holds_tied_plain_at .later [] [.data] true (Rows.plicBestCard.stood.harness) true
    plicBest_holds (fun _ h => by cases h) (by kernel_rfl) (fun _ h => by cases h) plicBest_row_tie rfl ⟨rfl, rfl⟩ (by kernel_rfl) rfl
    (fun f fn hf hfn => by
      obtain rfl : f = 4 := Option.some.inj ((show Tryd.prog.funcNamed "pinnace/pinnacelaw09.PlicBest" = some 4 by kernel_rfl).symm.trans hf) |>.symm
      obtain rfl : fn = Tryd.f4 := (Option.some.inj (Tryd.func4.symm.trans hfn)).symm
      exact ⟨by kernel_rfl, fun j t ht => by
        rw [Tryd.params4] at ht
        have h3 : t = 25 := by
          rcases j with _ | j
          · simpa using ht.symm
          · simp at ht
        subst h3
        exact (show Tryd.prog.wantsStandIn 25 = false by kernel_rfl)⟩)
    (by kernel_rfl)
#print axioms plicBest_card_holds
end Go.Proofs.YtenafjdlaefepaaDoor

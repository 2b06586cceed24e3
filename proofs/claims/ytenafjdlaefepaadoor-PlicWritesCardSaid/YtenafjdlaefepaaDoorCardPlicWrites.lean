/-
The statement of pinnacelaw09.PlicWrites: for every input the call answers true and its arguments read as before.
No condition: the tied card.
-/
import Derived.Test.YtenafjdlaefepaaDoorPlicWrites
import Derived.Test.YtenafjdlaefepaaDoorOpenPS
import Derived.Test.YtenafjdlaefepaaDoorLaidErr
import Derived.Test.YtenafjdlaefepaaDoorCards
import Derived.Test.YtenafjdlaefepaaDoorTie
import Derived.SevenTiedAt
namespace Go.Proofs.YtenafjdlaefepaaDoor
open Go.ChangeShapes Go.WideShapes Go.RowKit

set_option maxRecDepth 100000 in
theorem plicWrites_lifted (os : Os) (started : os.Started) (H : Type) (enc : TypeId × Value → H) :
    ReturnsInHanded {} Tryd.checked os 9 .any (fun w args => (Rows.plicWritesSpec.pre enc Tryd.prog Tryd.f9 [] false w args ∧ laidMetH Tryd.prog Rows.plicWritesRow.laid w) ∧ sizedMet enc Tryd.prog Tryd.f9 (OpenSpec.ofChange Rows.plicWritesSpec) false w args)
      (Rows.plicWritesSpec.post enc Tryd.prog Tryd.f9 false true false false) := by
  refine lift_laid (C := Tryd.checked) Rows.plicWritesRow.laid own started (by kernel_rfl) Tryd.func9 rfl rfl Tryd.underlying4 laidOut (by kernel_rfl)
    (fun ds h => by match ds, h with | [d0, d1, d2], _ => rfl)
    (ChangeSpec.witness_at (enc := enc) (C := Tryd.checked) (os := os) (X := fun w _ => laidMetH Tryd.prog Rows.plicWritesRow.laid w) false (laidWorld os) #[PS.zero.v, .int .u32 0, .int .u32 0] 8 rfl (by kernel_rfl) (by kernel_rfl) (by kernel_rfl) (by kernel_rfl) (by kernel_rfl) (laid_tab_err os _)) ?_
  intro W args ds p ⟨base, hval⟩ hA hsz hL
  rw [show (Tryd.checked.prog) = Tryd.prog from rfl] at *
  rw [Tryd.params9] at hA hval hsz
  obtain ⟨v0, vs0, d0, ds0, p0, q0, hargs, rfl, rfl, h0, r0⟩ := trodAll_cons hA
  obtain ⟨v1, vs1, d1, ds1, p1, q1, rfl, rfl, rfl, h1, r1⟩ := trodAll_cons r0
  obtain ⟨v2, vs2, d2, ds2, p2, q2, rfl, rfl, rfl, h2, r2⟩ := trodAll_cons r1
  obtain ⟨rfl, rfl, rfl⟩ := trodAll_nil r2
  obtain rfl : args = #[v0, v1, v2] := by cases args; simp_all
  obtain ⟨s, rfl, hs⟩ := open_PS (hval 0 25 _ rfl rfl)
  obtain ⟨at_, rfl, ha⟩ := open_u32 Tryd.underlying22 (hval 1 22 _ rfl rfl)
  obtain ⟨v, rfl, hv⟩ := open_u32 Tryd.underlying22 (hval 2 22 _ rfl rfl)
  exact law_PlicWrites s at_ v hs ha hv W (taberr_of_laid hL).2 (taberr_of_laid hL).1

theorem plicWrites_holds : Rows.PlicWritesSaid :=
  OpenClaim.holds_of_wide 9 Tryd.f9 rfl rfl rfl rfl rfl rfl rfl ⟨rfl, rfl, rfl, rfl, rfl⟩ rfl rfl rfl rfl rfl (by kernel_rfl) Tryd.func9 (by kernel_rfl)
    (of_decide_eq_true (by kernel_rfl)) (by unfold Func.isWrapper; rw [if_neg (of_decide_eq_false (by kernel_rfl))]; exact ⟨rfl, rfl⟩)
    (fun os started H enc _ => plicWrites_lifted os started H enc)

theorem plicWrites_card_holds : Rows.PlicWritesCardSaid :=
  Claim7.holds_tied_plain_at .later [] [.data, .handle] true (Rows.plicWritesCard.stood.harness) true
    plicWrites_holds (fun _ h => by cases h) (by kernel_rfl) (fun _ h => by cases h) plicWrites_row_tie rfl ⟨rfl, rfl⟩ (by kernel_rfl) rfl
    (fun f fn hf hfn => by
      obtain rfl : f = 9 := Option.some.inj ((show Tryd.prog.funcNamed "pinnace/pinnacelaw09.PlicWrites" = some 9 by kernel_rfl).symm.trans hf) |>.symm
      obtain rfl : fn = Tryd.f9 := (Option.some.inj (Tryd.func9.symm.trans hfn)).symm
      exact ⟨by kernel_rfl, fun j t ht => by
        rw [Tryd.params9] at ht
        have h3 : t = 25 ∨ t = 22 := by
          match j, ht with
          | 0, ht => exact .inl (by simpa using ht.symm)
          | 1, ht => exact .inr ((by simpa using ht.symm))
          | 2, ht => exact .inr ((by simpa using ht.symm))
          | j + 3, ht => simp at ht
        rcases h3 with rfl | rfl
        · exact (show Tryd.prog.wantsStandIn 25 = false by kernel_rfl)
        · exact (show Tryd.prog.wantsStandIn 22 = false by kernel_rfl)⟩)
    (by kernel_rfl)
#print axioms plicWrites_card_holds
end Go.Proofs.YtenafjdlaefepaaDoor

/-
The statement of pinnacelaw07.BusBases: for every input the call answers true and its arguments read as before.
No condition: the tied card.
-/
import Derived.Test.YtenafjdlaefepaaDoorBusLaws
import Derived.Test.YtenafjdlaefepaaDoorLaidErr
import Derived.Test.YtenafjdlaefepaaDoorOpen
import Derived.Test.YtenafjdlaefepaaDoorCards
import Derived.Test.YtenafjdlaefepaaDoorTie
import Derived.SevenTiedAt
namespace Go.Proofs.YtenafjdlaefepaaDoor
open Go.ChangeShapes Go.WideShapes Go.RowKit

set_option maxRecDepth 100000 in
theorem busBases_lifted (os : Os) (started : os.Started) (H : Type) (enc : TypeId × Value → H) :
    ReturnsInHanded {} Tryd.checked os 7 .any (fun w args => (Rows.busBasesSpec.pre enc Tryd.prog Tryd.f7 [] false w args ∧ laidMetH Tryd.prog Rows.busBasesRow.laid w) ∧ sizedMet enc Tryd.prog Tryd.f7 (OpenSpec.ofChange Rows.busBasesSpec) false w args)
      (Rows.busBasesSpec.post enc Tryd.prog Tryd.f7 false true false false) := by
  refine lift_laid (C := Tryd.checked) Rows.busBasesRow.laid own started (by kernel_rfl) Tryd.func7 rfl rfl Tryd.underlying4 laidOut (by kernel_rfl)
    (fun ds h => by match ds, h with | [d0, d1], _ => rfl)
    (ChangeSpec.witness_at (enc := enc) (C := Tryd.checked) (os := os) (X := fun w _ => laidMetH Tryd.prog Rows.busBasesRow.laid w) false (laidWorld os) #[.int .i64 0, .int .u32 0] 8 rfl (by kernel_rfl) (by kernel_rfl) (by kernel_rfl) (by kernel_rfl) (by kernel_rfl) (laid_err_bus os _)) ?_
  intro W args ds p ⟨base, hval⟩ hA hsz hL
  rw [show (Tryd.checked.prog) = Tryd.prog from rfl] at *
  rw [Tryd.params7] at hA hval hsz
  obtain ⟨v0, vs0, d0, ds0, p0, q0, hargs, rfl, rfl, h0, r0⟩ := trodAll_cons hA
  obtain ⟨v1, vs1, d1, ds1, p1, q1, rfl, rfl, rfl, h1, r1⟩ := trodAll_cons r0
  obtain ⟨rfl, rfl, rfl⟩ := trodAll_nil r1
  obtain rfl : args = #[v0, v1] := by cases args; simp_all
  obtain ⟨dev, rfl, _, _⟩ := open_i64 Tryd.underlying3 (hval 0 3 _ rfl rfl)
  obtain ⟨size, rfl, hs⟩ := open_u32 Tryd.underlying22 (hval 1 22 _ rfl rfl)
  exact law_BusBases dev size hs W (errbus_of_laid hL).2 (errbus_of_laid hL).1

theorem busBases_holds : Rows.BusBasesSaid :=
  OpenClaim.holds_of_wide 7 Tryd.f7 rfl rfl rfl rfl rfl rfl rfl ⟨rfl, rfl, rfl, rfl, rfl⟩ rfl rfl rfl rfl rfl (by kernel_rfl) Tryd.func7 (by kernel_rfl)
    (of_decide_eq_true (by kernel_rfl)) (by unfold Func.isWrapper; rw [if_neg (of_decide_eq_false (by kernel_rfl))]; exact ⟨rfl, rfl⟩)
    (fun os started H enc _ => busBases_lifted os started H enc)

theorem busBases_card_holds : Rows.BusBasesCardSaid :=
  Claim7.holds_tied_plain_at .later [] [.handle, .data] true (Rows.busBasesCard.stood.harness) true
    busBases_holds (fun _ h => by cases h) (by kernel_rfl) (fun _ h => by cases h) busBases_row_tie rfl ⟨rfl, rfl⟩ (by kernel_rfl) rfl
    (fun f fn hf hfn => by
      obtain rfl : f = 7 := Option.some.inj ((show Tryd.prog.funcNamed "pinnace/pinnacelaw07.BusBases" = some 7 by kernel_rfl).symm.trans hf) |>.symm
      obtain rfl : fn = Tryd.f7 := (Option.some.inj (Tryd.func7.symm.trans hfn)).symm
      exact ⟨by kernel_rfl, fun j t ht => by
        rw [Tryd.params7] at ht
        have h3 : t = 3 ∨ t = 22 := by
          match j, ht with
          | 0, ht => exact .inl (by simpa using ht.symm)
          | 1, ht => exact .inr ((by simpa using ht.symm))
          | j + 2, ht => simp at ht
        rcases h3 with rfl | rfl
        · exact (show Tryd.prog.wantsStandIn 3 = false by kernel_rfl)
        · exact (show Tryd.prog.wantsStandIn 22 = false by kernel_rfl)⟩)
    (by kernel_rfl)
#print axioms busBases_card_holds
end Go.Proofs.YtenafjdlaefepaaDoor

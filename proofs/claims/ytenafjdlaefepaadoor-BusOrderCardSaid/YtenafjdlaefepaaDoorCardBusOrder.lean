/-
The statement of pinnacelaw07.BusOrder: for every input the call answers true and its arguments read as before.
No condition: the tied card.
-/
import Derived.Test.YtenafjdlaefepaaDoorOrderLaw
import Derived.Test.YtenafjdlaefepaaDoorLaidErr
import Derived.Test.YtenafjdlaefepaaDoorOpen
import Derived.Test.YtenafjdlaefepaaDoorCards
import Derived.Test.YtenafjdlaefepaaDoorTie
import Derived.SevenTiedAt
namespace Go.Proofs.YtenafjdlaefepaaDoor
open Go.ChangeShapes Go.WideShapes Go.RowKit

set_option maxRecDepth 100000 in
theorem busOrder_lifted (os : Os) (started : os.Started) (H : Type) (enc : TypeId × Value → H) :
    ReturnsInHanded {} Tryd.checked os 11 .any (fun w args => (Rows.busOrderSpec.pre enc Tryd.prog Tryd.f11 [] false w args ∧ laidMetH Tryd.prog Rows.busOrderRow.laid w) ∧ sizedMet enc Tryd.prog Tryd.f11 (OpenSpec.ofChange Rows.busOrderSpec) false w args)
      (Rows.busOrderSpec.post enc Tryd.prog Tryd.f11 false true false false) := by
  refine lift_laid (C := Tryd.checked) Rows.busOrderRow.laid own started (by kernel_rfl) Tryd.func11 rfl rfl Tryd.underlying4 laidOut (by kernel_rfl)
    (fun ds h => by match ds, h with | [d0, d1], _ => rfl)
    (ChangeSpec.witness_at (enc := enc) (C := Tryd.checked) (os := os) (X := fun w _ => laidMetH Tryd.prog Rows.busOrderRow.laid w) false (laidWorld os) #[.slice none 0 0, .slice none 0 0] 8 rfl (by kernel_rfl) (by kernel_rfl) (by kernel_rfl) (by kernel_rfl) (by kernel_rfl) (laid_err_bus os _)) ?_
  intro W args ds p ⟨base, hval⟩ hA hsz hL
  rw [show (Tryd.checked.prog) = Tryd.prog from rfl] at *
  rw [Tryd.params11] at hA hval hsz
  obtain ⟨v0, vs0, d0, ds0, p0, q0, hargs, rfl, rfl, h0, r0⟩ := trodAll_cons hA
  obtain ⟨v1, vs1, d1, ds1, p1, q1, rfl, rfl, rfl, h1, r1⟩ := trodAll_cons r0
  obtain ⟨rfl, rfl, rfl⟩ := trodAll_nil r1
  obtain rfl : args = #[v0, v1] := by cases args; simp_all
  obtain ⟨lp, n, lc, rfl, HL⟩ := open_postsarg Tryd.underlying59 Tryd.underlying63 rfl rfl rfl rfl rfl rfl rfl rfl Tryd.underlying3 Tryd.underlying22 (by kernel_rfl) (by kernel_rfl) (by kernel_rfl) (hval 0 59 _ rfl rfl) h0
  obtain ⟨bp, nb, bc, rfl, HB⟩ := open_boolsarg Tryd.underlying81 Tryd.underlying4 (by kernel_rfl) (hval 1 81 _ rfl rfl) h1
  exact law_BusOrder lp bp n lc nb bc W HL HB (errbus_of_laid hL).2 (errbus_of_laid hL).1

theorem busOrder_holds : Rows.BusOrderSaid :=
  OpenClaim.holds_of_wide 11 Tryd.f11 rfl rfl rfl rfl rfl rfl rfl ⟨rfl, rfl, rfl, rfl, rfl⟩ rfl rfl rfl rfl rfl (by kernel_rfl) Tryd.func11 (by kernel_rfl)
    (of_decide_eq_true (by kernel_rfl)) (by unfold Func.isWrapper; rw [if_neg (of_decide_eq_false (by kernel_rfl))]; exact ⟨rfl, rfl⟩)
    (fun os started H enc _ => busOrder_lifted os started H enc)

theorem busOrder_card_holds : Rows.BusOrderCardSaid :=
  Claim7.holds_tied_plain_at .later [] [.handle, .data] true (Rows.busOrderCard.stood.harness) true
    busOrder_holds (fun _ h => by cases h) (by kernel_rfl) (fun _ h => by cases h) busOrder_row_tie rfl ⟨rfl, rfl⟩ (by kernel_rfl) rfl
    (fun f fn hf hfn => by
      obtain rfl : f = 11 := Option.some.inj ((show Tryd.prog.funcNamed "pinnace/pinnacelaw07.BusOrder" = some 11 by kernel_rfl).symm.trans hf) |>.symm
      obtain rfl : fn = Tryd.f11 := (Option.some.inj (Tryd.func11.symm.trans hfn)).symm
      exact ⟨by kernel_rfl, fun j t ht => by
        rw [Tryd.params11] at ht
        have h3 : t = 59 ∨ t = 81 := by
          match j, ht with
          | 0, ht => exact .inl (by simpa using ht.symm)
          | 1, ht => exact .inr ((by simpa using ht.symm))
          | j + 2, ht => simp at ht
        rcases h3 with rfl | rfl
        · exact (show Tryd.prog.wantsStandIn 59 = false by kernel_rfl)
        · exact (show Tryd.prog.wantsStandIn 81 = false by kernel_rfl)⟩)
    (by kernel_rfl)
#print axioms busOrder_card_holds
end Go.Proofs.YtenafjdlaefepaaDoor

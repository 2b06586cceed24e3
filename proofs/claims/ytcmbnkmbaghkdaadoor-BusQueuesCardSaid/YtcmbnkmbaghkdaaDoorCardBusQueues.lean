/-
The statement of pinnacelaw07.BusQueues: for every input the call answers true and its arguments read as before.
No condition: the tied card.
-/
import Derived.Test.YtcmbnkmbaghkdaaDoorLawBusQueues
import Derived.Test.YtcmbnkmbaghkdaaDoorLaidErr2
import Derived.Test.YtcmbnkmbaghkdaaDoorG4
import Derived.Test.YtcmbnkmbaghkdaaDoorOpenQueue
import Derived.Test.YtcmbnkmbaghkdaaDoorCards
import Derived.Test.YtcmbnkmbaghkdaaDoorTie
import Derived.SevenTiedAt
namespace Go.Proofs.YtcmbnkmbaghkdaaDoor
open Go.ChangeShapes Go.WideShapes Go.RowKit

set_option maxRecDepth 100000 in
theorem busQueues_lifted (os : Os) (started : os.Started) (H : Type) (enc : TypeId × Value → H) :
    ReturnsInHanded {} Tryd.checked os 3 .any (fun w args => (Rows.busQueuesSpec.pre enc Tryd.prog Tryd.f3 [] false w args ∧ laidMetH Tryd.prog Rows.busQueuesRow.laid w) ∧ sizedMet enc Tryd.prog Tryd.f3 (OpenSpec.ofChange Rows.busQueuesSpec) false w args)
      (Rows.busQueuesSpec.post enc Tryd.prog Tryd.f3 false true false false) := by
  refine lift_laid (C := Tryd.checked) Rows.busQueuesRow.laid own started (by kernel_rfl) Tryd.func3 rfl rfl Tryd.underlying4 laidOut (by kernel_rfl)
    (fun ds h => by match ds, h with | [d0, d1], _ => rfl)
    (ChangeSpec.witness_at (enc := enc) (C := Tryd.checked) (os := os) (X := fun w _ => laidMetH Tryd.prog Rows.busQueuesRow.laid w) false (laidWorld2 os) #[(.agg #[.slice none 0 0]), (.agg #[.int .i64 0, .int .u32 0, .int .i64 0, .int .u32 0])] 8 rfl (by kernel_rfl) (by kernel_rfl) (by kernel_rfl) (by kernel_rfl) (by kernel_rfl) (laid_err_bus os _)) ?_
  intro W args ds p ⟨base, hval⟩ hA hsz hL
  rw [show (Tryd.checked.prog) = Tryd.prog from rfl] at *
  rw [Tryd.params3] at hA hval hsz
  obtain ⟨v0, vs0, d0, ds0, p0, q0, hargs, rfl, rfl, h0, r0⟩ := trodAll_cons hA
  obtain ⟨v1, vs1, d1, ds1, p1, q1, rfl, rfl, rfl, h1, r1⟩ := trodAll_cons r0
  obtain ⟨rfl, rfl, rfl⟩ := trodAll_nil r1
  obtain rfl : args = #[v0, v1] := by cases args; simp_all
  obtain ⟨ao, l, cap, rfl, hpl, hwf, hno, hcap, hmax⟩ := open_queueG Tryd.underlying24 rfl rfl (by kernel_rfl) (by kernel_rfl) (by kernel_rfl) Tryd.underlying22 Tryd.underlying27 rfl rfl rfl rfl rfl rfl rfl rfl Tryd.underlying3 Tryd.underlying25 (by kernel_rfl) (by kernel_rfl) (by kernel_rfl) (hval 0 24 _ rfl rfl) h0
  obtain ⟨pp, rfl, hpw⟩ := open_Post (hval 1 27 _ rfl rfl)
  exact law_BusQueues ao l cap pp W hpl hwf hpw hno hcap (by omega) (errbus_of_laid hL).2 (errbus_of_laid hL).1

theorem busQueues_holds : Rows.BusQueuesSaid :=
  OpenClaim.holds_of_wide 3 Tryd.f3 rfl rfl rfl rfl rfl rfl rfl ⟨rfl, rfl, rfl, rfl, rfl⟩ rfl rfl rfl rfl rfl (by kernel_rfl) Tryd.func3 (by kernel_rfl)
    (of_decide_eq_true (by kernel_rfl)) (by unfold Func.isWrapper; rw [if_neg (of_decide_eq_false (by kernel_rfl))]; exact ⟨rfl, rfl⟩)
    (fun os started H enc _ => busQueues_lifted os started H enc)

theorem busQueues_card_holds : Rows.BusQueuesCardSaid :=
  Claim7.holds_tied_plain_at .later [] [.handle, .data] true (Rows.busQueuesCard.stood.harness) true
    busQueues_holds (fun _ h => by cases h) (by kernel_rfl) (fun _ h => by cases h) busQueues_row_tie rfl ⟨rfl, rfl⟩ (by kernel_rfl) rfl
    (fun f fn hf hfn => by
      obtain rfl : f = 3 := Option.some.inj ((show Tryd.prog.funcNamed "pinnace/pinnacelaw07.BusQueues" = some 3 by kernel_rfl).symm.trans hf) |>.symm
      obtain rfl : fn = Tryd.f3 := (Option.some.inj (Tryd.func3.symm.trans hfn)).symm
      exact ⟨by kernel_rfl, fun j t ht => by
        rw [Tryd.params3] at ht
        have h3 : t = 24 ∨ t = 27 := by
          match j, ht with
          | 0, ht => exact .inl (by simpa using ht.symm)
          | 1, ht => exact .inr ((by simpa using ht.symm))
          | j + 2, ht => simp at ht
        rcases h3 with rfl | rfl
        · exact (show Tryd.prog.wantsStandIn 24 = false by kernel_rfl)
        · exact (show Tryd.prog.wantsStandIn 27 = false by kernel_rfl)⟩)
    (by kernel_rfl)
#print axioms busQueues_card_holds
end Go.Proofs.YtcmbnkmbaghkdaaDoor

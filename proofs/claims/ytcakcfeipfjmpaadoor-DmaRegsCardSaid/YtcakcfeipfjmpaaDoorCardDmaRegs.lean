/-
The statement of pinnacelaw12.DmaRegs: for every input the call answers true and its arguments read as before.
No condition: the tied card.
-/
import Derived.Test.YtcakcfeipfjmpaaDoorDmaRegs
import Derived.Test.YtcakcfeipfjmpaaDoorOpenDst
import Derived.Test.YtcakcfeipfjmpaaDoorLaidErr2
import Derived.Test.YtcakcfeipfjmpaaDoorOpen
import Derived.Test.YtcakcfeipfjmpaaDoorCards
import Derived.Test.YtcakcfeipfjmpaaDoorTie
import Derived.SevenTiedAt
namespace Go.Proofs.YtcakcfeipfjmpaaDoor
open Go.ChangeShapes Go.WideShapes Go.RowKit

set_option maxRecDepth 100000 in
theorem dmaRegs_lifted (os : Os) (started : os.Started) (H : Type) (enc : TypeId × Value → H) :
    ReturnsInHanded {} Tryd.checked os 8 .any (fun w args => (Rows.dmaRegsSpec.pre enc Tryd.prog Tryd.f8 [] false w args ∧ laidMetH Tryd.prog Rows.dmaRegsRow.laid w) ∧ sizedMet enc Tryd.prog Tryd.f8 (OpenSpec.ofChange Rows.dmaRegsSpec) false w args)
      (Rows.dmaRegsSpec.post enc Tryd.prog Tryd.f8 false true false false) := by
  refine lift_laid (C := Tryd.checked) Rows.dmaRegsRow.laid own started (by kernel_rfl) Tryd.func8 rfl rfl Tryd.underlying4 laidOut (by kernel_rfl)
    (fun ds h => by match ds, h with | [d0, d1, d2], _ => rfl)
    (ChangeSpec.witness_at (enc := enc) (C := Tryd.checked) (os := os) (X := fun w _ => laidMetH Tryd.prog Rows.dmaRegsRow.laid w) false (laidWorld2 os) #[(.agg Dst.zero.c), .int .u32 0, .int .u32 0] 8 rfl (by kernel_rfl) (by kernel_rfl) (by kernel_rfl) (by kernel_rfl) (by kernel_rfl) (laid_err_bus os _)) ?_
  intro W args ds p ⟨base, hval⟩ hA hsz hL
  rw [show (Tryd.checked.prog) = Tryd.prog from rfl] at *
  rw [Tryd.params8] at hA hval hsz
  obtain ⟨v0, vs0, d0, ds0, p0, q0, hargs, rfl, rfl, h0, r0⟩ := trodAll_cons hA
  obtain ⟨v1, vs1, d1, ds1, p1, q1, rfl, rfl, rfl, h1, r1⟩ := trodAll_cons r0
  obtain ⟨v2, vs2, d2, ds2, p2, q2, rfl, rfl, rfl, h2, r2⟩ := trodAll_cons r1
  obtain ⟨rfl, rfl, rfl⟩ := trodAll_nil r2
  obtain rfl : args = #[v0, v1, v2] := by cases args; simp_all
  obtain ⟨s, rfl, hs⟩ := open_Dst (hval 0 24 _ rfl rfl)
  obtain ⟨at_, rfl, ha⟩ := open_u32 Tryd.underlying22 (hval 1 22 _ rfl rfl)
  obtain ⟨v, rfl, hv⟩ := open_u32 Tryd.underlying22 (hval 2 22 _ rfl rfl)
  exact dma_regs s at_ v ha W (errbus_of_laid hL).1 (errbus_of_laid hL).2

theorem dmaRegs_holds : Rows.DmaRegsSaid :=
  OpenClaim.holds_of_wide 8 Tryd.f8 rfl rfl rfl rfl rfl rfl rfl ⟨rfl, rfl, rfl, rfl, rfl⟩ rfl rfl rfl rfl rfl (by kernel_rfl) Tryd.func8 (by kernel_rfl)
    (of_decide_eq_true (by kernel_rfl)) (by unfold Func.isWrapper; rw [if_neg (of_decide_eq_false (by kernel_rfl))]; exact ⟨rfl, rfl⟩)
    (fun os started H enc _ => dmaRegs_lifted os started H enc)

theorem dmaRegs_card_holds : Rows.DmaRegsCardSaid :=
  Claim7.holds_tied_plain_at .later [] [.handle, .data] true (Rows.dmaRegsCard.stood.harness) true
    dmaRegs_holds (fun _ h => by cases h) (by kernel_rfl) (fun _ h => by cases h) dmaRegs_row_tie rfl ⟨rfl, rfl⟩ (by kernel_rfl) rfl
    (fun f fn hf hfn => by
      obtain rfl : f = 8 := Option.some.inj ((show Tryd.prog.funcNamed "pinnace/pinnacelaw12.DmaRegs" = some 8 by kernel_rfl).symm.trans hf) |>.symm
      obtain rfl : fn = Tryd.f8 := (Option.some.inj (Tryd.func8.symm.trans hfn)).symm
      exact ⟨by kernel_rfl, fun j t ht => by
        rw [Tryd.params8] at ht
        have h3 : t = 24 ∨ t = 22 := by
          match j, ht with
          | 0, ht => exact .inl (by simpa using ht.symm)
          | 1, ht => exact .inr ((by simpa using ht.symm))
          | 2, ht => exact .inr ((by simpa using ht.symm))
          | j + 3, ht => simp at ht
        rcases h3 with rfl | rfl
        · exact (show Tryd.prog.wantsStandIn 24 = false by kernel_rfl)
        · exact (show Tryd.prog.wantsStandIn 22 = false by kernel_rfl)⟩)
    (by kernel_rfl)
#print axioms dmaRegs_card_holds
end Go.Proofs.YtcakcfeipfjmpaaDoor

/-
The statement of pinnacelaw12.DmaTicks: for every input the call answers true and its arguments read as before.
No condition: the tied card.
-/
import Derived.Test.YtcakcfeipfjmpaaDoorDmaTicks
import Derived.Test.YtcakcfeipfjmpaaDoorOpenDst
import Derived.Test.YtcakcfeipfjmpaaDoorLaidReg
import Derived.Test.YtcakcfeipfjmpaaDoorOpen
import Derived.Test.YtcakcfeipfjmpaaDoorCards
import Derived.Test.YtcakcfeipfjmpaaDoorTie
import Derived.SevenTiedAt
namespace Go.Proofs.YtcakcfeipfjmpaaDoor
open Go.ChangeShapes Go.WideShapes Go.RowKit

set_option maxRecDepth 100000 in
theorem dmaTicks_lifted (os : Os) (started : os.Started) (H : Type) (enc : TypeId × Value → H) :
    ReturnsInHanded {} Tryd.checked os 3 .any (fun w args => (Rows.dmaTicksSpec.pre enc Tryd.prog Tryd.f3 [] false w args ∧ laidMetH Tryd.prog Rows.dmaTicksRow.laid w) ∧ sizedMet enc Tryd.prog Tryd.f3 (OpenSpec.ofChange Rows.dmaTicksSpec) false w args)
      (Rows.dmaTicksSpec.post enc Tryd.prog Tryd.f3 false true false false) := by
  refine lift_laid (C := Tryd.checked) Rows.dmaTicksRow.laid own started (by kernel_rfl) Tryd.func3 rfl rfl Tryd.underlying4 laidOut (by kernel_rfl)
    (fun ds h => by match ds, h with | [d0, d1, d2], _ => rfl)
    (ChangeSpec.witness_at (enc := enc) (C := Tryd.checked) (os := os) (X := fun w _ => laidMetH Tryd.prog Rows.dmaTicksRow.laid w) false (laidWorld os) #[(.agg Dst.zero.c), .slice none 0 0, .int .i64 0] 8 rfl (by kernel_rfl) (by kernel_rfl) (by kernel_rfl) (by kernel_rfl) (by kernel_rfl) (laid_reg os _)) ?_
  intro W args ds p ⟨base, hval⟩ hA hsz hL
  rw [show (Tryd.checked.prog) = Tryd.prog from rfl] at *
  rw [Tryd.params3] at hA hval hsz
  obtain ⟨v0, vs0, d0, ds0, p0, q0, hargs, rfl, rfl, h0, r0⟩ := trodAll_cons hA
  obtain ⟨v1, vs1, d1, ds1, p1, q1, rfl, rfl, rfl, h1, r1⟩ := trodAll_cons r0
  obtain ⟨v2, vs2, d2, ds2, p2, q2, rfl, rfl, rfl, h2, r2⟩ := trodAll_cons r1
  obtain ⟨rfl, rfl, rfl⟩ := trodAll_nil r2
  obtain rfl : args = #[v0, v1, v2] := by cases args; simp_all
  obtain ⟨s, rfl, hs⟩ := open_Dst (hval 0 24 _ rfl rfl)
  obtain ⟨p1, n1, cap1, rfl, hc1, hm1, HL⟩ := open_pairs Tryd.underlying25 Tryd.underlying97 Tryd.underlying22 (by kernel_rfl) (by kernel_rfl) (hval 1 25 _ rfl rfl) h1
  obtain ⟨tk, rfl, _, _⟩ := open_i64 Tryd.underlying3 (hval 2 3 _ rfl rfl)
  exact (by obtain ⟨l, rfl, hp⟩ := HL.list; exact dma_ticks s hs p1 l cap1 tk W hp (by omega) (reg_of_laid hL))

theorem dmaTicks_holds : Rows.DmaTicksSaid :=
  OpenClaim.holds_of_wide 3 Tryd.f3 rfl rfl rfl rfl rfl rfl rfl ⟨rfl, rfl, rfl, rfl, rfl⟩ rfl rfl rfl rfl rfl (by kernel_rfl) Tryd.func3 (by kernel_rfl)
    (of_decide_eq_true (by kernel_rfl)) (by unfold Func.isWrapper; rw [if_neg (of_decide_eq_false (by kernel_rfl))]; exact ⟨rfl, rfl⟩)
    (fun os started H enc _ => dmaTicks_lifted os started H enc)

theorem dmaTicks_card_holds : Rows.DmaTicksCardSaid :=
  Claim7.holds_tied_plain_at .later [] [.data] true (Rows.dmaTicksCard.stood.harness) true
    dmaTicks_holds (fun _ h => by cases h) (by kernel_rfl) (fun _ h => by cases h) dmaTicks_row_tie rfl ⟨rfl, rfl⟩ (by kernel_rfl) rfl
    (fun f fn hf hfn => by
      obtain rfl : f = 3 := Option.some.inj ((show Tryd.prog.funcNamed "pinnace/pinnacelaw12.DmaTicks" = some 3 by kernel_rfl).symm.trans hf) |>.symm
      obtain rfl : fn = Tryd.f3 := (Option.some.inj (Tryd.func3.symm.trans hfn)).symm
      exact ⟨by kernel_rfl, fun j t ht => by
        rw [Tryd.params3] at ht
        have h3 : t = 24 ∨ t = 25 ∨ t = 3 := by
          match j, ht with
          | 0, ht => exact .inl (by simpa using ht.symm)
          | 1, ht => exact .inr (.inl (by simpa using ht.symm))
          | 2, ht => exact .inr (.inr ((by simpa using ht.symm)))
          | j + 3, ht => simp at ht
        rcases h3 with rfl | rfl | rfl
        · exact (show Tryd.prog.wantsStandIn 24 = false by kernel_rfl)
        · exact (show Tryd.prog.wantsStandIn 25 = false by kernel_rfl)
        · exact (show Tryd.prog.wantsStandIn 3 = false by kernel_rfl)⟩)
    (by kernel_rfl)
#print axioms dmaTicks_card_holds
end Go.Proofs.YtcakcfeipfjmpaaDoor

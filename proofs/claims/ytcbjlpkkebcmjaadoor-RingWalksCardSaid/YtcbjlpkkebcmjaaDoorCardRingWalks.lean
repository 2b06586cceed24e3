/-
The statement of pinnacelaw13.RingWalks: for every input the call answers true and its arguments read as before.
No condition: the tied card.
-/
import Derived.Test.YtcbjlpkkebcmjaaDoorLawRingWalks
import Derived.Test.YtcbjlpkkebcmjaaDoorLaidErr2
import Derived.Test.YtcbjlpkkebcmjaaDoorG4
import Derived.Test.YtcbjlpkkebcmjaaDoorOpenRg
import Derived.Test.YtcbjlpkkebcmjaaDoorCards
import Derived.Test.YtcbjlpkkebcmjaaDoorTie
import Derived.SevenTiedAt
namespace Go.Proofs.YtcbjlpkkebcmjaaDoor
open Go.ChangeShapes Go.WideShapes Go.RowKit

set_option maxRecDepth 100000 in
theorem ringWalks_lifted (os : Os) (started : os.Started) (H : Type) (enc : TypeId × Value → H) :
    ReturnsInHanded {} Tryd.checked os 6 .any (fun w args => (Rows.ringWalksSpec.pre enc Tryd.prog Tryd.f6 [] false w args ∧ laidMetH Tryd.prog Rows.ringWalksRow.laid w) ∧ sizedMet enc Tryd.prog Tryd.f6 (OpenSpec.ofChange Rows.ringWalksSpec) false w args)
      (Rows.ringWalksSpec.post enc Tryd.prog Tryd.f6 false true false false) := by
  refine lift_laid (C := Tryd.checked) Rows.ringWalksRow.laid own started (by kernel_rfl) Tryd.func6 rfl rfl Tryd.underlying4 laidOut (by kernel_rfl)
    (fun ds h => by match ds, h with | [d0, d1, d2], _ => rfl)
    (ChangeSpec.witness_at (enc := enc) (C := Tryd.checked) (os := os) (X := fun w _ => laidMetH Tryd.prog Rows.ringWalksRow.laid w) false (laidWorld2 os) #[(.agg Rg.zero.c), .slice none 0 0, .int .i64 0] 8 rfl (by kernel_rfl) (by kernel_rfl) (by kernel_rfl) (by kernel_rfl) (by kernel_rfl) (laid_err_bus os _)) ?_
  intro W args ds p ⟨base, hval⟩ hA hsz hL
  rw [show (Tryd.checked.prog) = Tryd.prog from rfl] at *
  rw [Tryd.params6] at hA hval hsz
  obtain ⟨v0, vs0, d0, ds0, p0, q0, hargs, rfl, rfl, h0, r0⟩ := trodAll_cons hA
  obtain ⟨v1, vs1, d1, ds1, p1, q1, rfl, rfl, rfl, h1, r1⟩ := trodAll_cons r0
  obtain ⟨v2, vs2, d2, ds2, p2, q2, rfl, rfl, rfl, h2, r2⟩ := trodAll_cons r1
  obtain ⟨rfl, rfl, rfl⟩ := trodAll_nil r2
  obtain rfl : args = #[v0, v1, v2] := by cases args; simp_all
  obtain ⟨q, rfl, hq⟩ := open_Rg (hval 0 52 _ rfl rfl)
  obtain ⟨p1, n1, cap1, rfl, hc1, hm1, HL⟩ := open_pairs Tryd.underlying78 Tryd.underlying49 Tryd.underlying25 (by kernel_rfl) (by kernel_rfl) (hval 1 78 _ rfl rfl) h1
  obtain ⟨hd, rfl, _, _⟩ := open_i64 Tryd.underlying3 (hval 2 3 _ rfl rfl)
  exact (by obtain ⟨l, rfl, hp⟩ := HL.list; exact law_RingWalks q hq p1 l cap1 hd W hp (by omega) (errbus_of_laid hL).2 (errbus_of_laid hL).1)

theorem ringWalks_holds : Rows.RingWalksSaid :=
  OpenClaim.holds_of_wide 6 Tryd.f6 rfl rfl rfl rfl rfl rfl rfl ⟨rfl, rfl, rfl, rfl, rfl⟩ rfl rfl rfl rfl rfl (by kernel_rfl) Tryd.func6 (by kernel_rfl)
    (of_decide_eq_true (by kernel_rfl)) (by unfold Func.isWrapper; rw [if_neg (of_decide_eq_false (by kernel_rfl))]; exact ⟨rfl, rfl⟩)
    (fun os started H enc _ => ringWalks_lifted os started H enc)

theorem ringWalks_card_holds : Rows.RingWalksCardSaid :=
  Claim7.holds_tied_plain_at .later [] [.handle, .data] true (Rows.ringWalksCard.stood.harness) true
    ringWalks_holds (fun _ h => by cases h) (by kernel_rfl) (fun _ h => by cases h) ringWalks_row_tie rfl ⟨rfl, rfl⟩ (by kernel_rfl) rfl
    (fun f fn hf hfn => by
      obtain rfl : f = 6 := Option.some.inj ((show Tryd.prog.funcNamed "pinnace/pinnacelaw13.RingWalks" = some 6 by kernel_rfl).symm.trans hf) |>.symm
      obtain rfl : fn = Tryd.f6 := (Option.some.inj (Tryd.func6.symm.trans hfn)).symm
      exact ⟨by kernel_rfl, fun j t ht => by
        rw [Tryd.params6] at ht
        have h3 : t = 52 ∨ t = 78 ∨ t = 3 := by
          match j, ht with
          | 0, ht => exact .inl (by simpa using ht.symm)
          | 1, ht => exact .inr (.inl (by simpa using ht.symm))
          | 2, ht => exact .inr (.inr ((by simpa using ht.symm)))
          | j + 3, ht => simp at ht
        rcases h3 with rfl | rfl | rfl
        · exact (show Tryd.prog.wantsStandIn 52 = false by kernel_rfl)
        · exact (show Tryd.prog.wantsStandIn 78 = false by kernel_rfl)
        · exact (show Tryd.prog.wantsStandIn 3 = false by kernel_rfl)⟩)
    (by kernel_rfl)
#print axioms ringWalks_card_holds
end Go.Proofs.YtcbjlpkkebcmjaaDoor

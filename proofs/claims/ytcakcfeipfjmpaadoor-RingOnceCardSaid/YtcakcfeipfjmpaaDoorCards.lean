/-
  DERIVED. GIVEN WITH THE SEED: THE CARDS: each row of YtcakcfeipfjmpaaDoorRows.lean that lists a variable, with what it lists TIED to the program's text (the seventh form; the later family's looks); each row that meets fmt, with fmt's text TOLD by the authors' own Lean function (tested against real Go, not proved from fmt's source: count such statements apart). THE CARD IS WHAT COUNTS. Prove the row's statement (the work); the ties are given (YtcakcfeipfjmpaaDoorTie.lean); close each card by the builder's one call (the guide's Derived/Test/ToyasCard.lean, 'card_holds'). Laid BY PROGRAM, IN A SANDBOX (cutbox-door.mjs). By AI agents, Wed Nov 11 2026. No macro, syntax, notation, axiom, sorry.
-/
import Derived.Test.YtcakcfeipfjmpaaDoorRows
import GoSem.ClaimSeven
namespace Go.Proofs.YtcakcfeipfjmpaaDoor
namespace Rows

/-- THE TIED CARD OF 'pinnacelaw12.DmaTicks'. -/
def dmaTicksCard : Claim7 := { stood := { row := dmaTicksRow, standIns := [], harness := (true, "600a6b2fc8d6bbfc66671a48e2d03ea8807c6860a075a44f300bbd1b31b8fd1f"), looks := true }, kinds := [], alts := [], laidByText := true, laidKinds := [.data], laidTests := true, laidLooks := .later }
def DmaTicksCardSaid : Prop := Claim7.holds Tryd.pinned (.plain (OpenSpec.ofChange dmaTicksSpec)) dmaTicksCard

/-- THE TIED CARD OF 'pinnacelaw12.DmaHolds'. -/
def dmaHoldsCard : Claim7 := { stood := { row := dmaHoldsRow, standIns := [], harness := (true, "600a6b2fc8d6bbfc66671a48e2d03ea8807c6860a075a44f300bbd1b31b8fd1f"), looks := true }, kinds := [], alts := [], laidByText := true, laidKinds := [.data], laidTests := true, laidLooks := .later }
def DmaHoldsCardSaid : Prop := Claim7.holds Tryd.pinned (.plain (OpenSpec.ofChange dmaHoldsSpec)) dmaHoldsCard

/-- THE TIED CARD OF 'pinnacelaw12.DmaStops'. -/
def dmaStopsCard : Claim7 := { stood := { row := dmaStopsRow, standIns := [], harness := (true, "600a6b2fc8d6bbfc66671a48e2d03ea8807c6860a075a44f300bbd1b31b8fd1f"), looks := true }, kinds := [], alts := [], laidByText := true, laidKinds := [.data], laidTests := true, laidLooks := .later }
def DmaStopsCardSaid : Prop := Claim7.holds Tryd.pinned (.plain (OpenSpec.ofChange dmaStopsSpec)) dmaStopsCard

/-- THE TIED CARD OF 'pinnacelaw13.RingOnce'. -/
def ringOnceCard : Claim7 := { stood := { row := ringOnceRow, standIns := [], harness := (true, "600a6b2fc8d6bbfc66671a48e2d03ea8807c6860a075a44f300bbd1b31b8fd1f"), looks := true }, kinds := [], alts := [], laidByText := true, laidKinds := [.data], laidTests := true, laidLooks := .later }
def RingOnceCardSaid : Prop := Claim7.holds Tryd.pinned (.plain (OpenSpec.ofChange ringOnceSpec)) ringOnceCard

/-- THE TIED CARD OF 'pinnacelaw06.MemNew'. -/
def memNewCard : Claim7 := { stood := { row := memNewRow, standIns := [], harness := (true, "600a6b2fc8d6bbfc66671a48e2d03ea8807c6860a075a44f300bbd1b31b8fd1f"), looks := true }, kinds := [], alts := [], laidByText := true, laidKinds := [.handle], laidTests := true, laidLooks := .later }
def MemNewCardSaid : Prop := Claim7.holds Tryd.pinned (.plain (OpenSpec.ofChange memNewSpec)) memNewCard

/-- THE TIED CARD OF 'pinnacelaw12.DmaRegs'. -/
def dmaRegsCard : Claim7 := { stood := { row := dmaRegsRow, standIns := [], harness := (true, "600a6b2fc8d6bbfc66671a48e2d03ea8807c6860a075a44f300bbd1b31b8fd1f"), looks := true }, kinds := [], alts := [], laidByText := true, laidKinds := [.handle, .data], laidTests := true, laidLooks := .later }
def DmaRegsCardSaid : Prop := Claim7.holds Tryd.pinned (.plain (OpenSpec.ofChange dmaRegsSpec)) dmaRegsCard

/-- THE TIED CARD OF 'pinnacelaw13.RingWalks'. -/
def ringWalksCard : Claim7 := { stood := { row := ringWalksRow, standIns := [], harness := (true, "600a6b2fc8d6bbfc66671a48e2d03ea8807c6860a075a44f300bbd1b31b8fd1f"), looks := true }, kinds := [], alts := [], laidByText := true, laidKinds := [.handle, .data], laidTests := true, laidLooks := .later }
def RingWalksCardSaid : Prop := Claim7.holds Tryd.pinned (.plain (OpenSpec.ofChange ringWalksSpec)) ringWalksCard

/-- THE SECOND FORM's CARD OF 'pinnacelaw12.DmaTicks'. -/
def dmaTicksUptoCard : Claim7 := { stood := { row := dmaTicksUptoRow, standIns := [], harness := (true, "600a6b2fc8d6bbfc66671a48e2d03ea8807c6860a075a44f300bbd1b31b8fd1f"), looks := true }, kinds := [], alts := [], laidByText := true, laidKinds := [.data], laidTests := true, laidLooks := .later }
def DmaTicksUptoCardSaid : Prop := Claim7.holds Tryd.pinned (.plain (OpenSpec.upto dmaTicksSpec)) dmaTicksUptoCard

/-- THE SECOND FORM's CARD OF 'pinnacelaw12.DmaHolds'. -/
def dmaHoldsUptoCard : Claim7 := { stood := { row := dmaHoldsUptoRow, standIns := [], harness := (true, "600a6b2fc8d6bbfc66671a48e2d03ea8807c6860a075a44f300bbd1b31b8fd1f"), looks := true }, kinds := [], alts := [], laidByText := true, laidKinds := [.data], laidTests := true, laidLooks := .later }
def DmaHoldsUptoCardSaid : Prop := Claim7.holds Tryd.pinned (.plain (OpenSpec.upto dmaHoldsSpec)) dmaHoldsUptoCard

/-- THE SECOND FORM's CARD OF 'pinnacelaw12.DmaStops'. -/
def dmaStopsUptoCard : Claim7 := { stood := { row := dmaStopsUptoRow, standIns := [], harness := (true, "600a6b2fc8d6bbfc66671a48e2d03ea8807c6860a075a44f300bbd1b31b8fd1f"), looks := true }, kinds := [], alts := [], laidByText := true, laidKinds := [.data], laidTests := true, laidLooks := .later }
def DmaStopsUptoCardSaid : Prop := Claim7.holds Tryd.pinned (.plain (OpenSpec.upto dmaStopsSpec)) dmaStopsUptoCard

/-- THE SECOND FORM's CARD OF 'pinnacelaw13.RingOnce'. -/
def ringOnceUptoCard : Claim7 := { stood := { row := ringOnceUptoRow, standIns := [], harness := (true, "600a6b2fc8d6bbfc66671a48e2d03ea8807c6860a075a44f300bbd1b31b8fd1f"), looks := true }, kinds := [], alts := [], laidByText := true, laidKinds := [.data], laidTests := true, laidLooks := .later }
def RingOnceUptoCardSaid : Prop := Claim7.holds Tryd.pinned (.plain (OpenSpec.upto ringOnceSpec)) ringOnceUptoCard

/-- THE SECOND FORM's CARD OF 'pinnacelaw06.MemNew'. -/
def memNewUptoCard : Claim7 := { stood := { row := memNewUptoRow, standIns := [], harness := (true, "600a6b2fc8d6bbfc66671a48e2d03ea8807c6860a075a44f300bbd1b31b8fd1f"), looks := true }, kinds := [], alts := [], laidByText := true, laidKinds := [.handle], laidTests := true, laidLooks := .later }
def MemNewUptoCardSaid : Prop := Claim7.holds Tryd.pinned (.plain (OpenSpec.upto memNewSpec)) memNewUptoCard

/-- THE SECOND FORM's CARD OF 'pinnacelaw12.DmaRegs'. -/
def dmaRegsUptoCard : Claim7 := { stood := { row := dmaRegsUptoRow, standIns := [], harness := (true, "600a6b2fc8d6bbfc66671a48e2d03ea8807c6860a075a44f300bbd1b31b8fd1f"), looks := true }, kinds := [], alts := [], laidByText := true, laidKinds := [.handle, .data], laidTests := true, laidLooks := .later }
def DmaRegsUptoCardSaid : Prop := Claim7.holds Tryd.pinned (.plain (OpenSpec.upto dmaRegsSpec)) dmaRegsUptoCard

/-- THE SECOND FORM's CARD OF 'pinnacelaw13.RingWalks'. -/
def ringWalksUptoCard : Claim7 := { stood := { row := ringWalksUptoRow, standIns := [], harness := (true, "600a6b2fc8d6bbfc66671a48e2d03ea8807c6860a075a44f300bbd1b31b8fd1f"), looks := true }, kinds := [], alts := [], laidByText := true, laidKinds := [.handle, .data], laidTests := true, laidLooks := .later }
def RingWalksUptoCardSaid : Prop := Claim7.holds Tryd.pinned (.plain (OpenSpec.upto ringWalksSpec)) ringWalksUptoCard
end Rows
end Go.Proofs.YtcakcfeipfjmpaaDoor

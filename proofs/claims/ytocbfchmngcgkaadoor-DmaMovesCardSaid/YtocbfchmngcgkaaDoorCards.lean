/-
  DERIVED. GIVEN WITH THE SEED: THE CARDS: each row of YtocbfchmngcgkaaDoorRows.lean that lists a variable, with what it lists TIED to the program's text (the seventh form; the later family's looks); each row that meets fmt, with fmt's text TOLD by the authors' own Lean function (tested against real Go, not proved from fmt's source: count such statements apart). THE CARD IS WHAT COUNTS. Prove the row's statement (the work); the ties are given (YtocbfchmngcgkaaDoorTie.lean); close each card by the builder's one call (the guide's Derived/Test/ToyasCard.lean, 'card_holds'). Laid BY PROGRAM, IN A SANDBOX (cutbox-door.mjs). By AI agents, Wed Nov 11 2026. No macro, syntax, notation, axiom, sorry.
-/
import Derived.Test.YtocbfchmngcgkaaDoorRows
import GoSem.ClaimSeven
namespace Go.Proofs.YtocbfchmngcgkaaDoor
namespace Rows

/-- THE TIED CARD OF 'pinnacelaw12.DmaTicks'. -/
def dmaTicksCard : Claim7 := { stood := { row := dmaTicksRow, standIns := [], harness := (true, "154619fde967fc1ce159f5b3defa16036591309b50dfe603c94ed46eca4beafb"), looks := true }, kinds := [], alts := [], laidByText := true, laidKinds := [.data], laidTests := true, laidLooks := .later }
def DmaTicksCardSaid : Prop := Claim7.holds Tryd.pinned (.plain (OpenSpec.ofChange dmaTicksSpec)) dmaTicksCard

/-- THE TIED CARD OF 'pinnacelaw12.DmaMoves'. -/
def dmaMovesCard : Claim7 := { stood := { row := dmaMovesRow, standIns := [], harness := (true, "154619fde967fc1ce159f5b3defa16036591309b50dfe603c94ed46eca4beafb"), looks := true }, kinds := [], alts := [], laidByText := true, laidKinds := [.data], laidTests := true, laidLooks := .later }
def DmaMovesCardSaid : Prop := Claim7.holds Tryd.pinned (.plain (OpenSpec.ofChange dmaMovesSpec)) dmaMovesCard

/-- THE TIED CARD OF 'pinnacelaw12.DmaRound'. -/
def dmaRoundCard : Claim7 := { stood := { row := dmaRoundRow, standIns := [], harness := (true, "154619fde967fc1ce159f5b3defa16036591309b50dfe603c94ed46eca4beafb"), looks := true }, kinds := [], alts := [], laidByText := true, laidKinds := [.data], laidTests := true, laidLooks := .later }
def DmaRoundCardSaid : Prop := Claim7.holds Tryd.pinned (.plain (OpenSpec.ofChange dmaRoundSpec)) dmaRoundCard

/-- THE TIED CARD OF 'pinnacelaw12.DmaHolds'. -/
def dmaHoldsCard : Claim7 := { stood := { row := dmaHoldsRow, standIns := [], harness := (true, "154619fde967fc1ce159f5b3defa16036591309b50dfe603c94ed46eca4beafb"), looks := true }, kinds := [], alts := [], laidByText := true, laidKinds := [.data], laidTests := true, laidLooks := .later }
def DmaHoldsCardSaid : Prop := Claim7.holds Tryd.pinned (.plain (OpenSpec.ofChange dmaHoldsSpec)) dmaHoldsCard

/-- THE TIED CARD OF 'pinnacelaw12.DmaStops'. -/
def dmaStopsCard : Claim7 := { stood := { row := dmaStopsRow, standIns := [], harness := (true, "154619fde967fc1ce159f5b3defa16036591309b50dfe603c94ed46eca4beafb"), looks := true }, kinds := [], alts := [], laidByText := true, laidKinds := [.data], laidTests := true, laidLooks := .later }
def DmaStopsCardSaid : Prop := Claim7.holds Tryd.pinned (.plain (OpenSpec.ofChange dmaStopsSpec)) dmaStopsCard

/-- THE TIED CARD OF 'pinnacelaw13.RingOnce'. -/
def ringOnceCard : Claim7 := { stood := { row := ringOnceRow, standIns := [], harness := (true, "154619fde967fc1ce159f5b3defa16036591309b50dfe603c94ed46eca4beafb"), looks := true }, kinds := [], alts := [], laidByText := true, laidKinds := [.data], laidTests := true, laidLooks := .later }
def RingOnceCardSaid : Prop := Claim7.holds Tryd.pinned (.plain (OpenSpec.ofChange ringOnceSpec)) ringOnceCard

/-- THE TIED CARD OF 'pinnacelaw16.NicSends'. -/
def nicSendsCard : Claim7 := { stood := { row := nicSendsRow, standIns := [], harness := (true, "154619fde967fc1ce159f5b3defa16036591309b50dfe603c94ed46eca4beafb"), looks := true }, kinds := [], alts := [], laidByText := true, laidKinds := [.data], laidTests := true, laidLooks := .later }
def NicSendsCardSaid : Prop := Claim7.holds Tryd.pinned (.plain (OpenSpec.ofChange nicSendsSpec)) nicSendsCard

/-- THE TIED CARD OF 'pinnacelaw06.MemNew'. -/
def memNewCard : Claim7 := { stood := { row := memNewRow, standIns := [], harness := (true, "154619fde967fc1ce159f5b3defa16036591309b50dfe603c94ed46eca4beafb"), looks := true }, kinds := [], alts := [], laidByText := true, laidKinds := [.handle], laidTests := true, laidLooks := .later }
def MemNewCardSaid : Prop := Claim7.holds Tryd.pinned (.plain (OpenSpec.ofChange memNewSpec)) memNewCard

/-- THE TIED CARD OF 'pinnacelaw12.DmaRegs'. -/
def dmaRegsCard : Claim7 := { stood := { row := dmaRegsRow, standIns := [], harness := (true, "154619fde967fc1ce159f5b3defa16036591309b50dfe603c94ed46eca4beafb"), looks := true }, kinds := [], alts := [], laidByText := true, laidKinds := [.handle, .data], laidTests := true, laidLooks := .later }
def DmaRegsCardSaid : Prop := Claim7.holds Tryd.pinned (.plain (OpenSpec.ofChange dmaRegsSpec)) dmaRegsCard

/-- THE TIED CARD OF 'pinnacelaw13.RingWalks'. -/
def ringWalksCard : Claim7 := { stood := { row := ringWalksRow, standIns := [], harness := (true, "154619fde967fc1ce159f5b3defa16036591309b50dfe603c94ed46eca4beafb"), looks := true }, kinds := [], alts := [], laidByText := true, laidKinds := [.handle, .data], laidTests := true, laidLooks := .later }
def RingWalksCardSaid : Prop := Claim7.holds Tryd.pinned (.plain (OpenSpec.ofChange ringWalksSpec)) ringWalksCard

/-- THE TIED CARD OF 'pinnacelaw16.NicBack'. -/
def nicBackCard : Claim7 := { stood := { row := nicBackRow, standIns := [], harness := (true, "154619fde967fc1ce159f5b3defa16036591309b50dfe603c94ed46eca4beafb"), looks := true }, kinds := [], alts := [], laidByText := true, laidKinds := [.data], laidTests := true, laidLooks := .later }
def NicBackCardSaid : Prop := Claim7.holds Tryd.pinned (.plain (OpenSpec.ofChange nicBackSpec)) nicBackCard

/-- THE TIED CARD OF 'pinnacelaw16.NicHolds'. -/
def nicHoldsCard : Claim7 := { stood := { row := nicHoldsRow, standIns := [], harness := (true, "154619fde967fc1ce159f5b3defa16036591309b50dfe603c94ed46eca4beafb"), looks := true }, kinds := [], alts := [], laidByText := true, laidKinds := [.data], laidTests := true, laidLooks := .later }
def NicHoldsCardSaid : Prop := Claim7.holds Tryd.pinned (.plain (OpenSpec.ofChange nicHoldsSpec)) nicHoldsCard

/-- THE TIED CARD OF 'pinnacelaw13.RingBack'. -/
def ringBackCard : Claim7 := { stood := { row := ringBackRow, standIns := [], harness := (true, "154619fde967fc1ce159f5b3defa16036591309b50dfe603c94ed46eca4beafb"), looks := true }, kinds := [], alts := [], laidByText := true, laidKinds := [.handle, .data], laidTests := true, laidLooks := .later }
def RingBackCardSaid : Prop := Claim7.holds Tryd.pinned (.plain (OpenSpec.ofChange ringBackSpec)) ringBackCard

/-- THE TIED CARD OF 'pinnacelaw15.BlkReads'. -/
def blkReadsCard : Claim7 := { stood := { row := blkReadsRow, standIns := [], harness := (true, "154619fde967fc1ce159f5b3defa16036591309b50dfe603c94ed46eca4beafb"), looks := true }, kinds := [], alts := [], laidByText := true, laidKinds := [.data], laidTests := true, laidLooks := .later }
def BlkReadsCardSaid : Prop := Claim7.holds Tryd.pinned (.plain (OpenSpec.ofChange blkReadsSpec)) blkReadsCard

/-- THE TIED CARD OF 'pinnacelaw15.BlkWrites'. -/
def blkWritesCard : Claim7 := { stood := { row := blkWritesRow, standIns := [], harness := (true, "154619fde967fc1ce159f5b3defa16036591309b50dfe603c94ed46eca4beafb"), looks := true }, kinds := [], alts := [], laidByText := true, laidKinds := [.data], laidTests := true, laidLooks := .later }
def BlkWritesCardSaid : Prop := Claim7.holds Tryd.pinned (.plain (OpenSpec.ofChange blkWritesSpec)) blkWritesCard

/-- THE SECOND FORM's CARD OF 'pinnacelaw12.DmaTicks'. -/
def dmaTicksUptoCard : Claim7 := { stood := { row := dmaTicksUptoRow, standIns := [], harness := (true, "154619fde967fc1ce159f5b3defa16036591309b50dfe603c94ed46eca4beafb"), looks := true }, kinds := [], alts := [], laidByText := true, laidKinds := [.data], laidTests := true, laidLooks := .later }
def DmaTicksUptoCardSaid : Prop := Claim7.holds Tryd.pinned (.plain (OpenSpec.upto dmaTicksSpec)) dmaTicksUptoCard

/-- THE SECOND FORM's CARD OF 'pinnacelaw12.DmaMoves'. -/
def dmaMovesUptoCard : Claim7 := { stood := { row := dmaMovesUptoRow, standIns := [], harness := (true, "154619fde967fc1ce159f5b3defa16036591309b50dfe603c94ed46eca4beafb"), looks := true }, kinds := [], alts := [], laidByText := true, laidKinds := [.data], laidTests := true, laidLooks := .later }
def DmaMovesUptoCardSaid : Prop := Claim7.holds Tryd.pinned (.plain (OpenSpec.upto dmaMovesSpec)) dmaMovesUptoCard

/-- THE SECOND FORM's CARD OF 'pinnacelaw12.DmaRound'. -/
def dmaRoundUptoCard : Claim7 := { stood := { row := dmaRoundUptoRow, standIns := [], harness := (true, "154619fde967fc1ce159f5b3defa16036591309b50dfe603c94ed46eca4beafb"), looks := true }, kinds := [], alts := [], laidByText := true, laidKinds := [.data], laidTests := true, laidLooks := .later }
def DmaRoundUptoCardSaid : Prop := Claim7.holds Tryd.pinned (.plain (OpenSpec.upto dmaRoundSpec)) dmaRoundUptoCard

/-- THE SECOND FORM's CARD OF 'pinnacelaw12.DmaHolds'. -/
def dmaHoldsUptoCard : Claim7 := { stood := { row := dmaHoldsUptoRow, standIns := [], harness := (true, "154619fde967fc1ce159f5b3defa16036591309b50dfe603c94ed46eca4beafb"), looks := true }, kinds := [], alts := [], laidByText := true, laidKinds := [.data], laidTests := true, laidLooks := .later }
def DmaHoldsUptoCardSaid : Prop := Claim7.holds Tryd.pinned (.plain (OpenSpec.upto dmaHoldsSpec)) dmaHoldsUptoCard

/-- THE SECOND FORM's CARD OF 'pinnacelaw12.DmaStops'. -/
def dmaStopsUptoCard : Claim7 := { stood := { row := dmaStopsUptoRow, standIns := [], harness := (true, "154619fde967fc1ce159f5b3defa16036591309b50dfe603c94ed46eca4beafb"), looks := true }, kinds := [], alts := [], laidByText := true, laidKinds := [.data], laidTests := true, laidLooks := .later }
def DmaStopsUptoCardSaid : Prop := Claim7.holds Tryd.pinned (.plain (OpenSpec.upto dmaStopsSpec)) dmaStopsUptoCard

/-- THE SECOND FORM's CARD OF 'pinnacelaw13.RingOnce'. -/
def ringOnceUptoCard : Claim7 := { stood := { row := ringOnceUptoRow, standIns := [], harness := (true, "154619fde967fc1ce159f5b3defa16036591309b50dfe603c94ed46eca4beafb"), looks := true }, kinds := [], alts := [], laidByText := true, laidKinds := [.data], laidTests := true, laidLooks := .later }
def RingOnceUptoCardSaid : Prop := Claim7.holds Tryd.pinned (.plain (OpenSpec.upto ringOnceSpec)) ringOnceUptoCard

/-- THE SECOND FORM's CARD OF 'pinnacelaw16.NicSends'. -/
def nicSendsUptoCard : Claim7 := { stood := { row := nicSendsUptoRow, standIns := [], harness := (true, "154619fde967fc1ce159f5b3defa16036591309b50dfe603c94ed46eca4beafb"), looks := true }, kinds := [], alts := [], laidByText := true, laidKinds := [.data], laidTests := true, laidLooks := .later }
def NicSendsUptoCardSaid : Prop := Claim7.holds Tryd.pinned (.plain (OpenSpec.upto nicSendsSpec)) nicSendsUptoCard

/-- THE SECOND FORM's CARD OF 'pinnacelaw06.MemNew'. -/
def memNewUptoCard : Claim7 := { stood := { row := memNewUptoRow, standIns := [], harness := (true, "154619fde967fc1ce159f5b3defa16036591309b50dfe603c94ed46eca4beafb"), looks := true }, kinds := [], alts := [], laidByText := true, laidKinds := [.handle], laidTests := true, laidLooks := .later }
def MemNewUptoCardSaid : Prop := Claim7.holds Tryd.pinned (.plain (OpenSpec.upto memNewSpec)) memNewUptoCard

/-- THE SECOND FORM's CARD OF 'pinnacelaw12.DmaRegs'. -/
def dmaRegsUptoCard : Claim7 := { stood := { row := dmaRegsUptoRow, standIns := [], harness := (true, "154619fde967fc1ce159f5b3defa16036591309b50dfe603c94ed46eca4beafb"), looks := true }, kinds := [], alts := [], laidByText := true, laidKinds := [.handle, .data], laidTests := true, laidLooks := .later }
def DmaRegsUptoCardSaid : Prop := Claim7.holds Tryd.pinned (.plain (OpenSpec.upto dmaRegsSpec)) dmaRegsUptoCard

/-- THE SECOND FORM's CARD OF 'pinnacelaw13.RingWalks'. -/
def ringWalksUptoCard : Claim7 := { stood := { row := ringWalksUptoRow, standIns := [], harness := (true, "154619fde967fc1ce159f5b3defa16036591309b50dfe603c94ed46eca4beafb"), looks := true }, kinds := [], alts := [], laidByText := true, laidKinds := [.handle, .data], laidTests := true, laidLooks := .later }
def RingWalksUptoCardSaid : Prop := Claim7.holds Tryd.pinned (.plain (OpenSpec.upto ringWalksSpec)) ringWalksUptoCard

/-- THE SECOND FORM's CARD OF 'pinnacelaw16.NicBack'. -/
def nicBackUptoCard : Claim7 := { stood := { row := nicBackUptoRow, standIns := [], harness := (true, "154619fde967fc1ce159f5b3defa16036591309b50dfe603c94ed46eca4beafb"), looks := true }, kinds := [], alts := [], laidByText := true, laidKinds := [.data], laidTests := true, laidLooks := .later }
def NicBackUptoCardSaid : Prop := Claim7.holds Tryd.pinned (.plain (OpenSpec.upto nicBackSpec)) nicBackUptoCard

/-- THE SECOND FORM's CARD OF 'pinnacelaw16.NicHolds'. -/
def nicHoldsUptoCard : Claim7 := { stood := { row := nicHoldsUptoRow, standIns := [], harness := (true, "154619fde967fc1ce159f5b3defa16036591309b50dfe603c94ed46eca4beafb"), looks := true }, kinds := [], alts := [], laidByText := true, laidKinds := [.data], laidTests := true, laidLooks := .later }
def NicHoldsUptoCardSaid : Prop := Claim7.holds Tryd.pinned (.plain (OpenSpec.upto nicHoldsSpec)) nicHoldsUptoCard

/-- THE SECOND FORM's CARD OF 'pinnacelaw13.RingBack'. -/
def ringBackUptoCard : Claim7 := { stood := { row := ringBackUptoRow, standIns := [], harness := (true, "154619fde967fc1ce159f5b3defa16036591309b50dfe603c94ed46eca4beafb"), looks := true }, kinds := [], alts := [], laidByText := true, laidKinds := [.handle, .data], laidTests := true, laidLooks := .later }
def RingBackUptoCardSaid : Prop := Claim7.holds Tryd.pinned (.plain (OpenSpec.upto ringBackSpec)) ringBackUptoCard

/-- THE SECOND FORM's CARD OF 'pinnacelaw15.BlkReads'. -/
def blkReadsUptoCard : Claim7 := { stood := { row := blkReadsUptoRow, standIns := [], harness := (true, "154619fde967fc1ce159f5b3defa16036591309b50dfe603c94ed46eca4beafb"), looks := true }, kinds := [], alts := [], laidByText := true, laidKinds := [.data], laidTests := true, laidLooks := .later }
def BlkReadsUptoCardSaid : Prop := Claim7.holds Tryd.pinned (.plain (OpenSpec.upto blkReadsSpec)) blkReadsUptoCard

/-- THE SECOND FORM's CARD OF 'pinnacelaw15.BlkWrites'. -/
def blkWritesUptoCard : Claim7 := { stood := { row := blkWritesUptoRow, standIns := [], harness := (true, "154619fde967fc1ce159f5b3defa16036591309b50dfe603c94ed46eca4beafb"), looks := true }, kinds := [], alts := [], laidByText := true, laidKinds := [.data], laidTests := true, laidLooks := .later }
def BlkWritesUptoCardSaid : Prop := Claim7.holds Tryd.pinned (.plain (OpenSpec.upto blkWritesSpec)) blkWritesUptoCard
end Rows
end Go.Proofs.YtocbfchmngcgkaaDoor

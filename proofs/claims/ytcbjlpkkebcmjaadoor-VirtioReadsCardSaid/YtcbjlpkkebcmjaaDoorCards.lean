/-
  DERIVED. GIVEN WITH THE SEED: THE CARDS: each row of YtcbjlpkkebcmjaaDoorRows.lean that lists a variable, with what it lists TIED to the program's text (the seventh form; the later family's looks); each row that meets fmt, with fmt's text TOLD by the authors' own Lean function (tested against real Go, not proved from fmt's source: count such statements apart). THE CARD IS WHAT COUNTS. Prove the row's statement (the work); the ties are given (YtcbjlpkkebcmjaaDoorTie.lean); close each card by the builder's one call (the guide's Derived/Test/ToyasCard.lean, 'card_holds'). Laid BY PROGRAM, IN A SANDBOX (cutbox-door.mjs). By AI agents, Wed Nov 11 2026. No macro, syntax, notation, axiom, sorry.
-/
import Derived.Test.YtcbjlpkkebcmjaaDoorRows
import GoSem.ClaimSeven
namespace Go.Proofs.YtcbjlpkkebcmjaaDoor
namespace Rows

/-- THE TIED CARD OF 'pinnacelaw07.BusQueues'. -/
def busQueuesCard : Claim7 := { stood := { row := busQueuesRow, standIns := [], harness := (true, "800dac7af0c079357a41b0eba3b2fa17727c023efbb326f721091abf26d24443"), looks := true }, kinds := [], alts := [], laidByText := true, laidKinds := [.handle, .data], laidTests := true, laidLooks := .later }
def BusQueuesCardSaid : Prop := Claim7.holds Tryd.pinned (.plain (OpenSpec.ofChange busQueuesSpec)) busQueuesCard

/-- THE TIED CARD OF 'pinnacelaw14.VirtioReads'. -/
def virtioReadsCard : Claim7 := { stood := { row := virtioReadsRow, standIns := [], harness := (true, "800dac7af0c079357a41b0eba3b2fa17727c023efbb326f721091abf26d24443"), looks := true }, kinds := [], alts := [], laidByText := true, laidKinds := [.handle], laidTests := true, laidLooks := .later }
def VirtioReadsCardSaid : Prop := Claim7.holds Tryd.pinned (.plain (OpenSpec.ofChange virtioReadsSpec)) virtioReadsCard

/-- THE TIED CARD OF 'pinnacelaw16.NicSends'. -/
def nicSendsCard : Claim7 := { stood := { row := nicSendsRow, standIns := [], harness := (true, "800dac7af0c079357a41b0eba3b2fa17727c023efbb326f721091abf26d24443"), looks := true }, kinds := [], alts := [], laidByText := true, laidKinds := [.data], laidTests := true, laidLooks := .later }
def NicSendsCardSaid : Prop := Claim7.holds Tryd.pinned (.plain (OpenSpec.ofChange nicSendsSpec)) nicSendsCard

/-- THE TIED CARD OF 'pinnacelaw13.RingWalks'. -/
def ringWalksCard : Claim7 := { stood := { row := ringWalksRow, standIns := [], harness := (true, "800dac7af0c079357a41b0eba3b2fa17727c023efbb326f721091abf26d24443"), looks := true }, kinds := [], alts := [], laidByText := true, laidKinds := [.handle, .data], laidTests := true, laidLooks := .later }
def RingWalksCardSaid : Prop := Claim7.holds Tryd.pinned (.plain (OpenSpec.ofChange ringWalksSpec)) ringWalksCard

/-- THE TIED CARD OF 'pinnacelaw16.NicBack'. -/
def nicBackCard : Claim7 := { stood := { row := nicBackRow, standIns := [], harness := (true, "800dac7af0c079357a41b0eba3b2fa17727c023efbb326f721091abf26d24443"), looks := true }, kinds := [], alts := [], laidByText := true, laidKinds := [.data], laidTests := true, laidLooks := .later }
def NicBackCardSaid : Prop := Claim7.holds Tryd.pinned (.plain (OpenSpec.ofChange nicBackSpec)) nicBackCard

/-- THE TIED CARD OF 'pinnacelaw16.NicHolds'. -/
def nicHoldsCard : Claim7 := { stood := { row := nicHoldsRow, standIns := [], harness := (true, "800dac7af0c079357a41b0eba3b2fa17727c023efbb326f721091abf26d24443"), looks := true }, kinds := [], alts := [], laidByText := true, laidKinds := [.data], laidTests := true, laidLooks := .later }
def NicHoldsCardSaid : Prop := Claim7.holds Tryd.pinned (.plain (OpenSpec.ofChange nicHoldsSpec)) nicHoldsCard

/-- THE TIED CARD OF 'pinnacelaw13.RingBack'. -/
def ringBackCard : Claim7 := { stood := { row := ringBackRow, standIns := [], harness := (true, "800dac7af0c079357a41b0eba3b2fa17727c023efbb326f721091abf26d24443"), looks := true }, kinds := [], alts := [], laidByText := true, laidKinds := [.handle, .data], laidTests := true, laidLooks := .later }
def RingBackCardSaid : Prop := Claim7.holds Tryd.pinned (.plain (OpenSpec.ofChange ringBackSpec)) ringBackCard

/-- THE TIED CARD OF 'pinnacelaw15.BlkReads'. -/
def blkReadsCard : Claim7 := { stood := { row := blkReadsRow, standIns := [], harness := (true, "800dac7af0c079357a41b0eba3b2fa17727c023efbb326f721091abf26d24443"), looks := true }, kinds := [], alts := [], laidByText := true, laidKinds := [.data], laidTests := true, laidLooks := .later }
def BlkReadsCardSaid : Prop := Claim7.holds Tryd.pinned (.plain (OpenSpec.ofChange blkReadsSpec)) blkReadsCard

/-- THE TIED CARD OF 'pinnacelaw15.BlkWrites'. -/
def blkWritesCard : Claim7 := { stood := { row := blkWritesRow, standIns := [], harness := (true, "800dac7af0c079357a41b0eba3b2fa17727c023efbb326f721091abf26d24443"), looks := true }, kinds := [], alts := [], laidByText := true, laidKinds := [.data], laidTests := true, laidLooks := .later }
def BlkWritesCardSaid : Prop := Claim7.holds Tryd.pinned (.plain (OpenSpec.ofChange blkWritesSpec)) blkWritesCard

/-- THE SECOND FORM's CARD OF 'pinnacelaw07.BusQueues'. -/
def busQueuesUptoCard : Claim7 := { stood := { row := busQueuesUptoRow, standIns := [], harness := (true, "800dac7af0c079357a41b0eba3b2fa17727c023efbb326f721091abf26d24443"), looks := true }, kinds := [], alts := [], laidByText := true, laidKinds := [.handle, .data], laidTests := true, laidLooks := .later }
def BusQueuesUptoCardSaid : Prop := Claim7.holds Tryd.pinned (.plain (OpenSpec.upto busQueuesSpec)) busQueuesUptoCard

/-- THE SECOND FORM's CARD OF 'pinnacelaw14.VirtioReads'. -/
def virtioReadsUptoCard : Claim7 := { stood := { row := virtioReadsUptoRow, standIns := [], harness := (true, "800dac7af0c079357a41b0eba3b2fa17727c023efbb326f721091abf26d24443"), looks := true }, kinds := [], alts := [], laidByText := true, laidKinds := [.handle], laidTests := true, laidLooks := .later }
def VirtioReadsUptoCardSaid : Prop := Claim7.holds Tryd.pinned (.plain (OpenSpec.upto virtioReadsSpec)) virtioReadsUptoCard

/-- THE SECOND FORM's CARD OF 'pinnacelaw16.NicSends'. -/
def nicSendsUptoCard : Claim7 := { stood := { row := nicSendsUptoRow, standIns := [], harness := (true, "800dac7af0c079357a41b0eba3b2fa17727c023efbb326f721091abf26d24443"), looks := true }, kinds := [], alts := [], laidByText := true, laidKinds := [.data], laidTests := true, laidLooks := .later }
def NicSendsUptoCardSaid : Prop := Claim7.holds Tryd.pinned (.plain (OpenSpec.upto nicSendsSpec)) nicSendsUptoCard

/-- THE SECOND FORM's CARD OF 'pinnacelaw13.RingWalks'. -/
def ringWalksUptoCard : Claim7 := { stood := { row := ringWalksUptoRow, standIns := [], harness := (true, "800dac7af0c079357a41b0eba3b2fa17727c023efbb326f721091abf26d24443"), looks := true }, kinds := [], alts := [], laidByText := true, laidKinds := [.handle, .data], laidTests := true, laidLooks := .later }
def RingWalksUptoCardSaid : Prop := Claim7.holds Tryd.pinned (.plain (OpenSpec.upto ringWalksSpec)) ringWalksUptoCard

/-- THE SECOND FORM's CARD OF 'pinnacelaw16.NicBack'. -/
def nicBackUptoCard : Claim7 := { stood := { row := nicBackUptoRow, standIns := [], harness := (true, "800dac7af0c079357a41b0eba3b2fa17727c023efbb326f721091abf26d24443"), looks := true }, kinds := [], alts := [], laidByText := true, laidKinds := [.data], laidTests := true, laidLooks := .later }
def NicBackUptoCardSaid : Prop := Claim7.holds Tryd.pinned (.plain (OpenSpec.upto nicBackSpec)) nicBackUptoCard

/-- THE SECOND FORM's CARD OF 'pinnacelaw16.NicHolds'. -/
def nicHoldsUptoCard : Claim7 := { stood := { row := nicHoldsUptoRow, standIns := [], harness := (true, "800dac7af0c079357a41b0eba3b2fa17727c023efbb326f721091abf26d24443"), looks := true }, kinds := [], alts := [], laidByText := true, laidKinds := [.data], laidTests := true, laidLooks := .later }
def NicHoldsUptoCardSaid : Prop := Claim7.holds Tryd.pinned (.plain (OpenSpec.upto nicHoldsSpec)) nicHoldsUptoCard

/-- THE SECOND FORM's CARD OF 'pinnacelaw13.RingBack'. -/
def ringBackUptoCard : Claim7 := { stood := { row := ringBackUptoRow, standIns := [], harness := (true, "800dac7af0c079357a41b0eba3b2fa17727c023efbb326f721091abf26d24443"), looks := true }, kinds := [], alts := [], laidByText := true, laidKinds := [.handle, .data], laidTests := true, laidLooks := .later }
def RingBackUptoCardSaid : Prop := Claim7.holds Tryd.pinned (.plain (OpenSpec.upto ringBackSpec)) ringBackUptoCard

/-- THE SECOND FORM's CARD OF 'pinnacelaw15.BlkReads'. -/
def blkReadsUptoCard : Claim7 := { stood := { row := blkReadsUptoRow, standIns := [], harness := (true, "800dac7af0c079357a41b0eba3b2fa17727c023efbb326f721091abf26d24443"), looks := true }, kinds := [], alts := [], laidByText := true, laidKinds := [.data], laidTests := true, laidLooks := .later }
def BlkReadsUptoCardSaid : Prop := Claim7.holds Tryd.pinned (.plain (OpenSpec.upto blkReadsSpec)) blkReadsUptoCard

/-- THE SECOND FORM's CARD OF 'pinnacelaw15.BlkWrites'. -/
def blkWritesUptoCard : Claim7 := { stood := { row := blkWritesUptoRow, standIns := [], harness := (true, "800dac7af0c079357a41b0eba3b2fa17727c023efbb326f721091abf26d24443"), looks := true }, kinds := [], alts := [], laidByText := true, laidKinds := [.data], laidTests := true, laidLooks := .later }
def BlkWritesUptoCardSaid : Prop := Claim7.holds Tryd.pinned (.plain (OpenSpec.upto blkWritesSpec)) blkWritesUptoCard
end Rows
end Go.Proofs.YtcbjlpkkebcmjaaDoor
